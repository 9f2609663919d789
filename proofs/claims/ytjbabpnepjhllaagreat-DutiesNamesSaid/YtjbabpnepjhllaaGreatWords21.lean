/- Words for kernels and facts in memory. -/
import Derived.Test.YtjbabpnepjhllaaGreatWordsA
import Derived.Test.YtjbabpnepjhllaaGreatPlainFact
namespace Go.Proofs.YtjbabpnepjhllaaGreat
open Go.RowKit

def factRow (f : Fct) : List Value := [.int .i64 f.kind, .int .i64 f.a, .int .i64 f.b]
def kvarRow (v : KVar) : List Value := [.int .i64 v.limbs, .bool v.secret, .int .i64 v.mode]
def kopRow (o : KOp) : List Value := [.int .i64 o.kind, .int .i64 o.d, .int .i64 o.e, .int .i64 o.a, .int .i64 o.b, .int .i64 o.c, .int .u64 o.imm]
def FactsAt (w : World) (F : Nat → Prop) (v : Value) (l : List Fct) : Prop := Rows w F 3 v (l.map factRow)
def KVarsAt (w : World) (F : Nat → Prop) (v : Value) (l : List KVar) : Prop := Rows w F 3 v (l.map kvarRow)
def KOpsAt (w : World) (F : Nat → Prop) (v : Value) (l : List KOp) : Prop := Rows w F 7 v (l.map kopRow)
/-- A slice of ints. -/
def NumsAt (w : World) (F : Nat → Prop) (v : Value) (l : List Int) : Prop := Rows w F 1 v (l.map fun x => [Value.int .i64 x])
def BitsAt (w : World) (F : Nat → Prop) (v : Value) (l : List Bool) : Prop := Rows w F 1 v (l.map fun x => [Value.bool x])

theorem rows_form {w : World} {F : Nat → Prop} {sz : Nat} {v : Value} {T : Type} {f : T → List Value} {l : List T} (h : Rows w F sz v (l.map f)) : ∃ A c, v = .slice A l.length c ∧ l.length ≤ c := by
  obtain ⟨A, c, rfl, hc, _, _⟩ := h
  rw [List.length_map] at hc ⊢
  exact ⟨A, c, rfl, hc⟩
theorem rows_len {w : World} {F : Nat → Prop} {sz : Nat} {T : Type} {f : T → List Value} {l : List T} {A : Option Addr} {n c : Nat} (h : Rows w F sz (.slice A n c) (l.map f)) : n = l.length ∧ n ≤ c := by
  obtain ⟨A', c', hv, hc, _, _⟩ := h
  cases hv
  rw [List.length_map] at *
  exact ⟨rfl, hc⟩
theorem rows_at {w : World} {F : Nat → Prop} {sz : Nat} {A : Option Addr} {n c : Nat} {T : Type} {f : T → List Value} {l : List T} (h : Rows w F sz (.slice A n c) (l.map f)) {k : Nat} {x : T} (hk : l[k]? = some x) :
    ∃ b o, A = some ⟨b, o, none⟩ ∧ F b ∧ ∀ (j : Nat) (u : Value), (f x)[j]? = some u → w.cell? ⟨b, o + k * sz + j, none⟩ = some u := by
  obtain ⟨A', c', hv, hc, hl, hne⟩ := h
  cases hv
  have h1 : (l.map f)[k]? = some (f x) := by rw [List.getElem?_map, hk]; rfl
  obtain ⟨b, o, rfl, hF, hat⟩ := hne (fun e => by rw [e] at h1; cases h1)
  exact ⟨b, o, rfl, hF, fun j u hu => hat k j _ u h1 hu⟩
theorem KOpsAt.at_ {w : World} {F : Nat → Prop} {A : Option Addr} {n c : Nat} {l : List KOp} (h : KOpsAt w F (.slice A n c) l) {k : Nat} {x : KOp} (hk : l[k]? = some x) :
    ∃ b o, A = some ⟨b, o, none⟩ ∧ F b ∧ w.cell? ⟨b, o + k * 7, none⟩ = some (.int .i64 x.kind) ∧ w.cell? ⟨b, o + k * 7 + 1, none⟩ = some (.int .i64 x.d) ∧ w.cell? ⟨b, o + k * 7 + 2, none⟩ = some (.int .i64 x.e) ∧
      w.cell? ⟨b, o + k * 7 + 3, none⟩ = some (.int .i64 x.a) ∧ w.cell? ⟨b, o + k * 7 + 4, none⟩ = some (.int .i64 x.b) ∧ w.cell? ⟨b, o + k * 7 + 5, none⟩ = some (.int .i64 x.c) ∧
      w.cell? ⟨b, o + k * 7 + 6, none⟩ = some (.int .u64 x.imm) := by
  obtain ⟨b, o, hA, hF, hc⟩ := rows_at h hk
  exact ⟨b, o, hA, hF, hc 0 _ rfl, hc 1 _ rfl, hc 2 _ rfl, hc 3 _ rfl, hc 4 _ rfl, hc 5 _ rfl, hc 6 _ rfl⟩
theorem KVarsAt.at_ {w : World} {F : Nat → Prop} {A : Option Addr} {n c : Nat} {l : List KVar} (h : KVarsAt w F (.slice A n c) l) {k : Nat} {x : KVar} (hk : l[k]? = some x) :
    ∃ b o, A = some ⟨b, o, none⟩ ∧ F b ∧ w.cell? ⟨b, o + k * 3, none⟩ = some (.int .i64 x.limbs) ∧ w.cell? ⟨b, o + k * 3 + 1, none⟩ = some (.bool x.secret) ∧ w.cell? ⟨b, o + k * 3 + 2, none⟩ = some (.int .i64 x.mode) := by
  obtain ⟨b, o, hA, hF, hc⟩ := rows_at h hk
  exact ⟨b, o, hA, hF, hc 0 _ rfl, hc 1 _ rfl, hc 2 _ rfl⟩
theorem FactsAt.at_ {w : World} {F : Nat → Prop} {A : Option Addr} {n c : Nat} {l : List Fct} (h : FactsAt w F (.slice A n c) l) {k : Nat} {x : Fct} (hk : l[k]? = some x) :
    ∃ b o, A = some ⟨b, o, none⟩ ∧ F b ∧ w.cell? ⟨b, o + k * 3, none⟩ = some (.int .i64 x.kind) ∧ w.cell? ⟨b, o + k * 3 + 1, none⟩ = some (.int .i64 x.a) ∧ w.cell? ⟨b, o + k * 3 + 2, none⟩ = some (.int .i64 x.b) := by
  obtain ⟨b, o, hA, hF, hc⟩ := rows_at h hk
  exact ⟨b, o, hA, hF, hc 0 _ rfl, hc 1 _ rfl, hc 2 _ rfl⟩
theorem NumsAt.at_ {w : World} {F : Nat → Prop} {A : Option Addr} {n c : Nat} {l : List Int} (h : NumsAt w F (.slice A n c) l) {k : Nat} {x : Int} (hk : l[k]? = some x) :
    ∃ b o, A = some ⟨b, o, none⟩ ∧ F b ∧ w.cell? ⟨b, o + k, none⟩ = some (.int .i64 x) := by
  obtain ⟨b, o, hA, hF, hc⟩ := rows_at h hk
  exact ⟨b, o, hA, hF, by simpa using hc 0 _ rfl⟩
theorem BitsAt.at_ {w : World} {F : Nat → Prop} {A : Option Addr} {n c : Nat} {l : List Bool} (h : BitsAt w F (.slice A n c) l) {k : Nat} {x : Bool} (hk : l[k]? = some x) :
    ∃ b o, A = some ⟨b, o, none⟩ ∧ F b ∧ w.cell? ⟨b, o + k, none⟩ = some (.bool x) := by
  obtain ⟨b, o, hA, hF, hc⟩ := rows_at h hk
  exact ⟨b, o, hA, hF, by simpa using hc 0 _ rfl⟩

/-- Within 64 bits. -/
def In64 (x : Int) : Prop := -9223372036854775808 ≤ x ∧ x ≤ 9223372036854775807
structure FctOk (f : Fct) : Prop where
  kind : In64 f.kind
  a : In64 f.a
  b : In64 f.b
structure KOpOk (o : KOp) : Prop where
  kind : In64 o.kind
  d : In64 o.d
  e : In64 o.e
  a : In64 o.a
  b : In64 o.b
  c : In64 o.c
  imm : o.imm < 18446744073709551616
/-- A kernel's three cells, and what stands behind them. -/
structure KernAt (w : World) (F : Nat → Prop) (cs : List Value) (k : Krn) : Prop where
  row : ∃ vv vo vr, cs = [vv, vo, vr] ∧ KVarsAt w F vv k.vars ∧ KOpsAt w F vo k.ops ∧ KOpsAt w F vr k.reqs
  nv : k.vars.length ≤ 9223372036854775807
  no : k.ops.length ≤ 9223372036854775807
  nr : k.reqs.length ≤ 9223372036854775807
  vars : ∀ v ∈ k.vars, In64 v.limbs ∧ In64 v.mode
  ops : ∀ o ∈ k.ops, KOpOk o
  reqs : ∀ o ∈ k.reqs, KOpOk o
theorem KernAt.keep {w w' : World} {F : Nat → Prop} {cs : List Value} {k : Krn} (h : KernAt w F cs k) (hk : SameOn F w w') : KernAt w' F cs k := by
  obtain ⟨vv, vo, vr, h1, h2, h3, h4⟩ := h.row
  exact ⟨⟨vv, vo, vr, h1, Rows.keep h2 hk, Rows.keep h3 hk, Rows.keep h4 hk⟩, h.nv, h.no, h.nr, h.vars, h.ops, h.reqs⟩
theorem KernAt.mono {w : World} {F G : Nat → Prop} {cs : List Value} {k : Krn} (h : KernAt w F cs k) (hk : ∀ k, F k → G k) : KernAt w G cs k := by
  obtain ⟨vv, vo, vr, h1, h2, h3, h4⟩ := h.row
  exact ⟨⟨vv, vo, vr, h1, Rows.mono h2 hk, Rows.mono h3 hk, Rows.mono h4 hk⟩, h.nv, h.no, h.nr, h.vars, h.ops, h.reqs⟩
theorem kern_next {w w' : World} {cs : List Value} {k : Krn} (h : KernAt w (fun k => k < w.heap.size) cs k) (hb : Below w.heap.size w w') : KernAt w' (fun k => k < w'.heap.size) cs k :=
  (h.keep (SameOn.of_below hb fun _ hk => hk)).mono fun _ hk => Nat.lt_of_lt_of_le hk hb.size
theorem rows_next {w w' : World} {sz : Nat} {v : Value} {l : List (List Value)} (h : Rows w (fun k => k < w.heap.size) sz v l) (hb : Below w.heap.size w w') : Rows w' (fun k => k < w'.heap.size) sz v l :=
  (h.keep (SameOn.of_below hb fun _ hk => hk)).mono fun _ hk => Nat.lt_of_lt_of_le hk hb.size
end Go.Proofs.YtjbabpnepjhllaaGreat
