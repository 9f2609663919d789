/- Words for limb programs in memory. -/
import Derived.Test.YtppoiahhaclleaaDoorWordsA
import Derived.Test.YtppoiahhaclleaaDoorPlainChk14
namespace Go.Proofs.YtppoiahhaclleaaDoor
open Go.RowKit

def bufRow (b : Bf) : List Value := [.int .i64 b.size, .int .i64 b.kind, .bool b.secret]
def opRow (o : LOp) : List Value := [.int .i64 o.kind, .int .i64 o.d, .int .i64 o.e, .int .i64 o.a, .int .i64 o.b, .int .i64 o.c, .int .i64 o.buf, .int .u64 o.imm]
def BufsAt (w : World) (F : Nat → Prop) (v : Value) (l : List Bf) : Prop := Rows w F 3 v (l.map bufRow)
def OpsAt (w : World) (F : Nat → Prop) (v : Value) (l : List LOp) : Prop := Rows w F 8 v (l.map opRow)
/-- A slice of ints. -/
def NumsAt (w : World) (F : Nat → Prop) (v : Value) (l : List Int) : Prop := Rows w F 1 v (l.map fun x => [Value.int .i64 x])

theorem rows_form {w : World} {F : Nat → Prop} {sz : Nat} {v : Value} {T : Type} {f : T → List Value} {l : List T} (h : Rows w F sz v (l.map f)) : ∃ A c, v = .slice A l.length c ∧ l.length ≤ c := by
  obtain ⟨A, c, rfl, hc, _, _⟩ := h
  rw [List.length_map] at hc ⊢
  exact ⟨A, c, rfl, hc⟩
theorem rows_at {w : World} {F : Nat → Prop} {sz : Nat} {A : Option Addr} {n c : Nat} {T : Type} {f : T → List Value} {l : List T} (h : Rows w F sz (.slice A n c) (l.map f)) {k : Nat} {x : T} (hk : l[k]? = some x) :
    ∃ b o, A = some ⟨b, o, none⟩ ∧ F b ∧ ∀ (j : Nat) (u : Value), (f x)[j]? = some u → w.cell? ⟨b, o + k * sz + j, none⟩ = some u := by
  obtain ⟨A', c', hv, hc, hl, hne⟩ := h
  cases hv
  have h1 : (l.map f)[k]? = some (f x) := by rw [List.getElem?_map, hk]; rfl
  obtain ⟨b, o, rfl, hF, hat⟩ := hne (fun e => by rw [e] at h1; cases h1)
  exact ⟨b, o, rfl, hF, fun j u hu => hat k j _ u h1 hu⟩
theorem OpsAt.at_ {w : World} {F : Nat → Prop} {A : Option Addr} {n c : Nat} {l : List LOp} (h : OpsAt w F (.slice A n c) l) {k : Nat} {x : LOp} (hk : l[k]? = some x) :
    ∃ b o, A = some ⟨b, o, none⟩ ∧ F b ∧ w.cell? ⟨b, o + k * 8, none⟩ = some (.int .i64 x.kind) ∧ w.cell? ⟨b, o + k * 8 + 1, none⟩ = some (.int .i64 x.d) ∧ w.cell? ⟨b, o + k * 8 + 2, none⟩ = some (.int .i64 x.e) ∧
      w.cell? ⟨b, o + k * 8 + 3, none⟩ = some (.int .i64 x.a) ∧ w.cell? ⟨b, o + k * 8 + 4, none⟩ = some (.int .i64 x.b) ∧ w.cell? ⟨b, o + k * 8 + 5, none⟩ = some (.int .i64 x.c) ∧ w.cell? ⟨b, o + k * 8 + 6, none⟩ = some (.int .i64 x.buf) ∧
      w.cell? ⟨b, o + k * 8 + 7, none⟩ = some (.int .u64 x.imm) := by
  obtain ⟨b, o, hA, hF, hc⟩ := rows_at h hk
  exact ⟨b, o, hA, hF, hc 0 _ rfl, hc 1 _ rfl, hc 2 _ rfl, hc 3 _ rfl, hc 4 _ rfl, hc 5 _ rfl, hc 6 _ rfl, hc 7 _ rfl⟩
theorem BufsAt.at_ {w : World} {F : Nat → Prop} {A : Option Addr} {n c : Nat} {l : List Bf} (h : BufsAt w F (.slice A n c) l) {k : Nat} {x : Bf} (hk : l[k]? = some x) :
    ∃ b o, A = some ⟨b, o, none⟩ ∧ F b ∧ w.cell? ⟨b, o + k * 3, none⟩ = some (.int .i64 x.size) ∧ w.cell? ⟨b, o + k * 3 + 1, none⟩ = some (.int .i64 x.kind) ∧ w.cell? ⟨b, o + k * 3 + 2, none⟩ = some (.bool x.secret) := by
  obtain ⟨b, o, hA, hF, hc⟩ := rows_at h hk
  exact ⟨b, o, hA, hF, hc 0 _ rfl, hc 1 _ rfl, hc 2 _ rfl⟩
theorem NumsAt.at_ {w : World} {F : Nat → Prop} {A : Option Addr} {n c : Nat} {l : List Int} (h : NumsAt w F (.slice A n c) l) {k : Nat} {x : Int} (hk : l[k]? = some x) :
    ∃ b o, A = some ⟨b, o, none⟩ ∧ F b ∧ w.cell? ⟨b, o + k, none⟩ = some (.int .i64 x) := by
  obtain ⟨b, o, hA, hF, hc⟩ := rows_at h hk
  exact ⟨b, o, hA, hF, by simpa using hc 0 _ rfl⟩

/-- A limb program's three cells, and what stands behind them. -/
structure ProgAt (w : World) (F : Nat → Prop) (cs : List Value) (p : LP) : Prop where
  row : ∃ vb vo, cs = [.int .i64 p.regs, vb, vo] ∧ BufsAt w F vb p.bufs ∧ OpsAt w F vo p.ops
  nb : p.bufs.length ≤ 9223372036854775807
  no : p.ops.length ≤ 9223372036854775807
  imm : ∀ o ∈ p.ops, o.imm < 18446744073709551616
  size : ∀ b ∈ p.bufs, -9223372036854775808 ≤ b.size ∧ b.size ≤ 9223372036854775807
theorem ProgAt.keep {w w' : World} {F : Nat → Prop} {cs : List Value} {p : LP} (h : ProgAt w F cs p) (hk : SameOn F w w') : ProgAt w' F cs p := by
  obtain ⟨vb, vo, h1, h2, h3⟩ := h.row
  exact ⟨⟨vb, vo, h1, Rows.keep h2 hk, Rows.keep h3 hk⟩, h.nb, h.no, h.imm, h.size⟩
theorem ProgAt.mono {w : World} {F G : Nat → Prop} {cs : List Value} {p : LP} (h : ProgAt w F cs p) (hk : ∀ k, F k → G k) : ProgAt w G cs p := by
  obtain ⟨vb, vo, h1, h2, h3⟩ := h.row
  exact ⟨⟨vb, vo, h1, Rows.mono h2 hk, Rows.mono h3 hk⟩, h.nb, h.no, h.imm, h.size⟩
theorem prog_next {w w' : World} {cs : List Value} {p : LP} (h : ProgAt w (fun k => k < w.heap.size) cs p) (hb : Below w.heap.size w w') : ProgAt w' (fun k => k < w'.heap.size) cs p :=
  (h.keep (SameOn.of_below hb fun _ hk => hk)).mono fun _ hk => Nat.lt_of_lt_of_le hk hb.size
end Go.Proofs.YtppoiahhaclleaaDoor
