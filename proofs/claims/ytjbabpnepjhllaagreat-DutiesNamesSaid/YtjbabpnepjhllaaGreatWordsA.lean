/- Words for memory that is read: slices of rows of cells, bytes, regions; all kept as long as the blocks that they lie in stay. -/
import Derived.WalkKit
import Derived.Lib.Hide
import Derived.Deep.QuietTactic
import Derived.BigQuiet
import Derived.Deep.RegionHeld3
import Derived.Deep.AppendLies
import Derived.WalkSpells
import Derived.Test.YtjbabpnepjhllaaGreatRows
import Derived.Test.YtjbabpnepjhllaaGreatRegion
namespace Go.Proofs.YtjbabpnepjhllaaGreat
open Go.RowKit

theorem ret_int {k : IntKind} {a b : Int} (h : a = b) : Ending.returned (.int k a) = .returned (.int k b) := by rw [h]
theorem ret_bool {a b : Bool} (h : a = b) : Ending.returned (.bool a) = .returned (.bool b) := by rw [h]

/-- WHAT A REGION's S SAYS: all that stood in W stands. Begin, and the next step. -/
theorem bc0 (W : World) : (∀ b o, b < W.heap.size → W.drew.cell? ⟨b, o, none⟩ = W.cell? ⟨b, o, none⟩) ∧ Below W.heap.size W W.drew := ⟨fun _ _ _ => rfl, (Below.refl _ _).drew⟩
theorem bcN {W w1 w2 : World} (h : (∀ b o, b < W.heap.size → w1.cell? ⟨b, o, none⟩ = W.cell? ⟨b, o, none⟩) ∧ Below W.heap.size W w1) (hb : Below w1.heap.size w1 w2) :
    (∀ b o, b < W.heap.size → w2.cell? ⟨b, o, none⟩ = W.cell? ⟨b, o, none⟩) ∧ Below W.heap.size W w2 :=
  have h2 := h.2.trans (hb.mono h.2.size)
  ⟨fun _ _ hb => h2.cell hb, h2⟩

theorem bcell {W w : World} (h : Below W.heap.size W w) : ∀ b o, b < W.heap.size → w.cell? ⟨b, o, none⟩ = W.cell? ⟨b, o, none⟩ := fun _ _ hb => h.cell hb
theorem bcEnd {w W w1 : World} (h : Below w.heap.size w W) (hh : (∀ b o, b < W.heap.size → w1.cell? ⟨b, o, none⟩ = W.cell? ⟨b, o, none⟩) ∧ Below W.heap.size W w1) : Below w.heap.size w w1 := h.trans (hh.2.mono h.size)

/-- A world with one block more, under one name. -/
theorem boxed (w : World) (cs : Array Value) (t : Nat) : ∃ W, W = w.alloc (.cells cs t) ∧ Below w.heap.size w W ∧ W.heap.size = w.heap.size + 1 ∧ (∀ i, W.cell? ⟨w.heap.size, i, none⟩ = cs[i]?) ∧ (∀ b o, b < w.heap.size → W.cell? ⟨b, o, none⟩ = w.cell? ⟨b, o, none⟩) :=
  ⟨_, rfl, (Below.refl _ _).alloc (Nat.le_refl _) _, by simp, fun i => by rw [World.cell?_alloc_at _ _ _ _ rfl], fun b o h => ((Below.refl w.heap.size w).alloc (Nat.le_refl _) _).cell h⟩

/-- The blocks of F are the same in both worlds. -/
def SameOn (F : Nat → Prop) (w w' : World) : Prop := ∀ k, F k → w'.heap[k]? = w.heap[k]?

theorem SameOn.refl (F : Nat → Prop) (w : World) : SameOn F w w := fun _ _ => rfl
theorem SameOn.trans {F : Nat → Prop} {a b c : World} (h : SameOn F a b) (h' : SameOn F b c) : SameOn F a c := fun k hk => (h' k hk).trans (h k hk)
theorem SameOn.mono {F G : Nat → Prop} {a b : World} (h : SameOn F a b) (hg : ∀ k, G k → F k) : SameOn G a b := fun k hk => h k (hg k hk)
theorem SameOn.of_below {F : Nat → Prop} {B : Nat} {a b : World} (h : Below B a b) (hF : ∀ k, F k → k < B) : SameOn F a b := fun k hk => h.block k (hF k hk)

/-- A slice value over rows of 'sz' cells each, in a block of F; nil and empty let in. -/
def Rows (w : World) (F : Nat → Prop) (sz : Nat) (v : Value) (rows : List (List Value)) : Prop :=
  ∃ A c, v = .slice A rows.length c ∧ rows.length ≤ c ∧ (∀ r ∈ rows, r.length = sz) ∧
    (rows ≠ [] → ∃ b off, A = some ⟨b, off, none⟩ ∧ F b ∧ ∀ (i j : Nat) (r : List Value) (u : Value), rows[i]? = some r → r[j]? = some u → w.cell? ⟨b, off + i * sz + j, none⟩ = some u)

theorem Rows.keep {w w' : World} {F : Nat → Prop} {sz : Nat} {v : Value} {rows : List (List Value)} (h : Rows w F sz v rows) (hk : SameOn F w w') : Rows w' F sz v rows := by
  obtain ⟨A, c, hv, hc, hl, hh⟩ := h
  refine ⟨A, c, hv, hc, hl, fun hne => ?_⟩
  obtain ⟨b, off, hA, hb, hcell⟩ := hh hne
  exact ⟨b, off, hA, hb, fun i j r u hr hu => (World.cell?_of_block (w := w) (hk b hb)).trans (hcell i j r u hr hu)⟩

theorem Rows.mono {w : World} {F G : Nat → Prop} {sz : Nat} {v : Value} {rows : List (List Value)} (h : Rows w F sz v rows) (hk : ∀ k, F k → G k) : Rows w G sz v rows := by
  obtain ⟨A, c, hv, hc, hl, hh⟩ := h
  refine ⟨A, c, hv, hc, hl, fun hne => ?_⟩
  obtain ⟨b, off, hA, hb, hcell⟩ := hh hne
  exact ⟨b, off, hA, hk _ hb, hcell⟩

/-- A byte as a cell. -/
def byteV (x : UInt8) : Value := .int .u8 x.toNat

/-- A slice of bytes. -/
def BytesAt (w : World) (F : Nat → Prop) (v : Value) (l : List UInt8) : Prop := Rows w F 1 v (l.map fun x => [byteV x])

theorem BytesAt.keep {w w' : World} {F : Nat → Prop} {v : Value} {l : List UInt8} (h : BytesAt w F v l) (hk : SameOn F w w') : BytesAt w' F v l := Rows.keep h hk
theorem BytesAt.mono {w : World} {F G : Nat → Prop} {v : Value} {l : List UInt8} (h : BytesAt w F v l) (hk : ∀ k, F k → G k) : BytesAt w G v l := Rows.mono h hk

structure Reg where
  base : Nat
  bytes : List UInt8
  write : Bool

/-- A region's three cells. -/
structure Ent where
  key : Nat
  ad : Option Addr
  n : Nat
  c : Nat
  wr : Bool
def entRow (x : Ent) : List Value := [.int .u64 x.key, .slice x.ad x.n x.c, .bool x.wr]

/-- The cells hold the region. -/
structure EntSrc (w : World) (F : Nat → Prop) (r : Reg) (e : Ent) : Prop where
  key : e.key = r.base
  n : e.n = r.bytes.length
  wr : e.wr = r.write
  bytes : BytesAt w F (.slice e.ad e.n e.c) r.bytes
  base64 : r.base < 18446744073709551616
  len : r.bytes.length ≤ 9223372036854775807

theorem EntSrc.keep {w w' : World} {F : Nat → Prop} {r : Reg} {e : Ent} (h : EntSrc w F r e) (hk : SameOn F w w') : EntSrc w' F r e := ⟨h.key, h.n, h.wr, h.bytes.keep hk, h.base64, h.len⟩
theorem EntSrc.mono {w : World} {F G : Nat → Prop} {r : Reg} {e : Ent} (h : EntSrc w F r e) (hk : ∀ k, F k → G k) : EntSrc w G r e := ⟨h.key, h.n, h.wr, h.bytes.mono hk, h.base64, h.len⟩

/-- A slice of regions. -/
def RegsAt (w : World) (F : Nat → Prop) (v : Value) (l : List Reg) : Prop :=
  ∃ P : List (Reg × Ent), P.map (·.1) = l ∧ Rows w F 3 v (P.map fun x => entRow x.2) ∧ ∀ x ∈ P, EntSrc w F x.1 x.2

theorem RegsAt.take {w : World} {F : Nat → Prop} {A : Option Addr} {n c : Nat} {l : List Reg} (h : RegsAt w F (.slice A n c) l) {k : Nat} (hk : k ≤ n) : RegsAt w F (.slice A k c) (l.take k) := by
  obtain ⟨P, hP, ⟨A1, c1, hv, hc1, hl, hne⟩, hs⟩ := h
  cases hv
  simp only [List.length_map] at hk hc1
  have hkl : (P.take k).length = k := by simp; omega
  refine ⟨P.take k, by rw [← hP, List.map_take], ⟨A, c, by simp [hk], by simp; omega, fun r hr => hl r ?_, fun hne' => ?_⟩, fun x hx => hs x (List.mem_of_mem_take hx)⟩
  · rw [List.map_take] at hr; exact List.mem_of_mem_take hr
  · obtain ⟨b, off, hA, hF, hc⟩ := hne (fun e => hne' (by rw [List.map_take, e]; simp))
    refine ⟨b, off, hA, hF, fun i j r u hr hu => hc i j r u ?_ hu⟩
    rw [List.map_take, List.getElem?_take] at hr
    split at hr
    · exact hr
    · cases hr

theorem RegsAt.len {w : World} {F : Nat → Prop} {A : Option Addr} {n c : Nat} {l : List Reg} (h : RegsAt w F (.slice A n c) l) : n = l.length ∧ n ≤ c := by
  obtain ⟨P, hP, ⟨A1, c1, hv, hc1, hl, hne⟩, hs⟩ := h
  cases hv
  rw [← hP]
  exact ⟨by simp, hc1⟩

theorem RegsAt.form {w : World} {F : Nat → Prop} {v : Value} {l : List Reg} (h : RegsAt w F v l) : ∃ A c, v = .slice A l.length c ∧ l.length ≤ c := by
  obtain ⟨P, hP, ⟨A1, c1, hv, hc1, hl, hne⟩, hs⟩ := h
  rw [← hP]
  exact ⟨A1, c1, by rw [hv]; simp, by simpa using hc1⟩

/-- What the walk wants of one region. -/
theorem RegsAt.at_ {w : World} {F : Nat → Prop} {A : Option Addr} {n c : Nat} {l : List Reg} (h : RegsAt w F (.slice A n c) l) {k : Nat} {r : Reg} (hk : l[k]? = some r) :
    ∃ b off A' c', A = some ⟨b, off, none⟩ ∧ F b ∧ w.cell? ⟨b, off + k * 3, none⟩ = some (.int .u64 r.base) ∧ w.cell? ⟨b, off + k * 3 + 1, none⟩ = some (.slice A' r.bytes.length c') ∧
      w.cell? ⟨b, off + k * 3 + 2, none⟩ = some (.bool r.write) ∧ BytesAt w F (.slice A' r.bytes.length c') r.bytes ∧ r.base < 18446744073709551616 ∧ r.bytes.length ≤ 9223372036854775807 := by
  obtain ⟨P, hP, ⟨A1, c1, hv, hc1, hl, hne⟩, hs⟩ := h
  cases hv
  rw [← hP, List.getElem?_map] at hk
  cases hpk : P[k]? with
  | none => rw [hpk] at hk; cases hk
  | some x =>
    rw [hpk] at hk
    cases hk
    have hx := hs x (List.mem_of_getElem? hpk)
    have hr : (P.map fun x => entRow x.2)[k]? = some (entRow x.2) := by rw [List.getElem?_map, hpk]; rfl
    obtain ⟨b, off, hA, hF, hcell⟩ := hne (fun e => by rw [e] at hr; cases hr)
    have hb := hx.bytes
    have hn := hx.n
    rw [hn] at hb
    refine ⟨b, off, x.2.ad, x.2.c, hA, hF, ?_, ?_, ?_, hb, hx.base64, hx.len⟩
    · rw [← hx.key]; exact hcell k 0 _ _ hr rfl
    · rw [← hn]; exact hcell k 1 _ _ hr rfl
    · rw [← hx.wr]; exact hcell k 2 _ _ hr rfl

theorem RegsAt.keep {w w' : World} {F : Nat → Prop} {v : Value} {l : List Reg} (h : RegsAt w F v l) (hk : SameOn F w w') : RegsAt w' F v l := by
  obtain ⟨P, hP, hr, hs⟩ := h
  exact ⟨P, hP, hr.keep hk, fun x hx => (hs x hx).keep hk⟩

theorem RegsAt.mono {w : World} {F G : Nat → Prop} {v : Value} {l : List Reg} (h : RegsAt w F v l) (hk : ∀ k, F k → G k) : RegsAt w G v l := by
  obtain ⟨P, hP, hr, hs⟩ := h
  exact ⟨P, hP, hr.mono hk, fun x hx => (hs x hx).mono hk⟩

theorem RegsAt.below {w w' : World} {F : Nat → Prop} {v : Value} {l : List Reg} {B : Nat} (h : RegsAt w F v l) (hb : Below B w w') (hF : ∀ k, F k → k < B) : RegsAt w' F v l := h.keep (SameOn.of_below hb hF)

/-- Its cells as one list, for an append. -/
theorem Rows.flat {w : World} {F : Nat → Prop} {sz : Nat} {ad : Addr} {n c : Nat} {rows : List (List Value)} (h : Rows w F sz (.slice (some ad) n c) rows) (hsz : 0 < sz) :
    rows.flatten.length = n * sz ∧ ∀ (j : Nat) (u : Value), rows.flatten[j]? = some u → w.cell? (ad.add j) = some u := by
  obtain ⟨A, c1, hv, hc, hl, hne⟩ := h
  cases hv
  have hlen : ∀ rows : List (List Value), (∀ r ∈ rows, r.length = sz) → rows.flatten.length = rows.length * sz := by
    intro rows
    induction rows with
    | nil => intro _; simp
    | cons q qs ih => intro hq; rw [List.flatten_cons, List.length_append, ih (fun r hr => hq r (List.mem_cons_of_mem _ hr)), hq q (List.mem_cons_self ..), List.length_cons, Nat.succ_mul]; omega
  refine ⟨hlen rows hl, fun j u hu => ?_⟩
  have hjl : j < rows.length * sz := by
    rw [← hlen rows hl]
    rcases Nat.lt_or_ge j rows.flatten.length with h | h
    · exact h
    · rw [List.getElem?_eq_none h] at hu; cases hu
  obtain ⟨b, off, hA, _, hcell⟩ := hne (fun e => by rw [e] at hjl; simp at hjl)
  cases hA
  have key : ∀ (rows : List (List Value)) (j : Nat), (∀ r ∈ rows, r.length = sz) → rows.flatten[j]? = some u → ∃ r, rows[j / sz]? = some r ∧ r[j % sz]? = some u := by
    intro rows
    induction rows with
    | nil => intro j _ h; simp at h
    | cons q qs ih =>
      intro j hq hj
      have hql := hq q (List.mem_cons_self ..)
      rw [List.flatten_cons] at hj
      rcases Nat.lt_or_ge j sz with h | h
      · rw [List.getElem?_append_left (by omega)] at hj
        exact ⟨q, by rw [Nat.div_eq_of_lt h]; rfl, by rw [Nat.mod_eq_of_lt h]; exact hj⟩
      · rw [List.getElem?_append_right (by omega), hql] at hj
        obtain ⟨r, h1, h2⟩ := ih (j - sz) (fun r hr => hq r (List.mem_cons_of_mem _ hr)) hj
        refine ⟨r, ?_, ?_⟩
        · rw [show j / sz = (j - sz) / sz + 1 from by rw [Nat.div_eq_sub_div hsz h]]
          simpa using h1
        · rw [Nat.mod_eq_sub_mod h]; exact h2
  obtain ⟨r, h1, h2⟩ := key rows j hl hu
  have := hcell _ _ r u h1 h2
  have hdm : j / sz * sz + j % sz = j := by rw [Nat.mul_comm]; exact Nat.div_add_mod j sz
  rw [show off + j / sz * sz + j % sz = off + j from by omega] at this
  unfold Addr.add
  split
  · rename_i h0; subst h0; simpa using this
  · exact this

end Go.Proofs.YtjbabpnepjhllaaGreat
