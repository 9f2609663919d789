/- Parts of memory, side by side: what a call holds on its way. -/
import Derived.Test.YtjbabpnepjhllaaGreatWordsB
import Derived.Deep.WholeRow
import Derived.Deep.MidRow
namespace Go.Proofs.YtjbabpnepjhllaaGreat
open Go.RowKit

/-- A part of memory: its blocks, and what holds of them. -/
structure Res where
  F : Nat → Prop
  P : World → Prop
  st : ∀ {w w' : World}, SameOn F w w' → P w → P w'
def Ov (F : Nat → Prop) (base : Nat) : Nat → Prop := fun k => F k ∨ base ≤ k

theorem row_keep {w w' : World} {base e sz n : Nat} {v : Value} {xs : List Value} (hk : ∀ g, v.ownBlock = some g → w'.heap[g]? = w.heap[g]?) (h : w.ownsRow base e sz v n xs) : w'.ownsRow base e sz v n xs := by
  rcases h.2 with ⟨h1, h2⟩ | ⟨g', cap', cur, hv, hg, hh, hr⟩
  · exact ⟨h.1, .inl ⟨h1, h2⟩⟩
  · exact ⟨h.1, .inr ⟨g', cap', cur, hv, hg, (hk g' (by rw [hv]; rfl)).trans hh, hr⟩⟩

/-- A block with one row. -/
def boxR (g : Nat) (ty : TypeId) (row : List Value) : Res := ⟨fun k => k = g, fun w => w.heap[g]? = some (.cells row.toArray ty (0, 0)), fun h hp => (h g rfl).trans hp⟩
/-- A slice of one's own. -/
def rowR (base : Nat) (ty : TypeId) (sz n : Nat) (v : Value) (xs : List Value) : Res := ⟨fun k => v.ownBlock = some k, fun w => w.ownsRow base ty sz v n xs, fun h hp => row_keep h hp⟩

/-- Since w0 only blocks of F0 and new ones may have changed; R's parts stand, apart from each other. -/
structure Sep (w0 : World) (F0 : Nat → Prop) (w : World) (R : List Res) : Prop where
  chg : Chg (Ov F0 w0.heap.size) w0 w
  lt : ∀ r ∈ R, ∀ k, r.F k → k < w.heap.size
  over : ∀ r ∈ R, ∀ k, r.F k → Ov F0 w0.heap.size k
  dis : R.Pairwise fun r q => ∀ k, r.F k → ¬ q.F k
  holds : ∀ r ∈ R, r.P w

section
variable {w0 w w' : World} {F0 : Nat → Prop} {R : List Res}

theorem Sep.nil (w : World) (F0 : Nat → Prop) : Sep w F0 w [] := ⟨Chg.refl _ _, by simp, by simp, by simp, by simp⟩
theorem Sep.cast (h : Sep w0 F0 w R) (e : w' = w) : Sep w0 F0 w' R := e ▸ h
theorem Sep.get (h : Sep w0 F0 w R) (i : Nat) {r : Res} (hi : R[i]? = some r) : r.P w := h.holds r (List.mem_of_getElem? hi)
theorem Sep.size (h : Sep w0 F0 w R) : w0.heap.size ≤ w.heap.size := h.chg.size
theorem Sep.below (h : Sep w0 (fun _ => False) w R) : Below w0.heap.size w0 w := h.chg.below (fun k hk hF => by rcases hF with hF | hF; exact hF; omega) (Nat.le_refl _)

/-- A later world that has turned none of the parts. -/
theorem Sep.keep (h : Sep w0 F0 w R) (hc : Chg (Ov F0 w0.heap.size) w w') (hk : ∀ r ∈ R, SameOn r.F w w') : Sep w0 F0 w' R :=
  ⟨h.chg.trans hc, fun r hr k hF => Nat.lt_of_lt_of_le (h.lt r hr k hF) hc.size, h.over, h.dis, fun r hr => r.st (hk r hr) (h.holds r hr)⟩
theorem Sep.next (h : Sep w0 F0 w R) (hb : Below w.heap.size w w') : Sep w0 F0 w' R :=
  h.keep (Chg.of_below hb) fun r hr k hF => hb.block k (h.lt r hr k hF)
theorem Sep.drew (h : Sep w0 F0 w R) : Sep w0 F0 w.drew R := h.next (Below.refl _ _).drew

theorem pair_apart {R : List Res} (hd : R.Pairwise fun r q => ∀ k, r.F k → ¬ q.F k) {i j : Nat} {r q : Res} (hi : R[i]? = some r) (hj : R[j]? = some q) (hij : i ≠ j) : ∀ k, r.F k → ¬ q.F k := by
  obtain ⟨h1, rfl⟩ := List.getElem?_eq_some_iff.1 hi
  obtain ⟨h2, rfl⟩ := List.getElem?_eq_some_iff.1 hj
  have hp := List.pairwise_iff_getElem.1 hd
  rcases Nat.lt_or_gt_of_ne hij with h | h
  · exact hp i j h1 h2 h
  · intro k hk hq
    exact hp j i h2 h1 h k hq hk

/-- One part becomes another one. -/
theorem Sep.put (h : Sep w0 F0 w R) (i : Nat) {r r' : Res} (hi : R[i]? = some r) (hc : Chg (Ov r.F w.heap.size) w w') (hP : r'.P w') (hF : ∀ k, r'.F k → (r.F k ∨ w.heap.size ≤ k) ∧ k < w'.heap.size) : Sep w0 F0 w' (R.set i r') := by
  have hir := List.mem_of_getElem? hi
  have hil : i < R.length := (List.getElem?_eq_some_iff.1 hi).1
  have hmem : ∀ x, x ∈ R.set i r' → x = r' ∨ ∃ j, j ≠ i ∧ R[j]? = some x := fun x hx => by
    obtain ⟨j, hj⟩ := List.mem_iff_getElem?.1 hx
    rw [List.getElem?_set] at hj
    split at hj
    · (try rw [if_pos hil] at hj); exact .inl (Option.some.inj hj).symm
    · rename_i hij; exact .inr ⟨j, fun e => hij e.symm, hj⟩
  have hsame : ∀ j q, j ≠ i → R[j]? = some q → SameOn q.F w w' := fun j q hj hq k hk =>
    hc.block k (h.lt q (List.mem_of_getElem? hq) k hk) fun hF => by
      rcases hF with hF | hF
      · exact pair_apart h.dis hi hq (fun e => hj e.symm) k hF hk
      · have := h.lt q (List.mem_of_getElem? hq) k hk; omega
  have hov : ∀ k, r'.F k → Ov F0 w0.heap.size k := fun k hk => by
    rcases (hF k hk).1 with h1 | h1
    · exact h.over r hir k h1
    · exact .inr (Nat.le_trans h.size h1)
  refine ⟨h.chg.trans' hc fun k hk hG => ?_, fun x hx k hk => ?_, fun x hx k hk => ?_, ?_, fun x hx => ?_⟩
  · rcases hG with hG | hG
    · exact h.over r hir k hG
    · exact .inr (Nat.le_trans h.size hG)
  · rcases hmem x hx with rfl | ⟨j, _, hj⟩
    · exact (hF k hk).2
    · exact Nat.lt_of_lt_of_le (h.lt x (List.mem_of_getElem? hj) k hk) hc.size
  · rcases hmem x hx with rfl | ⟨j, _, hj⟩
    · exact hov k hk
    · exact h.over x (List.mem_of_getElem? hj) k hk
  · refine List.pairwise_iff_getElem.2 fun a b ha hb hab => ?_
    simp only [List.length_set] at ha hb
    have hp := List.pairwise_iff_getElem.1 h.dis a b ha hb hab
    intro k hk hk'
    by_cases ea : i = a
    · subst ea
      rw [List.getElem_set_self] at hk
      rw [List.getElem_set_ne (by omega)] at hk'
      rcases (hF k hk).1 with h1 | h1
      · exact pair_apart h.dis hi (List.getElem?_eq_getElem hb) (by omega) k h1 hk'
      · have := h.lt _ (List.getElem_mem hb) k hk'; omega
    · by_cases eb : i = b
      · subst eb
        rw [List.getElem_set_self] at hk'
        rw [List.getElem_set_ne ea] at hk
        rcases (hF k hk').1 with h1 | h1
        · exact pair_apart h.dis hi (List.getElem?_eq_getElem ha) (by omega) k h1 hk
        · have := h.lt _ (List.getElem_mem ha) k hk; omega
      · rw [List.getElem_set_ne ea] at hk
        rw [List.getElem_set_ne eb] at hk'
        exact hp k hk hk'
  · rcases hmem x hx with rfl | ⟨j, hne, hj⟩
    · exact hP
    · exact x.st (hsame j x hne hj) (h.get j hj)

/-- A new part, in new blocks. -/
theorem Sep.push (h : Sep w0 F0 w R) {r' : Res} (hb : Below w.heap.size w w') (hP : r'.P w') (hF : ∀ k, r'.F k → w.heap.size ≤ k ∧ k < w'.heap.size) : Sep w0 F0 w' (r' :: R) := by
  have h1 := h.next hb
  refine ⟨h1.chg, fun x hx k hk => ?_, fun x hx k hk => ?_, List.pairwise_cons.2 ⟨fun q hq k hk hk' => ?_, h.dis⟩, fun x hx => ?_⟩
  · rcases List.mem_cons.1 hx with rfl | hx
    · exact (hF k hk).2
    · exact h1.lt x hx k hk
  · rcases List.mem_cons.1 hx with rfl | hx
    · exact .inr (Nat.le_trans h.size (hF k hk).1)
    · exact h1.over x hx k hk
  · have := h.lt q hq k hk'; have := (hF k hk).1; omega
  · rcases List.mem_cons.1 hx with rfl | hx
    · exact hP
    · exact h1.holds x hx
/-- A part that stood when the call began. -/
theorem Sep.take (h : Sep w0 F0 w R) {r' : Res} (hP : r'.P w) (hF : ∀ k, r'.F k → F0 k ∧ k < w.heap.size) (hd : ∀ q ∈ R, ∀ k, r'.F k → ¬ q.F k) : Sep w0 F0 w (r' :: R) :=
  ⟨h.chg, fun x hx k hk => by
    rcases List.mem_cons.1 hx with rfl | hx
    · exact (hF k hk).2
    · exact h.lt x hx k hk, fun x hx k hk => by
    rcases List.mem_cons.1 hx with rfl | hx
    · exact .inl (hF k hk).1
    · exact h.over x hx k hk, List.pairwise_cons.2 ⟨hd, h.dis⟩, fun x hx => by
    rcases List.mem_cons.1 hx with rfl | hx
    · exact hP
    · exact h.holds x hx⟩
/-- Some of the parts. -/
theorem Sep.sub {R' : List Res} (h : Sep w0 F0 w R) (hs : R'.Sublist R) : Sep w0 F0 w R' :=
  ⟨h.chg, fun r hr => h.lt r (hs.subset hr), fun r hr => h.over r (hs.subset hr), h.dis.sublist hs, fun r hr => h.holds r (hs.subset hr)⟩

/-! Boxes. -/
theorem Sep.box (h : Sep w0 F0 w R) (ty : TypeId) (row : List Value) : Sep w0 F0 (w.alloc (.cells row.toArray ty)) (boxR w.heap.size ty row :: R) :=
  h.push ((Below.refl _ _).alloc (Nat.le_refl _) _) (heap_alloc_new w _) fun k hk => by cases hk; simp
theorem Sep.fresh (h : Sep w0 F0 w R) (ty : TypeId) (zs : Array Value) (row : List Value) : Sep w0 F0 ((w.alloc (.cells zs ty)).setRow w.heap.size row.toArray) (boxR w.heap.size ty row :: R) := by
  rw [World.setRow_alloc_new]
  exact h.box ty row
theorem Sep.at_ (h : Sep w0 F0 w R) (i : Nat) {g : Nat} {ty : TypeId} {row : List Value} (hi : R[i]? = some (boxR g ty row)) : w.heap[g]? = some (.cells row.toArray ty (0, 0)) := h.get i hi
theorem Sep.cell (h : Sep w0 F0 w R) (i k : Nat) {g : Nat} {ty : TypeId} {row : List Value} (hi : R[i]? = some (boxR g ty row)) {v : Value} (hv : row[k]? = some v) : w.cell? ⟨g, k, none⟩ = some v := by
  have h1 := h.at_ i hi
  simp only [World.cell?, h1]
  simpa using hv
theorem Sep.frozen (h : Sep w0 F0 w R) (i k : Nat) {g : Nat} {ty : TypeId} {row : List Value} (hi : R[i]? = some (boxR g ty row)) : w.frozen? ⟨g, k, none⟩ = false := by
  have h1 := h.at_ i hi
  simp [World.frozen?, h1]
theorem Sep.setCell (h : Sep w0 F0 w R) (i : Nat) {g : Nat} {ty : TypeId} {row row' : List Value} (hi : R[i]? = some (boxR g ty row)) (k : Nat) (v : Value) (hr : row.set k v = row') : Sep w0 F0 (w.setCell ⟨g, k, none⟩ v) (R.set i (boxR g ty row')) := by
  have h1 := h.at_ i hi
  refine h.put i hi ((Chg.refl _ _).setCell (.inl (.inl rfl)) v) ?_ fun k' hk => ⟨.inl hk, ?_⟩
  · show (w.setCell ⟨g, k, none⟩ v).heap[g]? = _
    rw [World.setCell, ← hr]
    simp only [Array.getElem?_modify, if_pos, h1, Option.map_some]
    simp
  · have := h.lt _ (List.mem_of_getElem? hi) k' hk
    simpa [World.setCell] using this
theorem Sep.setRow (h : Sep w0 F0 w R) (i : Nat) {g : Nat} {ty : TypeId} {row : List Value} (hi : R[i]? = some (boxR g ty row)) (row' : List Value) : Sep w0 F0 (w.setRow g row'.toArray) (R.set i (boxR g ty row')) := by
  have h1 := h.at_ i hi
  refine h.put i hi ⟨rfl, rfl, rfl, by simp, fun k _ hk => setRow_other _ _ _ _ fun e => hk (.inl e)⟩ (setRow_heap _ _ _ _ _ _ h1) fun k' hk => ⟨.inl hk, ?_⟩
  have := h.lt _ (List.mem_of_getElem? hi) k' hk
  simpa using this

/-! Slices of one's own. -/
theorem Sep.row (h : Sep w0 F0 w R) {base e sz n : Nat} {v : Value} {xs : List Value} (hb : Below w.heap.size w w') (hv : w'.ownsRow base e sz v n xs) (hge : w.heap.size ≤ base) : Sep w0 F0 w' (rowR base e sz n v xs :: R) :=
  h.push hb hv fun k hk => by have := hv.lt k hk; omega
theorem Sep.rowNil (h : Sep w0 F0 w R) (base e sz : Nat) : Sep w0 F0 w (rowR base e sz 0 (.slice none 0 0) [] :: R) :=
  h.push (Below.refl _ _) (World.ownsRow_nil w base e sz) fun k hk => by cases hk
theorem Sep.grown (h : Sep w0 F0 w R) (i : Nat) {base e sz n n' : Nat} {v v' : Value} {xs xs' : List Value} (hi : R[i]? = some (rowR base e sz n v xs)) (hv : w'.ownsRow base e sz v' n' xs') (hg : w.grownBy w' v.ownBlock)
    (hn : ∀ k, v'.ownBlock = some k → v.ownBlock = some k ∨ w.heap.size ≤ k) : Sep w0 F0 w' (R.set i (rowR base e sz n' v' xs')) :=
  h.put i hi ⟨hg.os, hg.tape, hg.output, hg.size, fun k hk hF => hg.block k hk fun e => hF (.inl e.symm)⟩ hv fun k hk => ⟨hn k hk, (hv.lt k hk).2⟩
end
end Go.Proofs.YtjbabpnepjhllaaGreat
