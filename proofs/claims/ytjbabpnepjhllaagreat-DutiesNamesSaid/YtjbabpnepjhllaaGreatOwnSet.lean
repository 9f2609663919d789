/- Cells stored into a row of one's own; a shorter row; the builtin clear. -/
import Derived.Test.YtjbabpnepjhllaaGreatInts21
import Derived.Deep.MidRow
import Derived.Laws.IdiomCopy
namespace Go.Proofs.YtjbabpnepjhllaaGreat
open Go.RowKit

theorem own_blk {w : World} {base e sz n : Nat} {g o c : Nat} {xs : List Value} (h : w.ownsRow base e sz (.slice (some ⟨g, o, none⟩) n c) n xs) :
    ∃ cur, o = 0 ∧ base ≤ g ∧ w.heap[g]? = some (.cells cur e (0, 0)) ∧ n ≤ c ∧ c ≤ maxLen ∧ cur.size = c * sz ∧ cur.toList.take (n * sz) = xs := by
  rcases h.2 with ⟨h1, _⟩ | ⟨g', c', cur, hv, hg, hh, hnc, hcm, hcs, htk⟩
  · cases h1
  · cases hv; exact ⟨cur, rfl, hg, hh, hnc, hcm, hcs, htk⟩
theorem own_cell {w : World} {base e sz n : Nat} {g c : Nat} {xs : List Value} (h : w.ownsRow base e sz (.slice (some ⟨g, 0, none⟩) n c) n xs) {k : Nat} {u : Value} (hk : xs[k]? = some u) : w.cell? ⟨g, k, none⟩ = some u := by
  obtain ⟨cur, _, _, hh, _, _, _, ht⟩ := own_blk h
  simp only [World.cell?, hh]
  rw [← ht, List.getElem?_take] at hk
  split at hk
  · simpa using hk
  · cases hk
theorem own_frozen {w : World} {base e sz n : Nat} {g c : Nat} {xs : List Value} (h : w.ownsRow base e sz (.slice (some ⟨g, 0, none⟩) n c) n xs) (k : Nat) : w.frozen? ⟨g, k, none⟩ = false := by
  obtain ⟨cur, _, _, hh, _⟩ := own_blk h
  simp [World.frozen?, hh]
theorem own_set {w : World} {base e sz n : Nat} {g c : Nat} {xs : List Value} (h : w.ownsRow base e sz (.slice (some ⟨g, 0, none⟩) n c) n xs) (k : Nat) (u : Value) : (w.setCell ⟨g, k, none⟩ u).ownsRow base e sz (.slice (some ⟨g, 0, none⟩) n c) n (xs.set k u) := by
  obtain ⟨cur, _, hg, hh, hnc, hcm, hcs, ht⟩ := own_blk h
  refine ⟨by rw [List.length_set]; exact h.1, .inr ⟨g, c, cur.setIfInBounds k u, rfl, hg, by simp [World.setCell, Array.getElem?_modify, hh], hnc, hcm, by simpa using hcs, ?_⟩⟩
  rw [Array.toList_setIfInBounds, List.take_set, ht]
/-- Cells are set from a place on. -/
def setAll (xs : List Value) : Nat → List Value → List Value
  | _, [] => xs
  | k, v :: r => setAll (xs.set k v) (k + 1) r
theorem own_setCells {base e sz n : Nat} {g c : Nat} : ∀ (vs : List Value) (k : Nat) (w : World) (xs : List Value), w.ownsRow base e sz (.slice (some ⟨g, 0, none⟩) n c) n xs → (w.setCells g k vs).ownsRow base e sz (.slice (some ⟨g, 0, none⟩) n c) n (setAll xs k vs)
  | [], _, _, _, h => h
  | v :: r, k, _, _, h => own_setCells r (k + 1) _ _ (own_set h k v)
theorem chg_setCells {F : Nat → Prop} {g : Nat} {w0 : World} (hg : F g) : ∀ (vs : List Value) (k : Nat) (w : World), Chg F w0 w → Chg F w0 (w.setCells g k vs)
  | [], _, _, h => h
  | v :: r, k, _, h => chg_setCells hg r (k + 1) _ (h.setCell (.inl hg) v)
theorem setAll_len : ∀ (vs : List Value) (k : Nat) (xs : List Value), (setAll xs k vs).length = xs.length
  | [], _, _ => rfl
  | v :: r, k, xs => by rw [setAll, setAll_len r]; simp
theorem setAll_take {m : Nat} : ∀ (vs : List Value) (k : Nat) (xs : List Value), m ≤ k → (setAll xs k vs).take m = xs.take m
  | [], _, _, _ => rfl
  | v :: r, k, xs, h => by rw [setAll, setAll_take r (k + 1) _ (by omega), List.take_set_of_le h]
theorem setAll_append : ∀ (vs : List Value) (k : Nat) (a b : List Value), setAll (a ++ b) (a.length + k) vs = a ++ setAll b k vs
  | [], _, _, _ => rfl
  | v :: r, k, a, b => by
    have e : (a ++ b).set (a.length + k) v = a ++ b.set k v := by rw [List.set_append, if_neg (by omega), Nat.add_sub_cancel_left]
    rw [setAll, setAll, e, Nat.add_assoc, setAll_append r (k + 1) a]
theorem setAll_over : ∀ (vs us b : List Value), us.length = vs.length → setAll (us ++ b) 0 vs = vs ++ b
  | [], us, b, h => by simp at h; subst h; rfl
  | v :: r, u :: us, b, h => by
    rw [setAll, List.cons_append, List.set_cons_zero]
    have := setAll_append r 0 [v] (us ++ b)
    simp only [List.length_singleton, Nat.add_zero, List.singleton_append] at this
    rw [Nat.zero_add, this, setAll_over r us b (by simpa using h)]
    rfl
  | v :: r, [], b, h => by simp at h
/-- A row among rows of one size is set. -/
theorem flat_set {sz : Nat} : ∀ (rows : List (List Value)) (i : Nat) (r : List Value), (∀ q ∈ rows, q.length = sz) → r.length = sz → i < rows.length → setAll rows.flatten (i * sz) r = (rows.set i r).flatten
  | [], _, _, _, _, h => by simp at h
  | q :: qs, 0, r, hq, hr, _ => by
    rw [Nat.zero_mul, List.flatten_cons, setAll_over r q _ (by rw [hq q (List.mem_cons_self ..), hr]), List.set_cons_zero, List.flatten_cons]
  | q :: qs, i + 1, r, hq, hr, h => by
    have hql := hq q (List.mem_cons_self ..)
    rw [List.flatten_cons, show (i + 1) * sz = q.length + i * sz by rw [hql, Nat.succ_mul]; omega, setAll_append, flat_set qs i r (fun x hx => hq x (List.mem_cons_of_mem _ hx)) hr (by simpa using h), List.set_cons_succ, List.flatten_cons]
theorem own_cut {w : World} {base e sz n : Nat} {g c : Nat} {xs : List Value} (h : w.ownsRow base e sz (.slice (some ⟨g, 0, none⟩) n c) n xs) {m : Nat} (hm : m ≤ n) : w.ownsRow base e sz (.slice (some ⟨g, 0, none⟩) m c) m (xs.take (m * sz)) := by
  obtain ⟨cur, _, hg, hh, hnc, hcm, hcs, ht⟩ := own_blk h
  have hle : m * sz ≤ n * sz := Nat.mul_le_mul_right _ hm
  refine ⟨by rw [List.length_take, h.1]; omega, .inr ⟨g, c, cur, rfl, hg, hh, by omega, hcm, hcs, ?_⟩⟩
  rw [← ht, List.take_take, Nat.min_eq_left hle]
theorem own_there {w : World} {base e sz n : Nat} {g c : Nat} {xs : List Value} (h : w.ownsRow base e sz (.slice (some ⟨g, 0, none⟩) n c) n xs) {k m : Nat} (hk : k + m ≤ xs.length) : w.there g k m := fun j hj => by
  refine ⟨?_, own_frozen h _⟩
  rw [own_cell h (List.getElem?_eq_getElem (show k + j < xs.length by omega))]
  rfl
/-- clear, of whatever elements. -/
theorem run_clear_row {P : Program} (w : World) (t e : TypeId) (z : Value) (ht : P.underlying t = some (.slice e)) (hv : ∀ w, (zeroValue e).run P w = .ok z w) (hz1 : ∀ u ∈ z.cells.toList, u.oneCell' = true) (g o n c : Nat) (hn : 0 < n)
    (hth : w.there g o (n * z.cells.size)) : ∃ vs, ∀ ty, (Builtin.clear_ #[t] ty #[.slice (some ⟨g, o, none⟩) n c]).run P w = .ok (.tuple #[]) (w.setCells g o vs) := by
  refine ⟨(Builtin.zeroCells z.cells n).toList, fun ty => ?_⟩
  have hsz : (Builtin.zeroCells z.cells n).toList.length = n * z.cells.size := by simp [Builtin.zeroCells]
  have hst := run_storeCells_cells (P := P) g o (Builtin.zeroCells z.cells n).toList 0 w (fun j hj => by simpa using (hth j (by rw [← hsz]; exact hj)).1) (fun j hj => by simpa using (hth j (by rw [← hsz]; exact hj)).2) (fun v hv' => by
    simp only [Builtin.zeroCells, Array.toList_map, List.mem_map, Array.toList_range, List.mem_range] at hv'
    obtain ⟨i, hi, rfl⟩ := hv'
    have hpos : 0 < z.cells.size := by
      rcases Nat.eq_zero_or_pos z.cells.size with h | h
      · rw [h] at hi; simp at hi
      · exact h
    have hlt : i % z.cells.size < z.cells.size := Nat.mod_lt _ hpos
    rw [getElem!_pos z.cells _ hlt]
    exact hz1 _ (by simp))
  simp only [Nat.add_zero] at hst
  obtain ⟨m, rfl⟩ : ∃ m, n = m + 1 := ⟨n - 1, by omega⟩
  simp [Builtin.clear_, run_underlying ht, hv, hst]
end Go.Proofs.YtjbabpnepjhllaaGreat
