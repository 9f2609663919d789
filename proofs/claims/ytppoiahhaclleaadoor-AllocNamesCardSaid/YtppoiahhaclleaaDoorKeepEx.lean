/- The keeper at two spans, the first not over when the second begins. -/
import Derived.Test.YtppoiahhaclleaaDoorBuildD
namespace Go.Proofs.YtppoiahhaclleaaDoor
open Go.RowKit

theorem TzAt.chg {F : Nat → Prop} {w w' : World} (h : TzAt w) (hb : Chg F w w') (h0 : ¬ F 0) (hw : 0 < w.heap.size) : TzAt w' := fun j hj => by
  have := h j hj
  have hbl := hb.block 0 hw h0
  simp only [World.cell?, hbl] at this ⊢
  exact this
def stepP (P S : Nat → Nat) (pl : Nat → Int) (k : Nat) : Prop :=
  (P k ≠ 0 ∧ andV (P k) = (P (k + 1) : Int) ∧ S (k + 1) = S k ∧ pl k = (Lib.ctz 64 (P k) : Nat)) ∨ (P k = 0 ∧ P (k + 1) = P k ∧ andV (S k) = (S (k + 1) : Int) ∧ pl k = -1 - (Lib.ctz 64 (S k) : Nat))
/-- The keeper, so many given out. -/
structure KeptAt (kb go base B : Nat) (P S : Nat → Nat) (H : Nat → List (Int × Int)) (k : Nat) (w : World) : Prop where
  is : ∃ A c, KeepAt w kb (P k) (S k) (.slice A k c) ∧ w.ownsRow base 101 2 (.slice A k c) k (spV (H k))
  tz : TzAt w
  size : base ≤ w.heap.size
theorem KeptAt.below {kb go base B : Nat} {P S : Nat → Nat} {H : Nat → List (Int × Int)} {k : Nat} {w w' : World} (h : KeptAt kb go base B P S H k w) (hb : Below w.heap.size w w') (h0 : 0 < base) : KeptAt kb go base B P S H k w' := by
  obtain ⟨A, c, h1, h2⟩ := h.is
  have := h.size
  exact ⟨⟨A, c, h1.next hb, row_keep (fun q hq => hb.block q (own_lt h2 q hq).1) h2⟩, h.tz.next hb (by omega), Nat.le_trans h.size hb.size⟩
theorem KeptAt.store {kb go base B : Nat} {P S : Nat → Nat} {H : Nat → List (Int × Int)} {k : Nat} {w : World} (h : KeptAt kb go base B P S H k w) (hk : kb ≠ go) (hgo : go < base) (h0 : 0 < go) (x : Nat) (v : Value) : KeptAt kb go base B P S H k (w.setCell ⟨go, x, none⟩ v) := by
  obtain ⟨A, c, h1, h2⟩ := h.is
  refine ⟨⟨A, c, (Below.heap_setCell _ _ _ _ (fun e => hk e)).trans h1, row_keep (fun q hq => Below.heap_setCell _ _ _ _ (fun e => by have := (own_lt h2 q hq).2; simp only [] at e; omega)) h2⟩, ?_, ?_⟩
  · have hs := h.size
    refine TzAt.chg h.tz ((Chg.refl (fun j => j = go) w).setCell (p := ⟨go, x, none⟩) (.inl rfl) v) (fun e => ?_) (by omega)
    omega
  · exact Nat.le_trans h.size ((Chg.refl (fun j => j = go) w).setCell (p := ⟨go, x, none⟩) (.inl rfl) v).size
theorem own_cell {w : World} {base e g c : Nat} {a b : Int} (h : w.ownsRow base e 2 (.slice (some ⟨g, 0, none⟩) 1 c) 1 [.int .i64 a, .int .i64 b]) : w.cell? ⟨g, 1, none⟩ = some (.int .i64 b) := by
  rcases h.2 with ⟨h1, _⟩ | ⟨g', cap, cur, hv, hg, hh, hnc, hcm, hcs, htk⟩
  · cases h1
  · cases hv
    have h1 : (cur.toList.take 2)[1]? = some (.int .i64 b) := by rw [show 2 = 1 * 2 from rfl, htk]; rfl
    rw [List.getElem?_take_of_lt (by omega)] at h1
    simp only [World.cell?, hh]
    simpa using h1

theorem keeps_two {sp : List (Int × Int)} {pool : Nat} {pl : Nat → Int} (P S : Nat → Nat) (s0 s1 : Int × Int) (h0 : sp[0]? = some s0) (h1 : sp[1]? = some s1) (hP : P 0 = 2 ^ pool - 1) (hS : S 0 = 18446744073709551615)
    (hPS : ∀ k, P k < 18446744073709551616 ∧ S k < 18446744073709551616) (hst : ∀ k, k < 2 → stepP P S pl k) (hno : ¬ s0.2 < s1.1) : Keeps sp [0, 1] pool pl := by
  intro w kb gs g gb go B hk hT hB hBw hkB hd hl
  obtain ⟨H, hH0, hH1, hH2⟩ : ∃ H : Nat → List (Int × Int), H 0 = [] ∧ H 1 = [(pl 0, s0.2)] ∧ H 2 = [(pl 0, s0.2), (pl 1, s1.2)] := ⟨fun | 0 => [] | 1 => [(pl 0, s0.2)] | _ => [(pl 0, s0.2), (pl 1, s1.2)], rfl, rfl, rfl⟩
  have hkb := lt_of_block hk
  refine ⟨KeptAt kb go w.heap.size B P S H, ⟨⟨none, 0, by rw [hP, hS]; exact hk, by rw [hH0]; exact World.ownsRow_nil _ _ _ _⟩, hT, Nat.le_refl _⟩, ?_, ?_, fun k wr x v h => h.store hd.2.2.2 (by omega) (by omega) x v⟩
  · intro k q s hq hs wr h
    obtain ⟨A, c, hk1, hown⟩ := h.is
    have fin : ∀ w', Below wr.heap.size wr w' → KeptAt kb go w.heap.size B P S H k w' ∧ Chg (fun j => B ≤ j ∧ j ≠ gs ∧ j ≠ g ∧ j ≠ gb ∧ j ≠ go) wr w' := fun w' hb => ⟨h.below hb (by omega), .of_below hb⟩
    match k, hq with
    | 0, hq =>
      refine (free_zero s.1 wr hk1).mono ?_
      rintro e w' ⟨rfl, hb⟩
      exact ⟨rfl, fin w' hb⟩
    | 1, hq =>
      obtain rfl : q = 1 := by simp at hq; omega
      rw [h1] at hs
      cases hs
      rw [hH1] at hown
      obtain ⟨g', c', hv⟩ : ∃ g' c', Value.slice A 1 c = .slice (some ⟨g', 0, none⟩) 1 c' := by
        rcases hown.2 with ⟨_, h2⟩ | ⟨g', cap, cur, hv, _⟩
        · cases h2
        · exact ⟨g', cap, hv⟩
      cases hv
      refine (free_one s1.1 s0.2 wr hk1 (own_cell hown) hno).mono ?_
      rintro e w' ⟨rfl, hb⟩
      exact ⟨rfl, fin w' hb⟩
    | k + 2, hq => simp at hq
  · intro k q s hq hs wr h
    obtain ⟨A, c, hk1, hown⟩ := h.is
    have hsz := h.size
    have hne : (Value.slice A k c).ownBlock ≠ some kb := fun e => by have := (own_lt hown kb e).2; omega
    have hk2 : k < 2 := by
      rcases Nat.lt_or_ge k 2 with h' | h'
      · exact h'
      · rw [List.getElem?_eq_none (by simpa using h')] at hq; cases hq
    have hHl : (H k).length = k ∧ H (k + 1) = H k ++ [(pl k, s.2)] := by
      match k, hk2, hq with
      | 0, _, hq =>
        obtain rfl : q = 0 := by simp at hq; omega
        rw [h0] at hs; cases hs
        rw [hH0, hH1]; exact ⟨rfl, rfl⟩
      | 1, _, hq =>
        obtain rfl : q = 1 := by simp at hq; omega
        rw [h1] at hs; cases hs
        rw [hH1, hH2]; exact ⟨rfl, rfl⟩
    have fin : ∀ (p' s' : Nat) (e : Ending) (w' : World), p' = P (k + 1) → s' = S (k + 1) → Taken w.heap.size kb p' s' k (.slice A k c) (H k) (pl k) s.2 wr e w' → e = .returned (.int .i64 (pl k)) ∧ KeptAt kb go w.heap.size B P S H (k + 1) w' ∧ Chg (fun j => B ≤ j ∧ j ≠ gs ∧ j ≠ g ∧ j ≠ gb ∧ j ≠ go) wr w' := by
      rintro p' s' e w' rfl rfl t
      obtain ⟨A', c', t1, t2, t3⟩ := t.held
      have hch : Chg (fun j => B ≤ j ∧ j ≠ gs ∧ j ≠ g ∧ j ≠ gb ∧ j ≠ go) wr w' := t.chg.mono fun j hj hF => by
        rcases hF with rfl | hF
        · exact ⟨hkB, hd.1, hd.2.1, hd.2.2.1, hd.2.2.2⟩
        · have := (own_lt hown j hF).2
          exact ⟨by omega, by omega, by omega, by omega, by omega⟩
      refine ⟨t.is, ⟨⟨A', c', t1, by rw [hHl.2]; exact t2⟩, TzAt.chg h.tz hch (fun e => by have := e.1; omega) (by omega), Nat.le_trans hsz hch.size⟩, hch⟩
    rcases hst k hk2 with ⟨a1, a2, a3, a4⟩ | ⟨a1, a2, a3, a4⟩
    · refine (take_reg s.2 wr hk1 hown hne h.tz a1 (hPS k).1 (by omega) hHl.1 hsz a2).mono ?_
      intro e w' t
      rw [← a4] at t
      exact fin _ _ e w' rfl a3.symm t
    · refine (take_slot s.2 wr hk1 hown hne h.tz a1 (hPS k).2 (by omega) hHl.1 hsz a3).mono ?_
      intro e w' t
      rw [← a4] at t
      exact fin _ _ e w' a2.symm rfl t
end Go.Proofs.YtppoiahhaclleaaDoor
