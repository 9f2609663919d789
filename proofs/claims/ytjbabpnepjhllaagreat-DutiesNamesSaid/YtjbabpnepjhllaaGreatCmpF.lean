/- duties.compare; the facts of a set in order. -/
import Derived.Test.YtjbabpnepjhllaaGreatAppF
import Derived.Test.YtjbabpnepjhllaaGreatInts21
import Derived.Test.YtjbabpnepjhllaaGreatShelf
import Derived.Test.YtjbabpnepjhllaaGreatShelfS
namespace Go.Proofs.YtjbabpnepjhllaaGreat
open Go.RowKit

/-- A world that has grown alone. -/
def Grw (W w : World) : Prop := ∃ q os, w = Go.Sort.grow (W.drewN q) os
theorem Grw.refl (W : World) : Grw W W := ⟨0, #[], by simp [Go.Sort.grow, World.drewN]⟩
theorem grow_drew (W : World) (q : Nat) (os : Array Obj) : (Go.Sort.grow (W.drewN q) os).drew = Go.Sort.grow (W.drewN (q + 1)) os := by
  show (Go.Sort.grow (W.drewN q) os).drewN 1 = _
  rw [show (Go.Sort.grow (W.drewN q) os).drewN 1 = Go.Sort.grow ((W.drewN q).drewN 1) os from rfl, World.drewN_drewN]
theorem Grw.drew {W w : World} (h : Grw W w) : Grw W w.drew := by
  obtain ⟨q, os, rfl⟩ := h
  exact ⟨q + 1, os, grow_drew W q os⟩
theorem Grw.alloc {W w : World} (h : Grw W w) (o : Obj) : Grw W (w.alloc o) := by
  obtain ⟨q, os, rfl⟩ := h
  exact ⟨q, os ++ #[o], by rw [Go.Sort.alloc_eq_grow, Go.Sort.grow_grow]⟩
theorem Grw.below {W w : World} (h : Grw W w) : Below W.heap.size W w := by
  obtain ⟨q, os, rfl⟩ := h
  refine ⟨rfl, rfl, rfl, by show W.heap.size ≤ (W.heap ++ os).size; simp, fun k hk => ?_⟩
  show (W.heap ++ os)[k]? = _
  rw [Array.getElem?_append_left hk]
def or3 (p q r : Int) : Int := if p ≠ 0 then p else if q ≠ 0 then q else r
set_option maxRecDepth 100000 in
set_option maxHeartbeats 1000000 in
/-- cmp.Or of three. -/
theorem or3_any (g : Nat) (p q r : Int) (w : World) (h : w.heap[g]? = some (.cells (intV [p, q, r]).toArray 3 (0, 0))) :
    Calls Tryz.prog 117 #[.slice (some ⟨g, 0, none⟩) 3 3] w fun e w' => e = .returned (.int .i64 (or3 p q r)) ∧ w' = w := by
  unfold or3
  have c0 : w.cell? ⟨g, 0, none⟩ = some (.int .i64 p) := by simp [World.cell?, h, intV]
  have c1 : w.cell? ⟨g, 1, none⟩ = some (.int .i64 q) := by simp [World.cell?, h, intV]
  have c2 : w.cell? ⟨g, 2, none⟩ = some (.int .i64 r) := by simp [World.cell?, h, intV]
  clear h
  by_cases hp : p = 0
  · have d0 : ((p : Int) != 0) = false := by simpa using hp
    rw [if_neg (fun h => h hp)]
    by_cases hq : q = 0
    · have d1 : ((q : Int) != 0) = false := by simpa using hq
      rw [if_neg (fun h => h hq)]
      by_cases hr : r = 0
      · have d2 : ((r : Int) != 0) = false := by simpa using hr
        subst hr
        clear hp hq
        go_enter Tryz.func117, Tryz.ntmps117
        go_wp2
        refine wp_loop_rounds 4 ?_
        iterate 4 (rw [rounds_succ]; go_wp2)
        go_ret
        exact ⟨rfl, rfl⟩
      · have d2 : ((r : Int) != 0) = true := by simpa using hr
        clear hp hq
        go_enter Tryz.func117, Tryz.ntmps117
        go_wp2
        refine wp_loop_rounds 3 ?_
        iterate 3 (rw [rounds_succ]; go_wp2)
        go_ret
        exact ⟨rfl, rfl⟩
    · have d1 : ((q : Int) != 0) = true := by simpa using hq
      rw [if_pos hq]
      clear hp
      go_enter Tryz.func117, Tryz.ntmps117
      go_wp2
      refine wp_loop_rounds 2 ?_
      iterate 2 (rw [rounds_succ]; go_wp2)
      go_ret
      exact ⟨rfl, rfl⟩
  · have d0 : ((p : Int) != 0) = true := by simpa using hp
    rw [if_pos hp]
    go_enter Tryz.func117, Tryz.ntmps117
    go_wp2
    refine wp_loop_rounds 1 ?_
    iterate 1 (rw [rounds_succ]; go_wp2)
    go_ret
    exact ⟨rfl, rfl⟩

theorem cmp3_lt (x y : Fct) : Go.Proofs.ltOf (fun x y : Fct => or3 (Lib.compareInt x.kind y.kind) (Lib.compareInt x.a y.a) (Lib.compareInt x.b y.b)) x y = ltF x y := by
  unfold Go.Proofs.ltOf ltF or3 Lib.compareInt
  by_cases h1 : x.kind < y.kind
  · simp [h1]
  · by_cases h2 : y.kind < x.kind
    · simp [h1, h2]; omega
    · have h3 : x.kind = y.kind := by omega
      by_cases h4 : x.a < y.a
      · simp [h3, h4]
      · by_cases h5 : y.a < x.a
        · simp [h3, h4, h5]; omega
        · have h6 : x.a = y.a := by omega
          by_cases h7 : x.b < y.b
          · simp [h3, h6, h7]
          · by_cases h8 : y.b < x.b <;> simp [h3, h6, h7, h8]
def cmpF (x y : Fct) : Int := or3 (Lib.compareInt x.kind y.kind) (Lib.compareInt x.a y.a) (Lib.compareInt x.b y.b)
theorem swoF : Go.Sort.SWO (Go.Proofs.ltOf cmpF) where
  irrefl x := by rw [show Go.Proofs.ltOf cmpF x x = _ from cmp3_lt x x]; exact ltF_irr x
  trans x y z h1 h2 := by rw [show Go.Proofs.ltOf cmpF x y = _ from cmp3_lt x y] at h1; rw [show Go.Proofs.ltOf cmpF y z = _ from cmp3_lt y z] at h2; rw [show Go.Proofs.ltOf cmpF x z = _ from cmp3_lt x z]; exact ltF_trans h1 h2
  ntrans x y z h1 h2 := by
    rw [show Go.Proofs.ltOf cmpF x y = _ from cmp3_lt x y] at h1; rw [show Go.Proofs.ltOf cmpF y z = _ from cmp3_lt y z] at h2; rw [show Go.Proofs.ltOf cmpF x z = _ from cmp3_lt x z]
    cases h : ltF x z
    · rfl
    · by_cases e : x = y
      · subst e; rw [h] at h2; cases h2
      · have h3 := ltF_total h1 e
        rw [ltF_trans h3 h] at h2; cases h2
set_option maxRecDepth 100000 in
set_option maxHeartbeats 1000000 in
/-- compare. -/
theorem compare_any (x y : Fct) (w : World) : Calls Tryz.prog 82 #[.agg #[.int .i64 x.kind, .int .i64 x.a, .int .i64 x.b], .agg #[.int .i64 y.kind, .int .i64 y.a, .int .i64 y.b]] w fun e w' => e = .returned (.int .i64 (cmpF x y)) ∧ ∃ q os', w' = Go.Sort.grow (w.drewN q) os' := by
  have H1 := Lib.hid fun W' => Tryz.cmp_Compare_int x.kind y.kind W'
  have H2 := Lib.hid fun W' => Tryz.cmp_Compare_int x.a y.a W'
  have H3 := Lib.hid fun W' => Tryz.cmp_Compare_int x.b y.b W'
  have HO := Lib.hid or3_any
  unfold cmpF
  generalize Lib.compareInt x.kind y.kind = p at H1 ⊢
  generalize Lib.compareInt x.a y.a = q at H2 ⊢
  generalize Lib.compareInt x.b y.b = r at H3 ⊢
  obtain ⟨W, hW, hg, hx, hy, hz⟩ : ∃ W, W = (w.alloc (.cells #[.int .i64 x.kind, .int .i64 x.a, .int .i64 x.b] 45)).alloc (.cells #[.int .i64 y.kind, .int .i64 y.a, .int .i64 y.b] 45) ∧ Grw w W ∧
      (∀ i, W.cell? ⟨w.heap.size, i, none⟩ = #[Value.int .i64 x.kind, .int .i64 x.a, .int .i64 x.b][i]?) ∧ (∀ i, W.cell? ⟨w.heap.size + 1, i, none⟩ = #[Value.int .i64 y.kind, .int .i64 y.a, .int .i64 y.b][i]?) ∧ W.heap.size = w.heap.size + 2 := by
    refine ⟨_, rfl, ((Grw.refl w).alloc _).alloc _, fun i => ?_, fun i => ?_, by simp⟩
    · rw [((Below.refl _ (w.alloc _)).alloc (Nat.le_refl _) _).cell (p := ⟨w.heap.size, i, none⟩) (by simp), World.cell?_alloc_at _ _ _ _ rfl]
    · rw [World.cell?_alloc_at _ _ _ _ (by simp)]
  have f0 := hx 0
  have f1 := hx 1
  have f2 := hx 2
  have g0 := hy 0
  have g1 := hy 1
  have g2 := hy 2
  simp only [List.getElem?_toArray, List.getElem?_cons_zero, List.getElem?_cons_succ] at f0 f1 f2 g0 g1 g2
  have HC := Lib.hid (show ∀ w_, Grw W w_ → w_.cell? ⟨w.heap.size, 0, none⟩ = some (.int .i64 x.kind) ∧ w_.cell? ⟨w.heap.size, 1, none⟩ = some (.int .i64 x.a) ∧ w_.cell? ⟨w.heap.size, 2, none⟩ = some (.int .i64 x.b) ∧ w_.cell? ⟨w.heap.size + 1, 0, none⟩ = some (.int .i64 y.kind) ∧ w_.cell? ⟨w.heap.size + 1, 1, none⟩ = some (.int .i64 y.a) ∧ w_.cell? ⟨w.heap.size + 1, 2, none⟩ = some (.int .i64 y.b) from fun w_ h => by
    have hb := h.below
    refine ⟨(hb.cell ?_).trans f0, (hb.cell ?_).trans f1, (hb.cell ?_).trans f2, (hb.cell ?_).trans g0, (hb.cell ?_).trans g1, (hb.cell ?_).trans g2⟩ <;> (simp only; omega))
  have HW := Lib.hid hW
  have HG := Lib.hid hg
  clear hx hy f0 f1 f2 g0 g1 g2 hz hW hg
  go_enter Tryz.func82, Tryz.ntmps82
  go_upto_region 1 with fail
  rw [← HW.out]
  go_wp2
  have HS := Lib.hid (Grw.refl W).drew
  obtain ⟨W1, hW1⟩ : ∃ W1, W1 = W.drew.alloc (.cells (intV [p, q, r]).toArray 3) := ⟨_, rfl⟩
  have HS1 := Lib.hid (show Grw W W1 by rw [hW1]; exact (Grw.refl W).drew.alloc _)
  have HB1 := Lib.hid (show W1.heap[W.heap.size]? = some (.cells (intV [p, q, r]).toArray 3 (0, 0)) by rw [hW1]; exact heap_alloc_new W.drew _)
  have HW1 := Lib.hid hW1
  clear hW1
  (refine wp_region_lines (Grw W) (by kernel_rfl) (by kernel_rfl) (Grw.refl W).drew ?_)
  (try simp only [])
  repeat (first | (refine runL_no (by rfl) ?_; (try simp only [Act.put, List.setIfInBounds_toArray, List.set_cons_zero, List.set_cons_succ])) | (refine runL_val (v := ?_) (by rfl) ?_ ?_; rotate_left; (focus (intro w_ hw_; obtain ⟨c0_, c1_, c2_, c3_, c4_, c5_⟩ := HC.out w_ hw_; go_simp; (try with_reducible rfl); done)); (try simp only [Act.put, List.setIfInBounds_toArray, List.set_cons_zero, List.set_cons_succ])) | (refine runL_call (f := ?_) (args := ?_) (w1 := ?_) (by rfl) (by rfl) ?_ ?_; rotate_left 3; (focus (go_simp; refine ⟨⟨?_, ?_⟩, ?_⟩ <;> with_reducible rfl)); (first | (with_reducible refine (H1.out _).mono ?_; rintro e w1 ⟨rfl, rfl⟩; refine ⟨_, rfl, .inr (by exact HS.out), ?_⟩) | (with_reducible refine (H2.out _).mono ?_; rintro e w1 ⟨rfl, rfl⟩; refine ⟨_, rfl, .inr (by exact HS.out), ?_⟩) | (with_reducible refine (H3.out _).mono ?_; rintro e w1 ⟨rfl, rfl⟩; refine ⟨_, rfl, .inr (by exact HS.out), ?_⟩) | (with_reducible refine (HO.out _ p q r _ HB1.out).mono ?_; rintro e w1 ⟨rfl, rfl⟩; refine ⟨_, rfl, .inr (by exact HS1.out), ?_⟩)); (try simp only [Act.put, List.setIfInBounds_toArray, List.set_cons_zero, List.set_cons_succ])) | (refine runL_op (v := .slice (some ⟨W.heap.size, 0, none⟩) 3 3) (w1 := W1) (by rfl) (by rfl) (by rw [HW1.out]; exact exec_int3 _ _ _ rfl rfl rfl rfl) (.inr (by exact HS1.out)) ?_; (try simp only [Act.put, List.setIfInBounds_toArray, List.set_cons_zero, List.set_cons_succ])))
  (refine runL_nil ?_)
  go_wp2
  go_ret
  refine ⟨rfl, ?_⟩
  obtain ⟨q1, o1, h1⟩ := HG.out
  obtain ⟨q2, o2, h2⟩ := HS1.out
  exact ⟨q1 + q2, o1 ++ o2, by rw [h2, h1, show (Go.Sort.grow (w.drewN q1) o1).drewN q2 = Go.Sort.grow ((w.drewN q1).drewN q2) o1 from rfl, World.drewN_drewN, Go.Sort.grow_grow]⟩
end Go.Proofs.YtjbabpnepjhllaaGreat
