/- limb.number: whether an operation's number may be. -/
import Derived.Test.YtppoiahhaclleaaDoorLimbA
import Derived.Deep.DeepCutAuto
import Derived.Outline
namespace Go.Proofs.YtppoiahhaclleaaDoor
open Go.RowKit

def numP (p : LP) (o : LOp) : Bool :=
  if kM o.kind then !(o.a == -1) || match p.bufs[o.buf.toNat]? with
    | some b => decide ((o.imm : Int) < b.size % 18446744073709551616)
    | none => false
  else numOk o
theorem two_rows (w : World) (cs : List Value) (o : LOp) (t u : Nat) : ∃ W, W = (w.alloc (.cells cs.toArray t)).alloc (.cells (opRow o).toArray u) ∧ Below w.heap.size w W ∧ W.heap.size = w.heap.size + 1 + 1 ∧
    W.heap[w.heap.size]? = some (.cells cs.toArray t (0, 0)) ∧ W.heap[w.heap.size + 1]? = some (.cells (opRow o).toArray u (0, 0)) := by
  have z1 : (w.alloc (.cells cs.toArray t)).heap.size = w.heap.size + 1 := by simp
  refine ⟨_, rfl, ((Below.refl _ _).alloc (Nat.le_refl _) _).alloc (by simp) _, by simp, ?_, ?_⟩
  · exact (Below.heap_alloc _ _ _ (by omega)).trans (heap_alloc_new w _)
  · rw [← z1]; exact heap_alloc_new _ _
theorem numP_plain {p : LP} {o : LOp} (h : kM o.kind = false) : numP p o = numOk o := by unfold numP; rw [if_neg (by simp [h])]

set_option maxRecDepth 100000 in
set_option maxHeartbeats 4000000 in
/-- Of an operation that is none over memory. -/
theorem number_plain (p : LP) (o : LOp) (cs : List Value) (w : World) (h : kM o.kind = false) :
    Calls Tryd.prog 78 #[.agg cs.toArray, .agg (opRow o).toArray] w fun e w' => e = .returned (.bool (numP p o)) ∧ Below w.heap.size w w' := by
  rw [numP_plain h]
  obtain ⟨W, hW, hbW, hzW, kp, ko⟩ := two_rows w cs o 25 47
  have c0 : W.cell? ⟨w.heap.size + 1, 0, none⟩ = some (.int .i64 o.kind) := by simp only [World.cell?, ko]; rfl
  have c3 : W.cell? ⟨w.heap.size + 1, 3, none⟩ = some (.int .i64 o.a) := by simp only [World.cell?, ko]; rfl
  have c6 : W.cell? ⟨w.heap.size + 1, 6, none⟩ = some (.int .i64 o.buf) := by simp only [World.cell?, ko]; rfl
  have c7 : W.cell? ⟨w.heap.size + 1, 7, none⟩ = some (.int .u64 o.imm) := by simp only [World.cell?, ko]; rfl
  have HB := Lib.hid hbW
  have HW := Lib.hid hW
  obtain ⟨k, hk⟩ : ∃ k, o.kind = k := ⟨_, rfl⟩
  have hn : numOk o = if k = 1 then true else if k = 8 ∨ k = 9 then decide (1 ≤ o.imm) && decide (o.imm ≤ 63) else if k = 16 then decide (1 ≤ o.imm) && decide (o.imm ≤ 1048576) else decide (o.imm = 0) := by unfold numOk; rw [hk]
  rw [hk] at h c0
  have h14 : k ≠ 14 := fun e => by rw [e] at h; cases h
  have h15 : k ≠ 15 := fun e => by rw [e] at h; cases h
  rw [hn]
  obtain ⟨m, hm⟩ : ∃ m, o.imm = m := ⟨_, rfl⟩
  rw [hm] at c7 ⊢
  clear hW hbW hzW kp ko h hk hn hm c3 c6
  by_cases k1 : k = 1
  · subst k1
    go_enter Tryd.func78, Tryd.ntmps78
    go_upto_region 1 with fail
    rw [← HW.out]
    go_wp2
    go_ret
    exact ⟨rfl, HB.out⟩
  · rw [if_neg k1]
    by_cases k8 : k = 8 ∨ k = 9
    · rw [if_pos k8]
      by_cases m1 : 1 ≤ m
      · have d1 : decide ((1 : Int) ≤ (m : Int)) = true := decide_eq_true (by omega)
        by_cases m2 : m ≤ 63
        · have d2 : decide ((m : Int) ≤ 63) = true := decide_eq_true (by omega)
          rw [decide_eq_true m1, decide_eq_true m2]
          clear h14 h15 k1
          rcases k8 with rfl | rfl
          · go_enter Tryd.func78, Tryd.ntmps78
            go_upto_region 1 with fail
            rw [← HW.out]
            go_wp2
            go_ret
            exact ⟨rfl, HB.out⟩
          · go_enter Tryd.func78, Tryd.ntmps78
            go_upto_region 1 with fail
            rw [← HW.out]
            go_wp2
            go_ret
            exact ⟨rfl, HB.out⟩
        · have d2 : decide ((m : Int) ≤ 63) = false := decide_eq_false (by omega)
          rw [decide_eq_true m1, decide_eq_false m2]
          clear h14 h15 k1
          rcases k8 with rfl | rfl
          · go_enter Tryd.func78, Tryd.ntmps78
            go_upto_region 1 with fail
            rw [← HW.out]
            go_wp2
            go_ret
            exact ⟨rfl, HB.out⟩
          · go_enter Tryd.func78, Tryd.ntmps78
            go_upto_region 1 with fail
            rw [← HW.out]
            go_wp2
            go_ret
            exact ⟨rfl, HB.out⟩
      · have d1 : decide ((1 : Int) ≤ (m : Int)) = false := decide_eq_false (by omega)
        rw [decide_eq_false m1]
        clear h14 h15 k1
        rcases k8 with rfl | rfl
        · go_enter Tryd.func78, Tryd.ntmps78
          go_upto_region 1 with fail
          rw [← HW.out]
          go_wp2
          go_ret
          exact ⟨rfl, HB.out⟩
        · go_enter Tryd.func78, Tryd.ntmps78
          go_upto_region 1 with fail
          rw [← HW.out]
          go_wp2
          go_ret
          exact ⟨rfl, HB.out⟩
    · rw [if_neg k8]
      by_cases k16 : k = 16
      · rw [if_pos k16]
        subst k16
        clear h14 h15 k1 k8
        by_cases m1 : 1 ≤ m
        · have d1 : decide ((1 : Int) ≤ (m : Int)) = true := decide_eq_true (by omega)
          by_cases m2 : m ≤ 1048576
          · have d2 : decide ((m : Int) ≤ 1048576) = true := decide_eq_true (by omega)
            rw [decide_eq_true m1, decide_eq_true m2]
            go_enter Tryd.func78, Tryd.ntmps78
            go_upto_region 1 with fail
            rw [← HW.out]
            go_wp2
            go_ret
            exact ⟨rfl, HB.out⟩
          · have d2 : decide ((m : Int) ≤ 1048576) = false := decide_eq_false (by omega)
            rw [decide_eq_true m1, decide_eq_false m2]
            go_enter Tryd.func78, Tryd.ntmps78
            go_upto_region 1 with fail
            rw [← HW.out]
            go_wp2
            go_ret
            exact ⟨rfl, HB.out⟩
        · have d1 : decide ((1 : Int) ≤ (m : Int)) = false := decide_eq_false (by omega)
          rw [decide_eq_false m1]
          go_enter Tryd.func78, Tryd.ntmps78
          go_upto_region 1 with fail
          rw [← HW.out]
          go_wp2
          go_ret
          exact ⟨rfl, HB.out⟩
      · rw [if_neg k16]
        have e1 : (k == 1) = false := beq_eq_false_iff_ne.2 k1
        have e8 : (k == 8) = false := beq_eq_false_iff_ne.2 (fun e => k8 (.inl e))
        have e9 : (k == 9) = false := beq_eq_false_iff_ne.2 (fun e => k8 (.inr e))
        have e16 : (k == 16) = false := beq_eq_false_iff_ne.2 k16
        have e14 : (k == 14) = false := beq_eq_false_iff_ne.2 h14
        have e15 : (k == 15) = false := beq_eq_false_iff_ne.2 h15
        clear h14 h15 k1 k8 k16
        by_cases m0 : m = 0
        · rw [decide_eq_true m0]
          have d0 : ((m : Int) == 0) = true := by simpa using m0
          clear m0
          go_enter Tryd.func78, Tryd.ntmps78
          go_upto_region 1 with fail
          rw [← HW.out]
          go_wp2
          go_ret
          exact ⟨rfl, HB.out⟩
        · rw [decide_eq_false m0]
          have d0 : ((m : Int) == 0) = false := by simpa using m0
          clear m0
          go_enter Tryd.func78, Tryd.ntmps78
          go_upto_region 1 with fail
          rw [← HW.out]
          go_wp2
          go_ret
          exact ⟨rfl, HB.out⟩

set_option maxRecDepth 100000 in
set_option maxHeartbeats 4000000 in
/-- Of an operation over memory. -/
theorem number_mem (p : LP) (o : LOp) (cs : List Value) (w : World) (hp : ProgAt w (fun k => k < w.heap.size) cs p) (h : o.kind = 14 ∨ o.kind = 15) (hb : 0 ≤ o.buf ∧ o.buf < p.bufs.length) :
    Calls Tryd.prog 78 #[.agg cs.toArray, .agg (opRow o).toArray] w fun e w' => e = .returned (.bool (numP p o)) ∧ Below w.heap.size w w' := by
  obtain ⟨W, hW, hbW, hzW, kp, ko⟩ := two_rows w cs o 25 47
  have c0 : W.cell? ⟨w.heap.size + 1, 0, none⟩ = some (.int .i64 o.kind) := by simp only [World.cell?, ko]; rfl
  have c3 : W.cell? ⟨w.heap.size + 1, 3, none⟩ = some (.int .i64 o.a) := by simp only [World.cell?, ko]; rfl
  have c6 : W.cell? ⟨w.heap.size + 1, 6, none⟩ = some (.int .i64 o.buf) := by simp only [World.cell?, ko]; rfl
  have c7 : W.cell? ⟨w.heap.size + 1, 7, none⟩ = some (.int .u64 o.imm) := by simp only [World.cell?, ko]; rfl
  obtain ⟨bf, hbf⟩ : ∃ bf, p.bufs[o.buf.toNat]? = some bf := ⟨_, List.getElem?_eq_getElem (by omega)⟩
  have hn : numP p o = (!(o.a == -1) || decide ((o.imm : Int) < bf.size % 18446744073709551616)) := by
    unfold numP
    rw [if_pos (by unfold kM; rcases h with h | h <;> rw [h] <;> rfl), hbf]
  obtain ⟨vb, vo, rfl, hB, _⟩ := hp.row
  obtain ⟨A, c, rfl, hlen⟩ := rows_form hB
  obtain ⟨b, off, rfl, hF, g0, _⟩ := hB.at_ hbf
  have b0 := hbW.cell (p := ⟨b, off + o.buf.toNat * 3, none⟩) hF
  rw [g0] at b0
  have c1 : W.cell? ⟨w.heap.size, 1, none⟩ = some (.slice (some ⟨b, off, none⟩) p.bufs.length c) := by simp only [World.cell?, kp]; rfl
  rw [hn]
  have hnb := hp.nb
  have l0 : w.heap.size < W.heap.size := by omega
  have l1 : w.heap.size + 1 < W.heap.size := by omega
  have l2 : b < W.heap.size := by omega
  clear hn kp ko hzW hB g0 hlen hbf hp
  obtain ⟨q, hq⟩ : ∃ q : Nat, o.buf = q := ⟨o.buf.toNat, by omega⟩
  rw [hq] at b0 c6 hb
  simp only [Int.toNat_natCast] at b0
  obtain ⟨m, hm⟩ : ∃ m, o.imm = m := ⟨_, rfl⟩
  obtain ⟨z, hz⟩ : ∃ z, bf.size = z := ⟨_, rfl⟩
  obtain ⟨a, ha⟩ : ∃ a, o.a = a := ⟨_, rfl⟩
  rw [hm] at c7 ⊢
  rw [hz] at b0 ⊢
  rw [ha] at c3 ⊢
  generalize p.bufs.length = n at *
  have HB := Lib.hid hbW
  have HW := Lib.hid hW
  have LB := Lib.hid hF
  obtain ⟨r, hr⟩ : ∃ r, z % 18446744073709551616 = r := ⟨_, rfl⟩
  rw [hr]
  have e64 : IntKind.u64.wrap z = r := by rw [← hr]; simp [IntKind.wrap, IntKind.bits, IntKind.signed]
  have q0 : (0 : Int) ≤ (q : Int) := by omega
  have q1 : (q : Int) < (n : Int) := by omega
  clear hW hq hm hz ha hr hb hF hbW
  by_cases h1 : a = -1
  · subst h1
    have d1 : ((-1 : Int) != -1) = false := rfl
    rw [show (!((-1 : Int) == -1) || decide ((m : Int) < r)) = decide ((m : Int) < r) from rfl]
    rcases h with h | h
    · rw [h] at c0
      clear h
      go_enter Tryd.func78, Tryd.ntmps78
      go_upto_region 1 with fail
      rw [← HW.out]
      go_wp2
      (refine wp_region_lines (Below W.heap.size W) (by kernel_rfl) (by kernel_rfl) (Below.refl _ _).drew ?_)
      have hS := (Below.refl W.heap.size W).drew
      (try simp only [])
      repeat (first | (refine runL_no (by rfl) ?_; (try simp only [Act.put, List.setIfInBounds_toArray, List.set_cons_zero, List.set_cons_succ])) | (refine runL_val (v := ?_) (by rfl) ?_ ?_; rotate_left; (focus (intro w_ hw_; have hc_ := bcell hw_; go_simp; (try with_reducible rfl); done)); (try simp only [Act.put, List.setIfInBounds_toArray, List.set_cons_zero, List.set_cons_succ])))
      (refine runL_nil ?_)
      go_wp2
      go_ret
      exact ⟨rfl, HB.out.trans (hS.mono HB.out.size)⟩
    · rw [h] at c0
      clear h
      go_enter Tryd.func78, Tryd.ntmps78
      go_upto_region 1 with fail
      rw [← HW.out]
      go_wp2
      (refine wp_region_lines (Below W.heap.size W) (by kernel_rfl) (by kernel_rfl) (Below.refl _ _).drew ?_)
      have hS := (Below.refl W.heap.size W).drew
      (try simp only [])
      repeat (first | (refine runL_no (by rfl) ?_; (try simp only [Act.put, List.setIfInBounds_toArray, List.set_cons_zero, List.set_cons_succ])) | (refine runL_val (v := ?_) (by rfl) ?_ ?_; rotate_left; (focus (intro w_ hw_; have hc_ := bcell hw_; go_simp; (try with_reducible rfl); done)); (try simp only [Act.put, List.setIfInBounds_toArray, List.set_cons_zero, List.set_cons_succ])))
      (refine runL_nil ?_)
      go_wp2
      go_ret
      exact ⟨rfl, HB.out.trans (hS.mono HB.out.size)⟩
  · have d1 : (a != -1) = true := by simpa using h1
    rw [show (!(a == -1) || decide ((m : Int) < r)) = true by rw [show (a == -1) = false by simpa using h1]; rfl]
    rcases h with h | h
    · rw [h] at c0
      clear h h1
      go_enter Tryd.func78, Tryd.ntmps78
      go_upto_region 1 with fail
      rw [← HW.out]
      go_wp2
      (refine wp_region_lines (Below W.heap.size W) (by kernel_rfl) (by kernel_rfl) (Below.refl _ _).drew ?_)
      have hS := (Below.refl W.heap.size W).drew
      (try simp only [])
      repeat (first | (refine runL_no (by rfl) ?_; (try simp only [Act.put, List.setIfInBounds_toArray, List.set_cons_zero, List.set_cons_succ])) | (refine runL_val (v := ?_) (by rfl) ?_ ?_; rotate_left; (focus (intro w_ hw_; have hc_ := bcell hw_; go_simp; (try with_reducible rfl); done)); (try simp only [Act.put, List.setIfInBounds_toArray, List.set_cons_zero, List.set_cons_succ])))
      (refine runL_nil ?_)
      go_wp2
      go_ret
      exact ⟨rfl, HB.out.trans (hS.mono HB.out.size)⟩
    · rw [h] at c0
      clear h h1
      go_enter Tryd.func78, Tryd.ntmps78
      go_upto_region 1 with fail
      rw [← HW.out]
      go_wp2
      (refine wp_region_lines (Below W.heap.size W) (by kernel_rfl) (by kernel_rfl) (Below.refl _ _).drew ?_)
      have hS := (Below.refl W.heap.size W).drew
      (try simp only [])
      repeat (first | (refine runL_no (by rfl) ?_; (try simp only [Act.put, List.setIfInBounds_toArray, List.set_cons_zero, List.set_cons_succ])) | (refine runL_val (v := ?_) (by rfl) ?_ ?_; rotate_left; (focus (intro w_ hw_; have hc_ := bcell hw_; go_simp; (try with_reducible rfl); done)); (try simp only [Act.put, List.setIfInBounds_toArray, List.set_cons_zero, List.set_cons_succ])))
      (refine runL_nil ?_)
      go_wp2
      go_ret
      exact ⟨rfl, HB.out.trans (hS.mono HB.out.size)⟩
end Go.Proofs.YtppoiahhaclleaaDoor
