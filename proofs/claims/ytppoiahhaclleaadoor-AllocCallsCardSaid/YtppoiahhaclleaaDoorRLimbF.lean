/- The reference's limb programs: what an operation takes, what it makes. -/
import Derived.Test.YtppoiahhaclleaaDoorPlainRef14
import Derived.Test.YtppoiahhaclleaaDoorRLimbE
namespace Go.Proofs.YtppoiahhaclleaaDoor
open Go.RowKit

def New (w w' : World) : Nat → Prop := fun j => w.heap.size ≤ j ∧ j < w'.heap.size
/-- A list of ints that was just made, or none. -/
def NewNums (w w' : World) (v : Value) (l : List Int) : Prop := Below w.heap.size w w' ∧ NumsAt w' (New w w') v l
theorem nums_nil (w : World) (F : Nat → Prop) : NumsAt w F (.slice none 0 0) [] := ⟨none, 0, rfl, by simp, by simp, fun h => absurd rfl h⟩
theorem new_none {w W : World} (hb : Below w.heap.size w W) : NewNums w W (.slice none 0 0) [] := ⟨hb, nums_nil _ _⟩
theorem new_nums {w W : World} (hb : Below w.heap.size w W) (l : List Int) : NewNums w (W.alloc (.cells (intV l).toArray 3)) (.slice (some ⟨W.heap.size, 0, none⟩) l.length l.length) l :=
  ⟨hb.alloc hb.size _, (nums_blk (g := W.heap.size) (t := 3) (heap_alloc_new W _)).mono fun k hk => by subst hk; exact ⟨hb.size, by simp⟩⟩

set_option maxRecDepth 100000 in
set_option maxHeartbeats 4000000 in
theorem Takes_any (o : LOp) (w : World) (h1 : 1 ≤ o.kind) (h2 : o.kind ≤ 17) : Calls Tryd.prog 29 #[.agg (opRow o).toArray] w fun e w' => ∃ v, e = .returned v ∧ NewNums w w' v (takesF o) := by
  obtain ⟨W, hW, hbW, hzW, hl_, hr_⟩ := boxed w (opRow o).toArray 47
  have hO : W.heap[w.heap.size]? = some (.cells (opRow o).toArray 47 (0, 0)) := by rw [hW]; exact heap_alloc_new w _
  have c0 : W.cell? ⟨w.heap.size, 0, none⟩ = some (.int .i64 o.kind) := cell_row hO rfl
  have c1 : W.cell? ⟨w.heap.size, 1, none⟩ = some (.int .i64 o.d) := cell_row hO rfl
  have c2 : W.cell? ⟨w.heap.size, 2, none⟩ = some (.int .i64 o.e) := cell_row hO rfl
  have c3 : W.cell? ⟨w.heap.size, 3, none⟩ = some (.int .i64 o.a) := cell_row hO rfl
  have c4 : W.cell? ⟨w.heap.size, 4, none⟩ = some (.int .i64 o.b) := cell_row hO rfl
  have c5 : W.cell? ⟨w.heap.size, 5, none⟩ = some (.int .i64 o.c) := cell_row hO rfl
  have HW := Lib.hid hW
  have HB := Lib.hid hbW
  clear hW hbW hzW hO hl_ hr_
  rcases kind_all h1 h2 with hk | hk | hk | hk | hk | hk | hk | hk | hk | hk | hk | hk | hk | hk | hk | hk | hk <;> rw [hk] at c0 <;> clear h1 h2
  · have HT := Lib.hid (show takesF o = [] by unfold takesF; simp [hk])
    clear hk
    go_enter Tryd.func29, Tryd.ntmps29
    go_upto_region 1 with fail
    rw [← HW.out]
    go_wp2
    go_ret
    refine ⟨_, rfl, ?_⟩
    rw [HT.out]
    exact new_none HB.out
  · have HT := Lib.hid (show takesF o = [o.a] by unfold takesF; simp [hk])
    clear hk
    go_enter Tryd.func29, Tryd.ntmps29
    go_upto_region 1 with fail
    rw [← HW.out]
    go_wp2
    go_ret
    refine ⟨_, rfl, ?_⟩
    rw [HT.out]
    exact new_nums HB.out [o.a]
  · have HT := Lib.hid (show takesF o = [o.a, o.b] by unfold takesF; simp [hk])
    clear hk
    go_enter Tryd.func29, Tryd.ntmps29
    go_upto_region 1 with fail
    rw [← HW.out]
    go_wp2
    go_ret
    refine ⟨_, rfl, ?_⟩
    rw [HT.out]
    exact new_nums HB.out [o.a, o.b]
  · have HT := Lib.hid (show takesF o = [o.a, o.b] by unfold takesF; simp [hk])
    clear hk
    go_enter Tryd.func29, Tryd.ntmps29
    go_upto_region 1 with fail
    rw [← HW.out]
    go_wp2
    go_ret
    refine ⟨_, rfl, ?_⟩
    rw [HT.out]
    exact new_nums HB.out [o.a, o.b]
  · have HT := Lib.hid (show takesF o = [o.a, o.b] by unfold takesF; simp [hk])
    clear hk
    go_enter Tryd.func29, Tryd.ntmps29
    go_upto_region 1 with fail
    rw [← HW.out]
    go_wp2
    go_ret
    refine ⟨_, rfl, ?_⟩
    rw [HT.out]
    exact new_nums HB.out [o.a, o.b]
  · have HT := Lib.hid (show takesF o = [o.a, o.b] by unfold takesF; simp [hk])
    clear hk
    go_enter Tryd.func29, Tryd.ntmps29
    go_upto_region 1 with fail
    rw [← HW.out]
    go_wp2
    go_ret
    refine ⟨_, rfl, ?_⟩
    rw [HT.out]
    exact new_nums HB.out [o.a, o.b]
  · have HT := Lib.hid (show takesF o = [o.a, o.b] by unfold takesF; simp [hk])
    clear hk
    go_enter Tryd.func29, Tryd.ntmps29
    go_upto_region 1 with fail
    rw [← HW.out]
    go_wp2
    go_ret
    refine ⟨_, rfl, ?_⟩
    rw [HT.out]
    exact new_nums HB.out [o.a, o.b]
  · have HT := Lib.hid (show takesF o = [o.a] by unfold takesF; simp [hk])
    clear hk
    go_enter Tryd.func29, Tryd.ntmps29
    go_upto_region 1 with fail
    rw [← HW.out]
    go_wp2
    go_ret
    refine ⟨_, rfl, ?_⟩
    rw [HT.out]
    exact new_nums HB.out [o.a]
  · have HT := Lib.hid (show takesF o = [o.a] by unfold takesF; simp [hk])
    clear hk
    go_enter Tryd.func29, Tryd.ntmps29
    go_upto_region 1 with fail
    rw [← HW.out]
    go_wp2
    go_ret
    refine ⟨_, rfl, ?_⟩
    rw [HT.out]
    exact new_nums HB.out [o.a]
  · have HT := Lib.hid (show takesF o = [o.a, o.b] by unfold takesF; simp [hk])
    clear hk
    go_enter Tryd.func29, Tryd.ntmps29
    go_upto_region 1 with fail
    rw [← HW.out]
    go_wp2
    go_ret
    refine ⟨_, rfl, ?_⟩
    rw [HT.out]
    exact new_nums HB.out [o.a, o.b]
  · have HT := Lib.hid (show takesF o = [o.a, o.b, o.c] by unfold takesF; simp [hk])
    clear hk
    go_enter Tryd.func29, Tryd.ntmps29
    go_upto_region 1 with fail
    rw [← HW.out]
    go_wp2
    go_ret
    refine ⟨_, rfl, ?_⟩
    rw [HT.out]
    exact new_nums HB.out [o.a, o.b, o.c]
  · have HT := Lib.hid (show takesF o = [o.a, o.b, o.c] by unfold takesF; simp [hk])
    clear hk
    go_enter Tryd.func29, Tryd.ntmps29
    go_upto_region 1 with fail
    rw [← HW.out]
    go_wp2
    go_ret
    refine ⟨_, rfl, ?_⟩
    rw [HT.out]
    exact new_nums HB.out [o.a, o.b, o.c]
  · have HT := Lib.hid (show takesF o = [o.a, o.b, o.c] by unfold takesF; simp [hk])
    clear hk
    go_enter Tryd.func29, Tryd.ntmps29
    go_upto_region 1 with fail
    rw [← HW.out]
    go_wp2
    go_ret
    refine ⟨_, rfl, ?_⟩
    rw [HT.out]
    exact new_nums HB.out [o.a, o.b, o.c]
  · by_cases ha : o.a = -1
    · have e1 : (o.a != -1) = false := by simpa using ha
      have HT := Lib.hid (show takesF o = [] by unfold takesF; simp [hk, ha])
      clear hk ha
      go_enter Tryd.func29, Tryd.ntmps29
      go_upto_region 1 with fail
      rw [← HW.out]
      go_wp2
      go_ret
      refine ⟨_, rfl, ?_⟩
      rw [HT.out]
      exact new_none HB.out
    · have e1 : (o.a != -1) = true := by simpa using ha
      have HT := Lib.hid (show takesF o = [o.a] by unfold takesF; simp [hk, ha])
      clear hk ha
      go_enter Tryd.func29, Tryd.ntmps29
      go_upto_region 1 with fail
      rw [← HW.out]
      go_wp2
      go_ret
      refine ⟨_, rfl, ?_⟩
      rw [HT.out]
      exact new_nums HB.out [o.a]

  · by_cases ha : o.a = -1
    · have e1 : (o.a != -1) = false := by simpa using ha
      have HT := Lib.hid (show takesF o = [o.b] by unfold takesF; simp [hk, ha])
      clear hk ha
      go_enter Tryd.func29, Tryd.ntmps29
      go_upto_region 1 with fail
      rw [← HW.out]
      go_wp2
      go_ret
      refine ⟨_, rfl, ?_⟩
      rw [HT.out]
      exact new_nums HB.out [o.b]
    · have e1 : (o.a != -1) = true := by simpa using ha
      have HT := Lib.hid (show takesF o = [o.a, o.b] by unfold takesF; simp [hk, ha])
      clear hk ha
      go_enter Tryd.func29, Tryd.ntmps29
      go_upto_region 1 with fail
      rw [← HW.out]
      go_wp2
      go_ret
      refine ⟨_, rfl, ?_⟩
      rw [HT.out]
      exact new_nums HB.out [o.a, o.b]

  · have HT := Lib.hid (show takesF o = [] by unfold takesF; simp [hk])
    clear hk
    go_enter Tryd.func29, Tryd.ntmps29
    go_upto_region 1 with fail
    rw [← HW.out]
    go_wp2
    go_ret
    refine ⟨_, rfl, ?_⟩
    rw [HT.out]
    exact new_none HB.out
  · have HT := Lib.hid (show takesF o = [] by unfold takesF; simp [hk])
    clear hk
    go_enter Tryd.func29, Tryd.ntmps29
    go_upto_region 1 with fail
    rw [← HW.out]
    go_wp2
    go_ret
    refine ⟨_, rfl, ?_⟩
    rw [HT.out]
    exact new_none HB.out
set_option maxRecDepth 100000 in
set_option maxHeartbeats 4000000 in
theorem Makes_any (o : LOp) (w : World) (h1 : 1 ≤ o.kind) (h2 : o.kind ≤ 17) : Calls Tryd.prog 28 #[.agg (opRow o).toArray] w fun e w' => ∃ v, e = .returned v ∧ NewNums w w' v (makesF o) := by
  obtain ⟨W, hW, hbW, hzW, hl_, hr_⟩ := boxed w (opRow o).toArray 47
  have hO : W.heap[w.heap.size]? = some (.cells (opRow o).toArray 47 (0, 0)) := by rw [hW]; exact heap_alloc_new w _
  have c0 : W.cell? ⟨w.heap.size, 0, none⟩ = some (.int .i64 o.kind) := cell_row hO rfl
  have c1 : W.cell? ⟨w.heap.size, 1, none⟩ = some (.int .i64 o.d) := cell_row hO rfl
  have c2 : W.cell? ⟨w.heap.size, 2, none⟩ = some (.int .i64 o.e) := cell_row hO rfl
  have c3 : W.cell? ⟨w.heap.size, 3, none⟩ = some (.int .i64 o.a) := cell_row hO rfl
  have c4 : W.cell? ⟨w.heap.size, 4, none⟩ = some (.int .i64 o.b) := cell_row hO rfl
  have c5 : W.cell? ⟨w.heap.size, 5, none⟩ = some (.int .i64 o.c) := cell_row hO rfl
  have HW := Lib.hid hW
  have HB := Lib.hid hbW
  clear hW hbW hzW hO hl_ hr_
  rcases kind_all h1 h2 with hk | hk | hk | hk | hk | hk | hk | hk | hk | hk | hk | hk | hk | hk | hk | hk | hk <;> rw [hk] at c0 <;> clear h1 h2
  · have HT := Lib.hid (show makesF o = [o.d] by unfold makesF; simp [hk])
    clear hk
    go_enter Tryd.func28, Tryd.ntmps28
    go_upto_region 1 with fail
    rw [← HW.out]
    go_wp2
    go_ret
    refine ⟨_, rfl, ?_⟩
    rw [HT.out]
    exact new_nums HB.out [o.d]
  · have HT := Lib.hid (show makesF o = [o.d] by unfold makesF; simp [hk])
    clear hk
    go_enter Tryd.func28, Tryd.ntmps28
    go_upto_region 1 with fail
    rw [← HW.out]
    go_wp2
    go_ret
    refine ⟨_, rfl, ?_⟩
    rw [HT.out]
    exact new_nums HB.out [o.d]
  · have HT := Lib.hid (show makesF o = [o.d] by unfold makesF; simp [hk])
    clear hk
    go_enter Tryd.func28, Tryd.ntmps28
    go_upto_region 1 with fail
    rw [← HW.out]
    go_wp2
    go_ret
    refine ⟨_, rfl, ?_⟩
    rw [HT.out]
    exact new_nums HB.out [o.d]
  · have HT := Lib.hid (show makesF o = [o.d] by unfold makesF; simp [hk])
    clear hk
    go_enter Tryd.func28, Tryd.ntmps28
    go_upto_region 1 with fail
    rw [← HW.out]
    go_wp2
    go_ret
    refine ⟨_, rfl, ?_⟩
    rw [HT.out]
    exact new_nums HB.out [o.d]
  · have HT := Lib.hid (show makesF o = [o.d] by unfold makesF; simp [hk])
    clear hk
    go_enter Tryd.func28, Tryd.ntmps28
    go_upto_region 1 with fail
    rw [← HW.out]
    go_wp2
    go_ret
    refine ⟨_, rfl, ?_⟩
    rw [HT.out]
    exact new_nums HB.out [o.d]
  · have HT := Lib.hid (show makesF o = [o.d] by unfold makesF; simp [hk])
    clear hk
    go_enter Tryd.func28, Tryd.ntmps28
    go_upto_region 1 with fail
    rw [← HW.out]
    go_wp2
    go_ret
    refine ⟨_, rfl, ?_⟩
    rw [HT.out]
    exact new_nums HB.out [o.d]
  · have HT := Lib.hid (show makesF o = [o.d] by unfold makesF; simp [hk])
    clear hk
    go_enter Tryd.func28, Tryd.ntmps28
    go_upto_region 1 with fail
    rw [← HW.out]
    go_wp2
    go_ret
    refine ⟨_, rfl, ?_⟩
    rw [HT.out]
    exact new_nums HB.out [o.d]
  · have HT := Lib.hid (show makesF o = [o.d] by unfold makesF; simp [hk])
    clear hk
    go_enter Tryd.func28, Tryd.ntmps28
    go_upto_region 1 with fail
    rw [← HW.out]
    go_wp2
    go_ret
    refine ⟨_, rfl, ?_⟩
    rw [HT.out]
    exact new_nums HB.out [o.d]
  · have HT := Lib.hid (show makesF o = [o.d] by unfold makesF; simp [hk])
    clear hk
    go_enter Tryd.func28, Tryd.ntmps28
    go_upto_region 1 with fail
    rw [← HW.out]
    go_wp2
    go_ret
    refine ⟨_, rfl, ?_⟩
    rw [HT.out]
    exact new_nums HB.out [o.d]
  · have HT := Lib.hid (show makesF o = [o.d, o.e] by unfold makesF; simp [hk])
    clear hk
    go_enter Tryd.func28, Tryd.ntmps28
    go_upto_region 1 with fail
    rw [← HW.out]
    go_wp2
    go_ret
    refine ⟨_, rfl, ?_⟩
    rw [HT.out]
    exact new_nums HB.out [o.d, o.e]
  · have HT := Lib.hid (show makesF o = [o.d, o.e] by unfold makesF; simp [hk])
    clear hk
    go_enter Tryd.func28, Tryd.ntmps28
    go_upto_region 1 with fail
    rw [← HW.out]
    go_wp2
    go_ret
    refine ⟨_, rfl, ?_⟩
    rw [HT.out]
    exact new_nums HB.out [o.d, o.e]
  · have HT := Lib.hid (show makesF o = [o.d, o.e] by unfold makesF; simp [hk])
    clear hk
    go_enter Tryd.func28, Tryd.ntmps28
    go_upto_region 1 with fail
    rw [← HW.out]
    go_wp2
    go_ret
    refine ⟨_, rfl, ?_⟩
    rw [HT.out]
    exact new_nums HB.out [o.d, o.e]
  · have HT := Lib.hid (show makesF o = [o.d] by unfold makesF; simp [hk])
    clear hk
    go_enter Tryd.func28, Tryd.ntmps28
    go_upto_region 1 with fail
    rw [← HW.out]
    go_wp2
    go_ret
    refine ⟨_, rfl, ?_⟩
    rw [HT.out]
    exact new_nums HB.out [o.d]
  · have HT := Lib.hid (show makesF o = [o.d] by unfold makesF; simp [hk])
    clear hk
    go_enter Tryd.func28, Tryd.ntmps28
    go_upto_region 1 with fail
    rw [← HW.out]
    go_wp2
    go_ret
    refine ⟨_, rfl, ?_⟩
    rw [HT.out]
    exact new_nums HB.out [o.d]
  · have HT := Lib.hid (show makesF o = [] by unfold makesF; simp [hk])
    clear hk
    go_enter Tryd.func28, Tryd.ntmps28
    go_upto_region 1 with fail
    rw [← HW.out]
    go_wp2
    go_ret
    refine ⟨_, rfl, ?_⟩
    rw [HT.out]
    exact new_none HB.out
  · have HT := Lib.hid (show makesF o = [o.d] by unfold makesF; simp [hk])
    clear hk
    go_enter Tryd.func28, Tryd.ntmps28
    go_upto_region 1 with fail
    rw [← HW.out]
    go_wp2
    go_ret
    refine ⟨_, rfl, ?_⟩
    rw [HT.out]
    exact new_nums HB.out [o.d]
  · have HT := Lib.hid (show makesF o = [] by unfold makesF; simp [hk])
    clear hk
    go_enter Tryd.func28, Tryd.ntmps28
    go_upto_region 1 with fail
    rw [← HW.out]
    go_wp2
    go_ret
    refine ⟨_, rfl, ?_⟩
    rw [HT.out]
    exact new_none HB.out
end Go.Proofs.YtppoiahhaclleaaDoor
