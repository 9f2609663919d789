/- duties.has, alone, less. -/
import Derived.Test.YtjbabpnepjhllaaGreatKnowsF
namespace Go.Proofs.YtjbabpnepjhllaaGreat
open Go.RowKit

set_option maxRecDepth 100000 in
set_option maxHeartbeats 4000000 in
theorem has_any (f : Fct) (v : Int) (w : World) : Calls Tryz.prog 79 #[.agg #[.int .i64 f.kind, .int .i64 f.a, .int .i64 f.b], .int .i64 v] w fun e w' => e = .returned (.bool (hasF f v)) ∧ Below w.heap.size w w' := by
  have hv : hasF f v = (f.a == v || (f.kind == 2 && f.b == v)) := rfl
  cases d0 : (f.a == v)
  · cases d1 : (f.kind == 2)
    · have HV := Lib.hid (show hasF f v = false by rw [hv, d0, d1]; rfl)
      clear hv
      go_enter Tryz.func79, Tryz.ntmps79
      go_wp2
      go_ret
      exact ⟨ret_bool HV.out.symm, (Below.refl _ _).alloc (Nat.le_refl _) _⟩
    · cases d2 : (f.b == v)
      · have HV := Lib.hid (show hasF f v = false by rw [hv, d0, d1, d2]; rfl)
        clear hv
        go_enter Tryz.func79, Tryz.ntmps79
        go_wp2
        go_ret
        exact ⟨ret_bool HV.out.symm, (Below.refl _ _).alloc (Nat.le_refl _) _⟩
      · have HV := Lib.hid (show hasF f v = true by rw [hv, d0, d1, d2]; rfl)
        clear hv
        go_enter Tryz.func79, Tryz.ntmps79
        go_wp2
        go_ret
        exact ⟨ret_bool HV.out.symm, (Below.refl _ _).alloc (Nat.le_refl _) _⟩
  · have HV := Lib.hid (show hasF f v = true by rw [hv, d0]; rfl)
    clear hv
    go_enter Tryz.func79, Tryz.ntmps79
    go_wp2
    go_ret
    exact ⟨ret_bool HV.out.symm, (Below.refl _ _).alloc (Nat.le_refl _) _⟩
theorem alone_any (k a : Int) (w : World) : Calls Tryz.prog 110 #[.int .i64 k, .int .i64 a] w fun e w' => e = .returned (.agg #[.int .i64 k, .int .i64 a, .int .i64 (-1)]) ∧ Below w.heap.size w w' := by
  go_enter Tryz.func110, Tryz.ntmps110
  go_wp2
  refine bodyPost_ret (results_cell_row (ty := 45) rfl _ _ w.heap.size 45 _ (0, 0) _ rfl (heap_alloc_new w _) Tryz.underlying45 rfl (by kernel_rfl)) rfl ⟨rfl, (Below.refl _ _).alloc (Nat.le_refl _) _⟩
theorem dalone_any (k a : Int) (w : World) : Calls Tryz.prog 68 #[.int .i64 k, .int .i64 a] w fun e w' => e = .returned (.agg #[.int .i64 k, .int .i64 a, .int .i64 (-1)]) ∧ Below w.heap.size w w' := by
  go_enter Tryz.func68, Tryz.ntmps68
  go_wp2
  refine bodyPost_ret (results_cell_row (ty := 45) rfl _ _ w.heap.size 45 _ (0, 0) _ rfl (heap_alloc_new w _) Tryz.underlying45 rfl (by kernel_rfl)) rfl ⟨rfl, (Below.refl _ _).alloc (Nat.le_refl _) _⟩
theorem lalone_any (k a : Int) (w : World) : Calls Tryz.prog 27 #[.int .i64 k, .int .i64 a] w fun e w' => e = .returned (.agg #[.int .i64 k, .int .i64 a, .int .i64 (-1)]) ∧ Below w.heap.size w w' := by
  go_enter Tryz.func27, Tryz.ntmps27
  go_wp2
  refine bodyPost_ret (results_cell_row (ty := 45) rfl _ _ w.heap.size 45 _ (0, 0) _ rfl (heap_alloc_new w _) Tryz.underlying45 rfl (by kernel_rfl)) rfl ⟨rfl, (Below.refl _ _).alloc (Nat.le_refl _) _⟩
theorem less_any (a b : Int) (w : World) : Calls Tryz.prog 112 #[.int .i64 a, .int .i64 b] w fun e w' => e = .returned (.agg #[.int .i64 2, .int .i64 a, .int .i64 b]) ∧ Below w.heap.size w w' := by
  go_enter Tryz.func112, Tryz.ntmps112
  go_wp2
  refine bodyPost_ret (results_cell_row (ty := 45) rfl _ _ w.heap.size 45 _ (0, 0) _ rfl (heap_alloc_new w _) Tryz.underlying45 rfl (by kernel_rfl)) rfl ⟨rfl, (Below.refl _ _).alloc (Nat.le_refl _) _⟩
theorem dless_any (a b : Int) (w : World) : Calls Tryz.prog 69 #[.int .i64 a, .int .i64 b] w fun e w' => e = .returned (.agg #[.int .i64 2, .int .i64 a, .int .i64 b]) ∧ Below w.heap.size w w' := by
  go_enter Tryz.func69, Tryz.ntmps69
  go_wp2
  refine bodyPost_ret (results_cell_row (ty := 45) rfl _ _ w.heap.size 45 _ (0, 0) _ rfl (heap_alloc_new w _) Tryz.underlying45 rfl (by kernel_rfl)) rfl ⟨rfl, (Below.refl _ _).alloc (Nat.le_refl _) _⟩
theorem lless_any (a b : Int) (w : World) : Calls Tryz.prog 28 #[.int .i64 a, .int .i64 b] w fun e w' => e = .returned (.agg #[.int .i64 2, .int .i64 a, .int .i64 b]) ∧ Below w.heap.size w w' := by
  go_enter Tryz.func28, Tryz.ntmps28
  go_wp2
  refine bodyPost_ret (results_cell_row (ty := 45) rfl _ _ w.heap.size 45 _ (0, 0) _ rfl (heap_alloc_new w _) Tryz.underlying45 rfl (by kernel_rfl)) rfl ⟨rfl, (Below.refl _ _).alloc (Nat.le_refl _) _⟩
end Go.Proofs.YtjbabpnepjhllaaGreat
