/- limb.has: what a kind has. -/
import Derived.Test.YtppoiahhaclleaaDoorWords14
namespace Go.Proofs.YtppoiahhaclleaaDoor
open Go.RowKit

/-- The bits of a kind. -/
def hasV (k : Int) : Int × Bool :=
  if k = 1 then (1, true)
  else if k = 2 then (5, true)
  else if k = 3 then (13, true)
  else if k = 4 then (13, true)
  else if k = 5 then (13, true)
  else if k = 6 then (13, true)
  else if k = 7 then (13, true)
  else if k = 8 then (5, true)
  else if k = 9 then (5, true)
  else if k = 10 then (15, true)
  else if k = 11 then (31, true)
  else if k = 12 then (31, true)
  else if k = 13 then (29, true)
  else if k = 14 then (97, true)
  else if k = 15 then (104, true)
  else if k = 16 then (1, true)
  else if k = 17 then (0, true)
  else (0, false)
theorem kind_cases (k : Int) : k = 1 ∨ k = 2 ∨ k = 3 ∨ k = 4 ∨ k = 5 ∨ k = 6 ∨ k = 7 ∨ k = 8 ∨ k = 9 ∨ k = 10 ∨ k = 11 ∨ k = 12 ∨ k = 13 ∨ k = 14 ∨ k = 15 ∨ k = 16 ∨ k = 17 ∨ (k < 1 ∨ 17 < k) := by omega
set_option maxRecDepth 100000 in
set_option maxHeartbeats 4000000 in
theorem has_any (k : Int) (w : World) : Calls Tryd.prog 77 #[.int .i64 k] w fun e w' => e = .returned (.tuple #[.int .i64 (hasV k).1, .bool (hasV k).2]) ∧ w = w' := by
  rcases kind_cases k with rfl | rfl | rfl | rfl | rfl | rfl | rfl | rfl | rfl | rfl | rfl | rfl | rfl | rfl | rfl | rfl | rfl | h
  iterate 17
    · go_enter Tryd.func77, Tryd.ntmps77
      go_wp2
      go_ret2
      exact ⟨rfl, rfl⟩
  · have hv : hasV k = (0, false) := by unfold hasV; repeat (rw [if_neg (by omega)])
    rw [hv]
    clear hv
    have e1 : (k == 1) = false := beq_eq_false_iff_ne.2 (by omega)
    have e2 : (k == 2) = false := beq_eq_false_iff_ne.2 (by omega)
    have e3 : (k == 3) = false := beq_eq_false_iff_ne.2 (by omega)
    have e4 : (k == 4) = false := beq_eq_false_iff_ne.2 (by omega)
    have e5 : (k == 5) = false := beq_eq_false_iff_ne.2 (by omega)
    have e6 : (k == 6) = false := beq_eq_false_iff_ne.2 (by omega)
    have e7 : (k == 7) = false := beq_eq_false_iff_ne.2 (by omega)
    have e8 : (k == 8) = false := beq_eq_false_iff_ne.2 (by omega)
    have e9 : (k == 9) = false := beq_eq_false_iff_ne.2 (by omega)
    have e10 : (k == 10) = false := beq_eq_false_iff_ne.2 (by omega)
    have e11 : (k == 11) = false := beq_eq_false_iff_ne.2 (by omega)
    have e12 : (k == 12) = false := beq_eq_false_iff_ne.2 (by omega)
    have e13 : (k == 13) = false := beq_eq_false_iff_ne.2 (by omega)
    have e14 : (k == 14) = false := beq_eq_false_iff_ne.2 (by omega)
    have e15 : (k == 15) = false := beq_eq_false_iff_ne.2 (by omega)
    have e16 : (k == 16) = false := beq_eq_false_iff_ne.2 (by omega)
    have e17 : (k == 17) = false := beq_eq_false_iff_ne.2 (by omega)
    clear h
    go_enter Tryd.func77, Tryd.ntmps77
    go_wp2
    go_ret2
    exact ⟨rfl, rfl⟩
end Go.Proofs.YtppoiahhaclleaaDoor
