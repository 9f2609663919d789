/- keysmithkit.Pick. -/
import Derived.Test.YtppoiahhaclleaaDoorWordsA
namespace Go.Proofs.YtppoiahhaclleaaDoor
open Go.RowKit

/-- What Pick tells, said by what is known of it. -/
def Picked (m : Nat) (w : World) (e : Ending) (w' : World) : Prop := ∃ p : Nat, p < m ∧ e = .returned (.int .i64 p) ∧ w = w'

theorem tmod_range (a : Int) (m : Nat) (hm : 1 ≤ m) : -(m : Int) < a.tmod m ∧ a.tmod m < m := by
  have e1 := Int.emod_nonneg a (b := m) (by omega)
  have e2 := Int.emod_lt_of_pos a (b := m) (by omega)
  have e3 := Int.emod_nonneg (-a) (b := m) (by omega)
  have e4 := Int.emod_lt_of_pos (-a) (b := m) (by omega)
  rcases Int.le_total 0 a with h | h
  · rw [Int.tmod_eq_emod_of_nonneg h]; omega
  · have h := Int.tmod_eq_emod_of_nonneg (a := -a) (b := m) (by omega)
    rw [Int.neg_tmod] at h; omega

set_option maxHeartbeats 400000 in
theorem Pick_any (a : Int) (m : Nat) (hm : 1 ≤ m) (hm2 : m ≤ 4096) (w : World) :
    Calls Tryd.prog 12 #[.int .i64 a, .int .i64 m] w (Picked m w) := by
  have d1 : decide ((m : Int) < 1) = false := by simp; omega
  have d2 : ((m : Int) == 0) = false := beq_eq_false_iff_ne.2 (by omega)
  have d3 : ((m : Int) == -1) = false := beq_eq_false_iff_ne.2 (by omega)
  obtain ⟨hlo, hhi⟩ := tmod_range a m hm
  generalize ht : a.tmod m = t at *
  by_cases hn : t < 0
  · have d4 : decide (t < 0) = true := by simp; omega
    go_enter Tryd.func12, Tryd.ntmps12
    go_wp2
    go_ret
    exact ⟨(t + m).toNat, by omega, ret_int (by omega), rfl⟩
  · have d4 : decide (t < 0) = false := by simp; omega
    go_enter Tryd.func12, Tryd.ntmps12
    go_wp2
    go_ret
    exact ⟨t.toNat, by omega, ret_int (by omega), rfl⟩
end Go.Proofs.YtppoiahhaclleaaDoor
