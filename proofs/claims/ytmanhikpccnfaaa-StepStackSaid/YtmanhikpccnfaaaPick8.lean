/- keysmithkit.Pick. -/
import Derived.Test.YtmanhikpccnfaaaWordsA
import Derived.Outline
namespace Go.Proofs.Ytmanhikpccnfaaa
open Go.RowKit

theorem tmod_neg (n : Int) (m : Nat) (h1 : 1 ≤ m) (h : n < 0) : -(m:Int) < n.tmod m ∧ n.tmod m ≤ 0 ∧ n % m = (n.tmod m) % m := by
  have h3 := Int.tmod_add_mul_tdiv n m
  refine ⟨?_, ?_, ?_⟩
  · have := Int.lt_tmod_of_pos n (show (0:Int) < m by omega); omega
  · have := Int.neg_tmod (-n) m
    rw [Int.neg_neg] at this
    rw [this]
    have h2 := Int.tmod_nonneg (m : Int) (show 0 ≤ -n by omega)
    omega
  · conv => lhs; rw [← h3]
    rw [Int.add_mul_emod_self_left]

set_option maxHeartbeats 400000 in
theorem Pick_any (n : Int) (m : Nat) (w : World) (h1 : 1 ≤ m) (h2 : m ≤ 1000000) (hn : -9223372036854775808 ≤ n ∧ n ≤ 9223372036854775807) :
    Calls Try.prog 9 #[.int .i64 n, .int .i64 m] w fun e w' => e = .returned (.int .i64 (n % (m : Int))) ∧ w = w' := by
  obtain ⟨q, hq⟩ : ∃ q : Int, q = n % (m : Int) := ⟨_, rfl⟩
  rw [← hq]
  have HQ := Lib.hid hq
  have d1 : decide ((m : Int) < 1) = false := by simp; omega
  have d2 : ((m : Int) == 0) = false := by simp; omega
  have d3 : ¬ ((m : Int) = 0) := by omega
  clear hq
  by_cases h0 : 0 ≤ n
  · have e1 : n.tmod (m : Int) = q := by rw [HQ.out, Int.tmod_eq_emod_of_nonneg h0]
    have e2 : decide (q < 0) = false := by have := Int.emod_nonneg n (show (m : Int) ≠ 0 by omega); rw [← HQ.out] at this; simp; omega
    have e3 : 0 ≤ q := by have := Int.emod_nonneg n (show (m : Int) ≠ 0 by omega); rw [← HQ.out] at this; exact this
    have e4 : q < 1000000 := by have := Int.emod_lt_of_pos n (show (0 : Int) < m by omega); rw [← HQ.out] at this; omega
    clear hn
    go_enter Try.func9, Try.ntmps9
    go_wp2
    go_ret
    exact ⟨rfl, rfl⟩
  · obtain ⟨b1, b2, b3⟩ := tmod_neg n m h1 (by omega)
    rw [← HQ.out] at b3
    obtain ⟨r, e0⟩ : ∃ r, n.tmod (m : Int) = r := ⟨_, rfl⟩
    rw [e0] at b1 b2 b3
    by_cases hr : r = 0
    · subst hr
      have e1 : q = 0 := by rw [b3, Int.zero_emod]
      subst e1
      clear b1 b2 b3 HQ hn
      go_enter Try.func9, Try.ntmps9
      go_wp2
      go_ret
      exact ⟨rfl, rfl⟩
    · have e1 : q = r + m := by
        rw [b3, ← Int.add_emod_right]
        exact Int.emod_eq_of_lt (by omega) (by omega)
      have e2 : decide (r < 0) = true := by simp; omega
      have e3 : 0 ≤ r + m := by omega
      have e4 : r + m ≤ 1000000 := by omega
      have E1 := Lib.hid e1
      clear b3 HQ hn e1
      go_enter Try.func9, Try.ntmps9
      go_wp2
      go_ret
      exact ⟨ret_int E1.out.symm, rfl⟩
end Go.Proofs.Ytmanhikpccnfaaa
