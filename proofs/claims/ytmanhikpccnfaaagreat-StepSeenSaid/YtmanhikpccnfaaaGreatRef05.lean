/- package keysmithref05: Form, Has, register, small, place. -/
import Derived.Test.YtmanhikpccnfaaaGreatInstD
import Derived.Deep.DeepCutAuto
import Derived.Outline
namespace Go.Proofs.YtmanhikpccnfaaaGreat
open Go.RowKit

/-- What an operation has, as letters. -/
def formR (op : Int) : List UInt8 :=
  if op = 1 ∨ (6 ≤ op ∧ op ≤ 14) ∨ op = 20 ∨ op = 21 ∨ op = 26 ∨ op = 27 then [68, 83]
  else if op = 2 then [68, 73]
  else if op = 3 ∨ op = 5 then [68, 77]
  else if op = 4 then [83, 77]
  else if 15 ≤ op ∧ op ≤ 18 then [68, 105]
  else if op = 19 then [68, 83, 84]
  else if op = 22 ∨ op = 23 ∨ op = 29 then [68]
  else if op = 24 ∨ op = 25 then [68, 98]
  else if op = 28 then [83]
  else if op = 30 ∨ op = 31 ∨ op = 32 then [105]
  else if op = 33 then [45]
  else []

theorem formR_out {op : Int} (h : op < 1 ∨ 33 < op) : formR op = [] := by
  unfold formR
  rw [if_neg (by omega), if_neg (by omega), if_neg (by omega), if_neg (by omega), if_neg (by omega), if_neg (by omega), if_neg (by omega), if_neg (by omega), if_neg (by omega), if_neg (by omega), if_neg (by omega)]

set_option maxRecDepth 100000 in
set_option maxHeartbeats 800000 in
theorem Form_lo (op : Int) (w : World) (h : op < 1) : Calls Tryz.prog 27 #[.int .i64 op] w fun e w' => e = .returned (.string ⟨#[]⟩) ∧ w = w' := by
  have e1 : (op == 1) = false := by simp; omega
  have e2 : (op == 2) = false := by simp; omega
  have e3 : (op == 3) = false := by simp; omega
  have e4 : (op == 4) = false := by simp; omega
  have e5 : (op == 5) = false := by simp; omega
  have e19 : (op == 19) = false := by simp; omega
  have e20 : (op == 20) = false := by simp; omega
  have e21 : (op == 21) = false := by simp; omega
  have e22 : (op == 22) = false := by simp; omega
  have e23 : (op == 23) = false := by simp; omega
  have e24 : (op == 24) = false := by simp; omega
  have e25 : (op == 25) = false := by simp; omega
  have e26 : (op == 26) = false := by simp; omega
  have e27 : (op == 27) = false := by simp; omega
  have e28 : (op == 28) = false := by simp; omega
  have e29 : (op == 29) = false := by simp; omega
  have e30 : (op == 30) = false := by simp; omega
  have e31 : (op == 31) = false := by simp; omega
  have e32 : (op == 32) = false := by simp; omega
  have e33 : (op == 33) = false := by simp; omega
  have d6 : decide (6 ≤ op) = false := by simp; omega
  have d14 : decide (op ≤ 14) = true := by simp; omega
  have d15 : decide (15 ≤ op) = false := by simp; omega
  have d18 : decide (op ≤ 18) = true := by simp; omega
  clear h
  go_enter Tryz.func27, Tryz.ntmps27
  go_wp2
  go_ret
  exact ⟨rfl, rfl⟩

set_option maxRecDepth 100000 in
set_option maxHeartbeats 800000 in
theorem Form_hi (op : Int) (w : World) (h : 33 < op) : Calls Tryz.prog 27 #[.int .i64 op] w fun e w' => e = .returned (.string ⟨#[]⟩) ∧ w = w' := by
  have e1 : (op == 1) = false := by simp; omega
  have e2 : (op == 2) = false := by simp; omega
  have e3 : (op == 3) = false := by simp; omega
  have e4 : (op == 4) = false := by simp; omega
  have e5 : (op == 5) = false := by simp; omega
  have e19 : (op == 19) = false := by simp; omega
  have e20 : (op == 20) = false := by simp; omega
  have e21 : (op == 21) = false := by simp; omega
  have e22 : (op == 22) = false := by simp; omega
  have e23 : (op == 23) = false := by simp; omega
  have e24 : (op == 24) = false := by simp; omega
  have e25 : (op == 25) = false := by simp; omega
  have e26 : (op == 26) = false := by simp; omega
  have e27 : (op == 27) = false := by simp; omega
  have e28 : (op == 28) = false := by simp; omega
  have e29 : (op == 29) = false := by simp; omega
  have e30 : (op == 30) = false := by simp; omega
  have e31 : (op == 31) = false := by simp; omega
  have e32 : (op == 32) = false := by simp; omega
  have e33 : (op == 33) = false := by simp; omega
  have d6 : decide (6 ≤ op) = true := by simp; omega
  have d14 : decide (op ≤ 14) = false := by simp; omega
  have d15 : decide (15 ≤ op) = true := by simp; omega
  have d18 : decide (op ≤ 18) = false := by simp; omega
  clear h
  go_enter Tryz.func27, Tryz.ntmps27
  go_wp2
  go_ret
  exact ⟨rfl, rfl⟩

theorem Form_1 (w : World) : Calls Tryz.prog 27 #[.int .i64 1] w fun e w' => e = .returned (.string ⟨#[68, 83]⟩) ∧ w = w' := by
  go_enter Tryz.func27, Tryz.ntmps27
  go_wp2
  go_ret
  exact ⟨rfl, rfl⟩
theorem Form_2 (w : World) : Calls Tryz.prog 27 #[.int .i64 2] w fun e w' => e = .returned (.string ⟨#[68, 73]⟩) ∧ w = w' := by
  go_enter Tryz.func27, Tryz.ntmps27
  go_wp2
  go_ret
  exact ⟨rfl, rfl⟩
theorem Form_3 (w : World) : Calls Tryz.prog 27 #[.int .i64 3] w fun e w' => e = .returned (.string ⟨#[68, 77]⟩) ∧ w = w' := by
  go_enter Tryz.func27, Tryz.ntmps27
  go_wp2
  go_ret
  exact ⟨rfl, rfl⟩
theorem Form_4 (w : World) : Calls Tryz.prog 27 #[.int .i64 4] w fun e w' => e = .returned (.string ⟨#[83, 77]⟩) ∧ w = w' := by
  go_enter Tryz.func27, Tryz.ntmps27
  go_wp2
  go_ret
  exact ⟨rfl, rfl⟩
theorem Form_5 (w : World) : Calls Tryz.prog 27 #[.int .i64 5] w fun e w' => e = .returned (.string ⟨#[68, 77]⟩) ∧ w = w' := by
  go_enter Tryz.func27, Tryz.ntmps27
  go_wp2
  go_ret
  exact ⟨rfl, rfl⟩
theorem Form_6 (w : World) : Calls Tryz.prog 27 #[.int .i64 6] w fun e w' => e = .returned (.string ⟨#[68, 83]⟩) ∧ w = w' := by
  go_enter Tryz.func27, Tryz.ntmps27
  go_wp2
  go_ret
  exact ⟨rfl, rfl⟩
theorem Form_7 (w : World) : Calls Tryz.prog 27 #[.int .i64 7] w fun e w' => e = .returned (.string ⟨#[68, 83]⟩) ∧ w = w' := by
  go_enter Tryz.func27, Tryz.ntmps27
  go_wp2
  go_ret
  exact ⟨rfl, rfl⟩
theorem Form_8 (w : World) : Calls Tryz.prog 27 #[.int .i64 8] w fun e w' => e = .returned (.string ⟨#[68, 83]⟩) ∧ w = w' := by
  go_enter Tryz.func27, Tryz.ntmps27
  go_wp2
  go_ret
  exact ⟨rfl, rfl⟩
theorem Form_9 (w : World) : Calls Tryz.prog 27 #[.int .i64 9] w fun e w' => e = .returned (.string ⟨#[68, 83]⟩) ∧ w = w' := by
  go_enter Tryz.func27, Tryz.ntmps27
  go_wp2
  go_ret
  exact ⟨rfl, rfl⟩
theorem Form_10 (w : World) : Calls Tryz.prog 27 #[.int .i64 10] w fun e w' => e = .returned (.string ⟨#[68, 83]⟩) ∧ w = w' := by
  go_enter Tryz.func27, Tryz.ntmps27
  go_wp2
  go_ret
  exact ⟨rfl, rfl⟩
theorem Form_11 (w : World) : Calls Tryz.prog 27 #[.int .i64 11] w fun e w' => e = .returned (.string ⟨#[68, 83]⟩) ∧ w = w' := by
  go_enter Tryz.func27, Tryz.ntmps27
  go_wp2
  go_ret
  exact ⟨rfl, rfl⟩
theorem Form_12 (w : World) : Calls Tryz.prog 27 #[.int .i64 12] w fun e w' => e = .returned (.string ⟨#[68, 83]⟩) ∧ w = w' := by
  go_enter Tryz.func27, Tryz.ntmps27
  go_wp2
  go_ret
  exact ⟨rfl, rfl⟩
theorem Form_13 (w : World) : Calls Tryz.prog 27 #[.int .i64 13] w fun e w' => e = .returned (.string ⟨#[68, 83]⟩) ∧ w = w' := by
  go_enter Tryz.func27, Tryz.ntmps27
  go_wp2
  go_ret
  exact ⟨rfl, rfl⟩
theorem Form_14 (w : World) : Calls Tryz.prog 27 #[.int .i64 14] w fun e w' => e = .returned (.string ⟨#[68, 83]⟩) ∧ w = w' := by
  go_enter Tryz.func27, Tryz.ntmps27
  go_wp2
  go_ret
  exact ⟨rfl, rfl⟩
theorem Form_15 (w : World) : Calls Tryz.prog 27 #[.int .i64 15] w fun e w' => e = .returned (.string ⟨#[68, 105]⟩) ∧ w = w' := by
  go_enter Tryz.func27, Tryz.ntmps27
  go_wp2
  go_ret
  exact ⟨rfl, rfl⟩
theorem Form_16 (w : World) : Calls Tryz.prog 27 #[.int .i64 16] w fun e w' => e = .returned (.string ⟨#[68, 105]⟩) ∧ w = w' := by
  go_enter Tryz.func27, Tryz.ntmps27
  go_wp2
  go_ret
  exact ⟨rfl, rfl⟩
theorem Form_17 (w : World) : Calls Tryz.prog 27 #[.int .i64 17] w fun e w' => e = .returned (.string ⟨#[68, 105]⟩) ∧ w = w' := by
  go_enter Tryz.func27, Tryz.ntmps27
  go_wp2
  go_ret
  exact ⟨rfl, rfl⟩
theorem Form_18 (w : World) : Calls Tryz.prog 27 #[.int .i64 18] w fun e w' => e = .returned (.string ⟨#[68, 105]⟩) ∧ w = w' := by
  go_enter Tryz.func27, Tryz.ntmps27
  go_wp2
  go_ret
  exact ⟨rfl, rfl⟩
theorem Form_19 (w : World) : Calls Tryz.prog 27 #[.int .i64 19] w fun e w' => e = .returned (.string ⟨#[68, 83, 84]⟩) ∧ w = w' := by
  go_enter Tryz.func27, Tryz.ntmps27
  go_wp2
  go_ret
  exact ⟨rfl, rfl⟩
theorem Form_20 (w : World) : Calls Tryz.prog 27 #[.int .i64 20] w fun e w' => e = .returned (.string ⟨#[68, 83]⟩) ∧ w = w' := by
  go_enter Tryz.func27, Tryz.ntmps27
  go_wp2
  go_ret
  exact ⟨rfl, rfl⟩
theorem Form_21 (w : World) : Calls Tryz.prog 27 #[.int .i64 21] w fun e w' => e = .returned (.string ⟨#[68, 83]⟩) ∧ w = w' := by
  go_enter Tryz.func27, Tryz.ntmps27
  go_wp2
  go_ret
  exact ⟨rfl, rfl⟩
theorem Form_22 (w : World) : Calls Tryz.prog 27 #[.int .i64 22] w fun e w' => e = .returned (.string ⟨#[68]⟩) ∧ w = w' := by
  go_enter Tryz.func27, Tryz.ntmps27
  go_wp2
  go_ret
  exact ⟨rfl, rfl⟩
theorem Form_23 (w : World) : Calls Tryz.prog 27 #[.int .i64 23] w fun e w' => e = .returned (.string ⟨#[68]⟩) ∧ w = w' := by
  go_enter Tryz.func27, Tryz.ntmps27
  go_wp2
  go_ret
  exact ⟨rfl, rfl⟩
theorem Form_24 (w : World) : Calls Tryz.prog 27 #[.int .i64 24] w fun e w' => e = .returned (.string ⟨#[68, 98]⟩) ∧ w = w' := by
  go_enter Tryz.func27, Tryz.ntmps27
  go_wp2
  go_ret
  exact ⟨rfl, rfl⟩
theorem Form_25 (w : World) : Calls Tryz.prog 27 #[.int .i64 25] w fun e w' => e = .returned (.string ⟨#[68, 98]⟩) ∧ w = w' := by
  go_enter Tryz.func27, Tryz.ntmps27
  go_wp2
  go_ret
  exact ⟨rfl, rfl⟩
theorem Form_26 (w : World) : Calls Tryz.prog 27 #[.int .i64 26] w fun e w' => e = .returned (.string ⟨#[68, 83]⟩) ∧ w = w' := by
  go_enter Tryz.func27, Tryz.ntmps27
  go_wp2
  go_ret
  exact ⟨rfl, rfl⟩
theorem Form_27 (w : World) : Calls Tryz.prog 27 #[.int .i64 27] w fun e w' => e = .returned (.string ⟨#[68, 83]⟩) ∧ w = w' := by
  go_enter Tryz.func27, Tryz.ntmps27
  go_wp2
  go_ret
  exact ⟨rfl, rfl⟩
theorem Form_28 (w : World) : Calls Tryz.prog 27 #[.int .i64 28] w fun e w' => e = .returned (.string ⟨#[83]⟩) ∧ w = w' := by
  go_enter Tryz.func27, Tryz.ntmps27
  go_wp2
  go_ret
  exact ⟨rfl, rfl⟩
theorem Form_29 (w : World) : Calls Tryz.prog 27 #[.int .i64 29] w fun e w' => e = .returned (.string ⟨#[68]⟩) ∧ w = w' := by
  go_enter Tryz.func27, Tryz.ntmps27
  go_wp2
  go_ret
  exact ⟨rfl, rfl⟩
theorem Form_30 (w : World) : Calls Tryz.prog 27 #[.int .i64 30] w fun e w' => e = .returned (.string ⟨#[105]⟩) ∧ w = w' := by
  go_enter Tryz.func27, Tryz.ntmps27
  go_wp2
  go_ret
  exact ⟨rfl, rfl⟩
theorem Form_31 (w : World) : Calls Tryz.prog 27 #[.int .i64 31] w fun e w' => e = .returned (.string ⟨#[105]⟩) ∧ w = w' := by
  go_enter Tryz.func27, Tryz.ntmps27
  go_wp2
  go_ret
  exact ⟨rfl, rfl⟩
theorem Form_32 (w : World) : Calls Tryz.prog 27 #[.int .i64 32] w fun e w' => e = .returned (.string ⟨#[105]⟩) ∧ w = w' := by
  go_enter Tryz.func27, Tryz.ntmps27
  go_wp2
  go_ret
  exact ⟨rfl, rfl⟩
theorem Form_33 (w : World) : Calls Tryz.prog 27 #[.int .i64 33] w fun e w' => e = .returned (.string ⟨#[45]⟩) ∧ w = w' := by
  go_enter Tryz.func27, Tryz.ntmps27
  go_wp2
  go_ret
  exact ⟨rfl, rfl⟩
theorem Form_any (op : Int) (w : World) : Calls Tryz.prog 27 #[.int .i64 op] w fun e w' => e = .returned (.string ⟨(formR op).toArray⟩) ∧ w = w' := by
  rcases (by omega : op < 1 ∨ 33 < op ∨ op = 1 ∨ op = 2 ∨ op = 3 ∨ op = 4 ∨ op = 5 ∨ op = 6 ∨ op = 7 ∨ op = 8 ∨ op = 9 ∨ op = 10 ∨ op = 11 ∨ op = 12 ∨ op = 13 ∨ op = 14 ∨ op = 15 ∨ op = 16 ∨ op = 17 ∨ op = 18 ∨ op = 19 ∨ op = 20 ∨ op = 21 ∨ op = 22 ∨ op = 23 ∨ op = 24 ∨ op = 25 ∨ op = 26 ∨ op = 27 ∨ op = 28 ∨ op = 29 ∨ op = 30 ∨ op = 31 ∨ op = 32 ∨ op = 33) with h | h | rfl | rfl | rfl | rfl | rfl | rfl | rfl | rfl | rfl | rfl | rfl | rfl | rfl | rfl | rfl | rfl | rfl | rfl | rfl | rfl | rfl | rfl | rfl | rfl | rfl | rfl | rfl | rfl | rfl | rfl | rfl | rfl | rfl
  · rw [formR_out (.inl h)]; exact Form_lo op w h
  · rw [formR_out (.inr h)]; exact Form_hi op w h
  · exact Form_1 w
  · exact Form_2 w
  · exact Form_3 w
  · exact Form_4 w
  · exact Form_5 w
  · exact Form_6 w
  · exact Form_7 w
  · exact Form_8 w
  · exact Form_9 w
  · exact Form_10 w
  · exact Form_11 w
  · exact Form_12 w
  · exact Form_13 w
  · exact Form_14 w
  · exact Form_15 w
  · exact Form_16 w
  · exact Form_17 w
  · exact Form_18 w
  · exact Form_19 w
  · exact Form_20 w
  · exact Form_21 w
  · exact Form_22 w
  · exact Form_23 w
  · exact Form_24 w
  · exact Form_25 w
  · exact Form_26 w
  · exact Form_27 w
  · exact Form_28 w
  · exact Form_29 w
  · exact Form_30 w
  · exact Form_31 w
  · exact Form_32 w
  · exact Form_33 w

def hasR (l : List UInt8) (c : Nat) : Bool := l.any fun x => x.toNat == c
theorem hasR_no {l : List UInt8} {c : Nat} (h : ∀ (j : Nat) (x : UInt8), l[j]? = some x → x.toNat ≠ c) : hasR l c = false := by
  unfold hasR
  rw [List.any_eq_false]
  intro x hx
  obtain ⟨j, hj⟩ := List.mem_iff_getElem?.1 hx
  simpa using h j x hj
theorem hasR_yes {l : List UInt8} {c : Nat} {j : Nat} {x : UInt8} (h : l[j]? = some x) (hc : x.toNat = c) : hasR l c = true :=
  List.any_eq_true.2 ⟨x, List.mem_of_getElem? h, by simpa using hc⟩

set_option maxHeartbeats 800000 in
theorem Has_any (s : ByteArray) (c : Nat) (w : World) (hs : s.size ≤ 1000) : Calls Tryz.prog 28 #[.string s, .int .u8 c] w fun e w' => e = .returned (.bool (hasR s.data.toList c)) ∧ w = w' := by
  go_enter Tryz.func28, Tryz.ntmps28
  go_wp2
  go_loop [5] (fun i => ∃ k : Nat, k ≤ s.size ∧ i = .int .i64 k ∧ ∀ (j : Nat) (x : UInt8), j < k → s.data.toList[j]? = some x → x.toNat ≠ c) (fun i => s.size - (intOf i).toNat)
  case atStart => exact ⟨0, Nat.zero_le _, rfl, fun j x hj => absurd hj (by omega)⟩
  case round =>
    obtain ⟨k, hk, rfl, hall⟩ := hrel
    have HALL := Lib.hid hall
    clear hall
    by_cases hlt : k < s.size
    · have hget : s.data.toList[k]? = some s[k] := by rw [List.getElem?_eq_getElem (by simpa using hlt)]; rfl
      have HG := Lib.hid hget
      clear hget
      by_cases hc : s[k].toNat = c
      · have e1 : ((s[k].toNat : Int) == (c : Int)) = true := by simp; omega
        have e2 : (s[k].toNat == c) = true := by simpa using hc
        have hy := hasR_yes HG.out hc
        have HY := Lib.hid hy
        clear hy hc
        go_wp2
        go_ret
        exact ⟨ret_bool HY.out.symm, rfl⟩
      · have e1 : ((s[k].toNat : Int) == (c : Int)) = false := by simp; omega
        have e2 : (s[k].toNat == c) = false := by simpa using hc
        have HC := Lib.hid hc
        clear hc
        go_wp2
        go_round
        case rel => exact ⟨k + 1, by omega, by go_num, fun j x hj hx => by
          rcases Nat.lt_or_ge j k with h | h
          · exact HALL.out j x h hx
          · obtain rfl : j = k := by omega
            have h1 := HG.out
            rw [h1] at hx
            cases hx
            exact HC.out⟩
        case measure => simp [intOf]; omega
    · have hn : hasR s.data.toList c = false := hasR_no fun j x hx => HALL.out j x (by
        have := (List.getElem?_eq_some_iff.1 hx).1; have h2 : s.data.toList.length = s.size := by simp
        omega) hx
      have HN := Lib.hid hn
      clear hn
      go_wp2
      go_ret
      exact ⟨ret_bool HN.out.symm, rfl⟩

theorem rregister_any (r : Int) (w : World) : Calls Tryz.prog 29 #[.int .i64 r] w fun e w' => e = .returned (.bool (regOk r)) ∧ w = w' := by
  unfold regOk
  by_cases h0 : 0 ≤ r
  · have d0 : decide (0 ≤ r) = true := by simpa using h0
    go_enter Tryz.func29, Tryz.ntmps29
    go_wp2
    go_ret
    exact ⟨by simp [d0], rfl⟩
  · have d0 : decide (0 ≤ r) = false := by simpa using h0
    go_enter Tryz.func29, Tryz.ntmps29
    go_wp2
    go_ret
    exact ⟨by simp, rfl⟩
theorem rsmall_any (n : Int) (w : World) : Calls Tryz.prog 31 #[.int .i64 n] w fun e w' => e = .returned (.bool (smallI n)) ∧ w = w' := by
  unfold smallI
  by_cases h0 : -2147483648 ≤ n
  · have d0 : decide (-2147483648 ≤ n) = true := by simpa using h0
    have d1 : decide (n < 2147483648) = decide (n ≤ 2147483647) := by rw [decide_eq_decide]; omega
    go_enter Tryz.func31, Tryz.ntmps31
    go_wp2
    go_ret
    exact ⟨by simp [d0], rfl⟩
  · have d0 : decide (-2147483648 ≤ n) = false := by simpa using h0
    go_enter Tryz.func31, Tryz.ntmps31
    go_wp2
    go_ret
    exact ⟨by simp, rfl⟩
end Go.Proofs.YtmanhikpccnfaaaGreat
