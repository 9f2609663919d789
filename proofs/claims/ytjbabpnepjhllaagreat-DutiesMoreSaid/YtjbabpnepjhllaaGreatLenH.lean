/- lengths.vars. -/
import Derived.Test.YtjbabpnepjhllaaGreatLenG
namespace Go.Proofs.YtjbabpnepjhllaaGreat
open Go.RowKit

theorem varTo_none {vs : List KVar} {k : Nat} (h : varTo vs k = none) : ∀ m, k ≤ m → varTo vs m = none := by
  intro m hm
  obtain ⟨d, rfl⟩ : ∃ d, m = k + d := ⟨m - k, by omega⟩
  induction d with
  | zero => exact h
  | succ d ih =>
    show varTo vs (k + d + 1) = none
    have := ih (by omega)
    unfold varTo
    rw [this]
theorem varTo_le {vs : List KVar} : ∀ {k n : Nat}, varTo vs k = some n → n ≤ k := by
  intro k
  induction k with
  | zero => intro n h; cases h; exact Nat.le_refl _
  | succ k ih =>
    intro n h
    unfold varTo at h
    split at h
    · rename_i m v hm hv
      have := ih hm
      split at h
      · cases h
      · split at h
        · cases h; omega
        · split at h
          · cases h
          · cases h; omega
    · cases h
theorem varTo_next {vs : List KVar} {k n : Nat} {v : KVar} (h : varTo vs k = some n) (hv : vs[k]? = some v) : varTo vs (k + 1) = if varOk v = false then none else if v.mode = 0 then some n else if n < k ∨ v.secret ≠ !(v.mode == 1) then none else some (n + 1) := by
  show (match varTo vs k, vs[k]? with | some n, some v => if varOk v = false then none else if v.mode = 0 then some n else if n < k ∨ v.secret ≠ !(v.mode == 1) then none else some (n + 1) | _, _ => none) = _
  rw [h, hv]
theorem varsK_no {vs : List KVar} {k : Nat} (h : varTo vs k = none) (hk : k ≤ vs.length) : varsK vs = false := by
  unfold varsK; rw [varTo_none h _ hk]
set_option maxRecDepth 100000 in
set_option maxHeartbeats 4000000 in
theorem vars_any (A : Option Addr) (n c : Nat) (vs : List KVar) (w : World) (F : Nat → Prop) (hv : KVarsAt w F (.slice A n c) vs) (hF : ∀ k, F k → k < w.heap.size) (hn : vs.length ≤ 100000) :
    Calls Tryz.prog 59 #[.slice A n c] w fun e w' => e = .returned (.bool (varsK vs)) ∧ Below w.heap.size w w' := by
  have hnl := (rows_len hv).1
  have HV := Lib.hid hv
  have HF := Lib.hid hF
  have HL := Lib.hid hnl
  have n5 : n ≤ 100000 := by omega
  clear hv hF hnl hn
  go_enter Tryz.func59, Tryz.ntmps59
  go_wp2
  go_loopw [3, 4, 5, 8] (fun s3 _ _ s8 wr => ∃ k m : Nat, k ≤ n ∧ s8 = .int .i64 k ∧ s3 = .int .i64 m ∧ Hid (varTo vs k = some m) ∧ Below w.heap.size w wr) (fun _ _ _ s8 _ => n - (intOf s8).toNat)
  case atStart => exact ⟨0, 0, by omega, rfl, rfl, Lib.hid rfl, Below.refl _ _⟩
  case round =>
    obtain ⟨k, m, hk, rfl, rfl, HT, hb⟩ := hrel
    have HB := Lib.hid hb
    have hmk := varTo_le HT.out
    by_cases hlt : k < n
    · have d1 : decide (k < n) = true := decide_eq_true hlt
      obtain ⟨v, hv⟩ : ∃ v, vs[k]? = some v := ⟨_, List.getElem?_eq_getElem (by have := HL.out; omega)⟩
      have HNX := Lib.hid (varTo_next HT.out hv)
      obtain ⟨g, off, rfl, hg, c0, c1, c2⟩ := KVarsAt.at_ (HV.out.keep (SameOn.of_below hb HF.out)) hv
      have i0 : (0 : Int) ≤ (k : Int) := by omega
      have i1 : (k : Int) < (n : Int) := by omega
      have HB2 := Lib.hid (hb.alloc hb.size (.cells #[.int .i64 v.limbs, .bool v.secret, .int .i64 v.mode] 60))
      clear hv hg hb
      cases d2 : decide (v.limbs < 1)
      rotate_left
      · have HN := Lib.hid (varsK_no (k := k + 1) (by rw [HNX.out, if_pos (by unfold varOk; rw [decide_eq_false (p := 1 ≤ v.limbs) (by have := of_decide_eq_true d2; omega)]; rfl)]) (by have := HL.out; omega))
        go_wp2
        go_ret
        exact ⟨ret_bool HN.out.symm, HB2.out⟩
      cases d3 : decide (512 < v.limbs)
      rotate_left
      · have HN := Lib.hid (varsK_no (k := k + 1) (by rw [HNX.out, if_pos (by unfold varOk; rw [decide_eq_false (p := v.limbs ≤ 512) (by have := of_decide_eq_true d3; omega)]; simp)]) (by have := HL.out; omega))
        go_wp2
        go_ret
        exact ⟨ret_bool HN.out.symm, HB2.out⟩
      cases d4 : decide (v.mode < 0)
      rotate_left
      · have HN := Lib.hid (varsK_no (k := k + 1) (by rw [HNX.out, if_pos (by unfold varOk; rw [decide_eq_false (p := 0 ≤ v.mode) (by have := of_decide_eq_true d4; omega)]; simp)]) (by have := HL.out; omega))
        go_wp2
        go_ret
        exact ⟨ret_bool HN.out.symm, HB2.out⟩
      cases d5 : decide (3 < v.mode)
      rotate_left
      · have HN := Lib.hid (varsK_no (k := k + 1) (by rw [HNX.out, if_pos (by unfold varOk; rw [decide_eq_false (p := v.mode ≤ 3) (by have := of_decide_eq_true d5; omega)]; simp)]) (by have := HL.out; omega))
        go_wp2
        go_ret
        exact ⟨ret_bool HN.out.symm, HB2.out⟩
      have hok : varOk v = true := by
        have := of_decide_eq_false d2
        have := of_decide_eq_false d3
        have := of_decide_eq_false d4
        have := of_decide_eq_false d5
        unfold varOk
        rw [decide_eq_true (p := 1 ≤ v.limbs) (by omega), decide_eq_true (p := v.limbs ≤ 512) (by omega), decide_eq_true (p := 0 ≤ v.mode) (by omega), decide_eq_true (p := v.mode ≤ 3) (by omega)]; rfl
      have hnx := HNX.out
      rw [if_neg (by rw [hok]; simp)] at hnx
      have HNX := Lib.hid hnx
      clear hnx hok
      cases d6 : (v.mode == 0)
      rotate_left
      · have HN := Lib.hid (show varTo vs (k + 1) = some m by rw [HNX.out, if_pos (by simpa using d6)])
        go_wp2
        go_roundw
        case rel => exact ⟨k + 1, m, hlt, by go_num, rfl, HN, HB2.out⟩
        case measure => simp [intOf]; omega
      have hnx := HNX.out
      rw [if_neg (by simpa using d6)] at hnx
      have HNX := Lib.hid hnx
      clear hnx
      cases d7 : decide (m < k)
      rotate_left
      · have HN := Lib.hid (varsK_no (k := k + 1) (by rw [HNX.out, if_pos (by left; simpa using d7)]) (by have := HL.out; omega))
        go_wp2
        go_ret
        exact ⟨ret_bool HN.out.symm, HB2.out⟩
      cases d8 : (v.mode == 1)
      · have d9 : (v.mode != 1) = true := by rw [bne, d8]; rfl
        cases hs : v.secret
        · rw [hs] at c1 HNX HB2
          have HN := Lib.hid (varsK_no (k := k + 1) (by rw [HNX.out, if_pos (by right; rw [d8]; decide)]) (by have := HL.out; omega))
          go_wp2
          go_ret
          exact ⟨ret_bool HN.out.symm, HB2.out⟩
        · rw [hs] at c1 HNX HB2
          have HN := Lib.hid (show varTo vs (k + 1) = some (m + 1) by rw [HNX.out, if_neg (by rw [d8]; simpa using d7)])
          go_wp2
          go_roundw
          case rel => exact ⟨k + 1, m + 1, hlt, by go_num, by go_num, HN, HB2.out⟩
          case measure => simp [intOf]; omega
      · have d9 : (v.mode != 1) = false := by rw [bne, d8]; rfl
        cases hs : v.secret
        · rw [hs] at c1 HNX HB2
          have HN := Lib.hid (show varTo vs (k + 1) = some (m + 1) by rw [HNX.out, if_neg (by rw [d8]; simpa using d7)])
          go_wp2
          go_roundw
          case rel => exact ⟨k + 1, m + 1, hlt, by go_num, by go_num, HN, HB2.out⟩
          case measure => simp [intOf]; omega
        · rw [hs] at c1 HNX HB2
          have HN := Lib.hid (varsK_no (k := k + 1) (by rw [HNX.out, if_pos (by right; rw [d8]; decide)]) (by have := HL.out; omega))
          go_wp2
          go_ret
          exact ⟨ret_bool HN.out.symm, HB2.out⟩
    · have d1 : decide (k < n) = false := decide_eq_false hlt
      have e : k = n := by omega
      subst e
      have HX := Lib.hid (show varsK vs = (decide (1 ≤ k) && (decide (k ≤ 256) && decide (m ≤ 12))) by
        have := HT.out
        unfold varsK
        rw [← HL.out, this])
      clear hb
      go_wp2
      all_goals
        go_ret
        refine ⟨ret_bool ?_, HB.out⟩
        rw [HX.out, Bool.eq_iff_iff]
        simp
        omega
end Go.Proofs.YtjbabpnepjhllaaGreat
