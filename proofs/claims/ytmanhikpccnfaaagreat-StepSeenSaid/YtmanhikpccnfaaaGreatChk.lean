/- memory.last, memory.Check and what Check hands to slices.ContainsFunc. -/
import Derived.Test.YtmanhikpccnfaaaGreatIdx
namespace Go.Proofs.YtmanhikpccnfaaaGreat
open Go.RowKit

theorem wrapU (x : Int) : IntKind.u64.wrap x = x % 18446744073709551616 := by simp [IntKind.wrap, IntKind.bits, IntKind.signed]

def lastOf (r : Reg) : Nat := (r.base + r.bytes.length + 18446744073709551615) % 18446744073709551616

theorem lastOf_wrap (r : Reg) : IntKind.u64.wrap (IntKind.u64.wrap ((r.base : Int) + IntKind.u64.wrap (r.bytes.length : Int)) - 1) = (lastOf r : Int) := by
  simp only [wrapU, lastOf]; omega

set_option maxHeartbeats 400000 in
theorem last_any (r : Reg) (w : World) (A : Option Addr) (c : Nat) :
    Calls Tryz.prog 53 #[.agg #[.int .u64 r.base, .slice A r.bytes.length c, .bool r.write]] w fun e w' => e = .returned (.int .u64 (lastOf r)) ∧ Below w.heap.size w w' := by
  go_enter Tryz.func53, Tryz.ntmps53
  go_wp2
  go_ret
  exact ⟨ret_int (lastOf_wrap r), (Below.refl _ _).alloc (Nat.le_refl _) _⟩

set_option maxHeartbeats 400000 in
theorem Check1_any (r : Reg) (w : World) (A : Option Addr) (c : Nat) :
    Calls Tryz.prog 52 #[.agg #[.int .u64 r.base, .slice A r.bytes.length c, .bool r.write]] w fun e w' => e = .returned (.bool (decide (1048576 < r.bytes.length))) ∧ Below w.heap.size w w' := by
  go_enter Tryz.func52, Tryz.ntmps52
  go_wp2
  go_ret
  exact ⟨ret_bool (by simp; omega), (Below.refl _ _).alloc (Nat.le_refl _) _⟩

/-- Two regions meet. -/
def meets (o r : Reg) : Bool := decide (o.base ≤ lastOf r ∧ r.base ≤ lastOf o)

set_option maxHeartbeats 400000 in
theorem Check2_any (o r : Reg) (w : World) (A A' : Option Addr) (c c' : Nat) (br : Nat) (hbr : br < w.heap.size)
    (h0 : w.cell? ⟨br, 0, none⟩ = some (.int .u64 r.base)) (h1 : w.cell? ⟨br, 1, none⟩ = some (.slice A' r.bytes.length c')) (h2 : w.cell? ⟨br, 2, none⟩ = some (.bool r.write)) :
    Calls Tryz.prog 54 #[.agg #[.int .u64 o.base, .slice A o.bytes.length c, .bool o.write], .pointer (some ⟨br, 0, none⟩)] w fun e w' => e = .returned (.bool (meets o r)) ∧ Below w.heap.size w w' := by
  have hd' : decide ((o.base : Int) ≤ (lastOf r : Int)) = decide (o.base ≤ lastOf r) := by simp
  have hm : meets o r = (decide (o.base ≤ lastOf r) && decide (r.base ≤ lastOf o)) := by simp [meets]
  have HM := Lib.hid hm; clear hm
  obtain ⟨W, hW, hbw, hsz, hnew, hold⟩ := boxed w #[.int .u64 o.base, .slice A o.bytes.length c, .bool o.write] 38
  have g0 := (hold br 0 hbr).trans h0
  have g1 := (hold br 1 hbr).trans h1
  have g2 := (hold br 2 hbr).trans h2
  have n0 := hnew 0
  have n1 := hnew 1
  have n2 := hnew 2
  have l0 : w.heap.size < W.heap.size := by omega
  have l1 : br < W.heap.size := by omega
  have HW := Lib.hid hW
  clear h0 h1 h2 hnew hold hsz hW
  by_cases hd : o.base ≤ lastOf r
  · rw [decide_eq_true hd] at hd'
    go_enter Tryz.func54, Tryz.ntmps54
    go_wp2
    rw [← HW.out]
    (refine wp_region_lines (Below W.heap.size W) (by kernel_rfl) (by kernel_rfl) (Below.refl _ _).drew ?_)
    have hS := (Below.refl W.heap.size W).drew
    (try simp only [])
    repeat (first | (refine runL_no (by rfl) ?_; (try simp only [Act.put, List.setIfInBounds_toArray, List.set_cons_zero, List.set_cons_succ])) | (refine runL_val (v := ?_) (by rfl) ?_ ?_; rotate_left; (focus (intro w_ hw_; have hc_ := bcell hw_; go_simp; (try with_reducible rfl); done)); (try simp only [Act.put, List.setIfInBounds_toArray, List.set_cons_zero, List.set_cons_succ])) | (refine runL_call (f := ?_) (args := ?_) (w1 := ?_) (by rfl) (by rfl) ?_ ?_; rotate_left 3; (focus (go_simp; refine ⟨⟨?_, ?_⟩, ?_⟩ <;> with_reducible rfl)); refine (last_any _ _ _ _).mono ?_; rintro e w1 ⟨rfl, hb1⟩; replace hS := hS.trans (hb1.mono hS.size); refine ⟨_, rfl, .inr hS, ?_⟩; clear hb1; (try simp only [Act.put, List.setIfInBounds_toArray, List.set_cons_zero, List.set_cons_succ])))
    (refine runL_nil ?_)
    go_wp2
    go_ret
    exact ⟨ret_bool (by rw [HM.out]; simp [hd]), hbw.trans (hS.mono hbw.size)⟩
  · rw [decide_eq_false hd] at hd'
    go_enter Tryz.func54, Tryz.ntmps54
    go_wp2
    rw [← HW.out]
    (refine wp_region_lines (Below W.heap.size W) (by kernel_rfl) (by kernel_rfl) (Below.refl _ _).drew ?_)
    have hS := (Below.refl W.heap.size W).drew
    (try simp only [])
    repeat (first | (refine runL_no (by rfl) ?_; (try simp only [Act.put, List.setIfInBounds_toArray, List.set_cons_zero, List.set_cons_succ])) | (refine runL_val (v := ?_) (by rfl) ?_ ?_; rotate_left; (focus (intro w_ hw_; have hc_ := bcell hw_; go_simp; (try with_reducible rfl); done)); (try simp only [Act.put, List.setIfInBounds_toArray, List.set_cons_zero, List.set_cons_succ])) | (refine runL_call (f := ?_) (args := ?_) (w1 := ?_) (by rfl) (by rfl) ?_ ?_; rotate_left 3; (focus (go_simp; refine ⟨⟨?_, ?_⟩, ?_⟩ <;> with_reducible rfl)); refine (last_any _ _ _ _).mono ?_; rintro e w1 ⟨rfl, hb1⟩; replace hS := hS.trans (hb1.mono hS.size); refine ⟨_, rfl, .inr hS, ?_⟩; clear hb1; (try simp only [Act.put, List.setIfInBounds_toArray, List.set_cons_zero, List.set_cons_succ])))
    (refine runL_nil ?_)
    go_wp2
    go_ret
    exact ⟨ret_bool (by rw [HM.out]; simp [hd]), hbw.trans (hS.mono hbw.size)⟩

/-- Region number k can not be. -/
def chkBad (l : List Reg) (k : Nat) : Bool := match l[k]? with
  | some r => r.bytes.isEmpty || decide (lastOf r < r.base) || (l.take k).any fun o => meets o r
  | none => false
/-- memory.Check. -/
def checkF (l : List Reg) : Int := if 8 < l.length ∨ (l.any fun r => decide (1048576 < r.bytes.length)) = true then 3 else if (List.range l.length).any (chkBad l) = true then 2 else 0

theorem checkF_long {l : List Reg} (h : 8 < l.length ∨ (l.any fun r => decide (1048576 < r.bytes.length)) = true) : checkF l = 3 := by rw [checkF, if_pos h]
theorem checkF_bad {l : List Reg} (h : ¬ (8 < l.length ∨ (l.any fun r => decide (1048576 < r.bytes.length)) = true)) {k : Nat} (hk : k < l.length) (hb : chkBad l k = true) : checkF l = 2 := by
  rw [checkF, if_neg h, if_pos (List.any_eq_true.2 ⟨k, by simpa using hk, hb⟩)]
theorem checkF_ok {l : List Reg} (h : ¬ (8 < l.length ∨ (l.any fun r => decide (1048576 < r.bytes.length)) = true)) (hb : ∀ k < l.length, chkBad l k = false) : checkF l = 0 := by
  rw [checkF, if_neg h, if_neg]
  intro he
  obtain ⟨k, hk, h1⟩ := List.any_eq_true.1 he
  rw [hb k (by simpa using hk)] at h1
  cases h1

set_option maxRecDepth 100000 in
set_option maxHeartbeats 800000 in
theorem Check_any (v : Value) (w : World) (F : Nat → Prop) (l : List Reg) (hn : l.length ≤ 9223372036854775807) (hl : RegsAt w F v l) (hF : ∀ k, F k → k < w.heap.size) :
    Calls Tryz.prog 34 #[v] w fun e w' => e = .returned (.int .i64 (checkF l)) ∧ Below w.heap.size w w' := by
  obtain ⟨A, c, rfl, hc⟩ := hl.form
  have HC := Lib.hid (ContainsFunc_any A l.length c 52 #[] w F l (fun r => decide (1048576 < r.bytes.length)) hn (fun _ _ => rfl) hl hF
    fun r _ wr _ A c _ => Check1_any r wr A c)
  have HL := Lib.hid hl; clear hl
  have HF := Lib.hid hF; clear hF
  have HLN := Lib.hid hc; clear hc
  generalize hln : l.length = n at *
  have HN := Lib.hid hln; clear hln
  by_cases h8 : 8 < n
  · go_enter Tryz.func34, Tryz.ntmps34
    go_wp2
    go_ret
    exact ⟨ret_int (checkF_long (.inl (by have := HN.out; omega))).symm, Below.refl _ _⟩
  · cases hany : l.any (fun r => decide (1048576 < r.bytes.length))
    · rw [hany] at HC
      have HLONG : Hid (¬ (8 < l.length ∨ (l.any fun r => decide (1048576 < r.bytes.length)) = true)) := by rw [hany, HN.out]; show ¬ _; simpa using h8
      have h8' : decide ((8 : Int) < (n : Int)) = false := by simp; omega
      go_enter Tryz.func34, Tryz.ntmps34
      go_wp2_with ((with_reducible refine (HC.out).mono ?_); rintro e w1 ⟨rfl, hb1⟩)
      go_loopw [14] (fun i wr => ∃ k : Nat, k ≤ n ∧ i = .int .i64 k ∧ Below w.heap.size w wr ∧ ∀ j < k, chkBad l j = false) (fun i _ => n - (intOf i).toNat)
      case atStart => exact ⟨0, by omega, rfl, hb1, fun j hj => absurd hj (by omega)⟩
      case round =>
        obtain ⟨k, hk, rfl, hbl, hall⟩ := hrel
        have HALL := Lib.hid hall; clear hall
        by_cases hlt : k < n
        · obtain ⟨r, hr⟩ : ∃ r, l[k]? = some r := ⟨_, List.getElem?_eq_getElem (by have := HN.out; omega)⟩
          obtain ⟨b, off, A', c', rfl, hFb, h0, h1, h2, hby, hb64, hlen⟩ := HL.out.at_ hr
          have hb := HF.out b hFb
          have g0 := (hbl.cell (p := ⟨b, off + k * 3, none⟩) hb).trans h0
          have g1 := (hbl.cell (p := ⟨b, off + k * 3 + 1, none⟩) hb).trans h1
          have g2 := (hbl.cell (p := ⟨b, off + k * 3 + 2, none⟩) hb).trans h2
          have HR := Lib.hid hr
          clear h0 h1 h2 hby hr
          obtain ⟨W, hW, hbw, hsz, hnew, hold⟩ := boxed wr #[.int .u64 r.base, .slice A' r.bytes.length c', .bool r.write] 38
          have n0 := hnew 0
          have n1 := hnew 1
          have n2 := hnew 2
          have m0 : wr.heap.size < W.heap.size := by omega
          have HW := Lib.hid hW
          have hbl2 := hbl.trans (hbw.mono hbl.size)
          clear hnew hold hsz hW
          have bad : ∀ v : Bool, v = (r.bytes.isEmpty || decide (lastOf r < r.base) || (l.take k).any fun o => meets o r) → chkBad l k = v := fun v hv => by rw [hv]; unfold chkBad; rw [HR.out]
          have HBAD := Lib.hid bad; clear bad
          have hemp : ∀ b, decide (r.bytes.length = 0) = b → (((r.bytes.length : Int)) == 0) = b := fun b h => by rw [← h, Bool.eq_iff_iff]; simp
          by_cases he : r.bytes.length = 0
          · have he' := hemp true (by simpa using he)
            clear hemp
            have hq : r.bytes.isEmpty = true := by simpa using List.eq_nil_of_length_eq_zero he
            have HB2 := Lib.hid (HBAD.out true (by rw [hq]; rfl)); clear HBAD hq
            have HE := Lib.hid he; clear he
            go_wp2
            rw [← HW.out]
            (refine wp_region_lines (Below W.heap.size W) (by kernel_rfl) (by kernel_rfl) (Below.refl _ _).drew ?_)
            have hS := (Below.refl W.heap.size W).drew
            (try simp only [])
            repeat (first | (refine runL_no (by rfl) ?_; (try simp only [Act.put, List.setIfInBounds_toArray, List.set_cons_zero, List.set_cons_succ])) | (refine runL_val (v := ?_) (by rfl) ?_ ?_; rotate_left; (focus (intro w_ hw_; have hc_ := bcell hw_; go_simp; (try with_reducible rfl); done)); (try simp only [Act.put, List.setIfInBounds_toArray, List.set_cons_zero, List.set_cons_succ])) | (refine runL_call (f := ?_) (args := ?_) (w1 := ?_) (by rfl) (by rfl) ?_ ?_; rotate_left 3; (focus (go_simp; refine ⟨⟨?_, ?_⟩, ?_⟩ <;> with_reducible rfl)); refine (last_any _ _ _ _).mono ?_; rintro e w1 ⟨rfl, hb1⟩; replace hS := hS.trans (hb1.mono hS.size); refine ⟨_, rfl, .inr hS, ?_⟩; clear hb1; (try simp only [Act.put, List.setIfInBounds_toArray, List.set_cons_zero, List.set_cons_succ])))
            (refine runL_nil ?_)
            go_wp2
            go_ret
            exact ⟨ret_int (checkF_bad HLONG.out (by have := HN.out; omega) HB2.out).symm, hbl2.trans (hS.mono hbl2.size)⟩
          · have he' := hemp false (by simpa using he)
            clear hemp
            have hq : r.bytes.isEmpty = false := by
              cases hx : r.bytes with
              | nil => rw [hx] at he; exact absurd rfl he
              | cons => rfl
            rw [hq] at HBAD
            clear hq
            have HE := Lib.hid he; clear he
            by_cases hlo : lastOf r < r.base
            · have hlo' : decide (lastOf r < r.base) = true := by simpa using hlo
              have HB2 := Lib.hid (HBAD.out true (by simp [hlo])); clear HBAD
              go_wp2
              rw [← HW.out]
              (refine wp_region_lines (Below W.heap.size W) (by kernel_rfl) (by kernel_rfl) (Below.refl _ _).drew ?_)
              have hS := (Below.refl W.heap.size W).drew
              (try simp only [])
              repeat (first | (refine runL_no (by rfl) ?_; (try simp only [Act.put, List.setIfInBounds_toArray, List.set_cons_zero, List.set_cons_succ])) | (refine runL_val (v := ?_) (by rfl) ?_ ?_; rotate_left; (focus (intro w_ hw_; have hc_ := bcell hw_; go_simp; (try with_reducible rfl); done)); (try simp only [Act.put, List.setIfInBounds_toArray, List.set_cons_zero, List.set_cons_succ])) | (refine runL_call (f := ?_) (args := ?_) (w1 := ?_) (by rfl) (by rfl) ?_ ?_; rotate_left 3; (focus (go_simp; refine ⟨⟨?_, ?_⟩, ?_⟩ <;> with_reducible rfl)); refine (last_any _ _ _ _).mono ?_; rintro e w1 ⟨rfl, hb1⟩; replace hS := hS.trans (hb1.mono hS.size); refine ⟨_, rfl, .inr hS, ?_⟩; clear hb1; (try simp only [Act.put, List.setIfInBounds_toArray, List.set_cons_zero, List.set_cons_succ])))
              (refine runL_nil ?_)
              go_wp2
              go_ret
              exact ⟨ret_int (checkF_bad HLONG.out (by have := HN.out; omega) HB2.out).symm, hbl2.trans (hS.mono hbl2.size)⟩
            · have hlo' : decide (lastOf r < r.base) = false := by simpa using hlo
              have HLO := Lib.hid hlo; clear hlo
              go_wp2
              rw [← HW.out]
              (refine wp_region_lines (Below W.heap.size W) (by kernel_rfl) (by kernel_rfl) (Below.refl _ _).drew ?_)
              have hS := (Below.refl W.heap.size W).drew
              (try simp only [])
              repeat (first | (refine runL_no (by rfl) ?_; (try simp only [Act.put, List.setIfInBounds_toArray, List.set_cons_zero, List.set_cons_succ])) | (refine runL_val (v := ?_) (by rfl) ?_ ?_; rotate_left; (focus (intro w_ hw_; have hc_ := bcell hw_; go_simp; (try with_reducible rfl); done)); (try simp only [Act.put, List.setIfInBounds_toArray, List.set_cons_zero, List.set_cons_succ])) | (refine runL_call (f := ?_) (args := ?_) (w1 := ?_) (by rfl) (by rfl) ?_ ?_; rotate_left 3; (focus (go_simp; refine ⟨⟨?_, ?_⟩, ?_⟩ <;> with_reducible rfl)); refine (last_any _ _ _ _).mono ?_; rintro e w1 ⟨rfl, hb1⟩; replace hS := hS.trans (hb1.mono hS.size); refine ⟨_, rfl, .inr hS, ?_⟩; clear hb1; (try simp only [Act.put, List.setIfInBounds_toArray, List.set_cons_zero, List.set_cons_succ])))
              (refine runL_nil ?_)
              have hb3 := hbl2.trans (hS.mono hbl2.size)
              have hkn : (k : Int) ≤ n := by omega
              have hnc := HLN.out
              have hlA : wr.heap.size < w1.heap.size := by have := hS.size; omega
              have c0 : ∀ wr', Below w1.heap.size w1 wr' → ∀ i u, W.cell? ⟨wr.heap.size, i, none⟩ = some u → wr'.cell? ⟨wr.heap.size, i, none⟩ = some u := fun wr' hb' i u hu =>
                (hb'.cell (p := ⟨wr.heap.size, i, none⟩) hlA).trans ((hS.cell (p := ⟨wr.heap.size, i, none⟩) m0).trans hu)
              have HCC := Lib.hid (ContainsFunc_any (some ⟨b, off, none⟩) k c 54 #[.pointer (some ⟨wr.heap.size, 0, none⟩)] w1 F (l.take k) (fun o => meets o r) (by omega) (fun _ _ => rfl)
                ((HL.out.take hk).below hb3 HF.out) (fun q hq => by have := HF.out q hq; have := hb3.size; omega)
                fun o _ wr' hb' A c _ => Check2_any o r wr' A A' c c' wr.heap.size (by have := hb'.size; omega) (c0 wr' hb' 0 _ n0) (c0 wr' hb' 1 _ n1) (c0 wr' hb' 2 _ n2))
              clear c0 hlA
              cases hm : (l.take k).any fun o => meets o r
              · rw [hm] at HCC
                have HB2 := Lib.hid (HBAD.out false (by simp [hm, HLO.out])); clear HBAD hm
                go_wp2_with ((with_reducible refine (HCC.out).mono ?_); rintro e w2 ⟨rfl, hb2⟩)
                go_roundw
                case rel => exact ⟨k + 1, by omega, by go_num, hb3.trans (hb2.mono hb3.size), fun j hj => by
                  rcases Nat.lt_or_ge j k with h | h
                  · exact HALL.out j h
                  · rw [show j = k from by omega]; exact HB2.out⟩
                case measure => simp [intOf]; omega
              · rw [hm] at HCC
                have HB2 := Lib.hid (HBAD.out true (by simp [hm])); clear HBAD hm
                go_wp2_with ((with_reducible refine (HCC.out).mono ?_); rintro e w2 ⟨rfl, hb2⟩)
                go_ret
                exact ⟨ret_int (checkF_bad HLONG.out (by have := HN.out; omega) HB2.out).symm, hb3.trans (hb2.mono hb3.size)⟩
        · go_wp2
          go_ret
          exact ⟨ret_int (checkF_ok HLONG.out (by have := HN.out; have := HALL.out; intro j hj; exact this j (by omega))).symm, hbl⟩
    · rw [hany] at HC
      go_enter Tryz.func34, Tryz.ntmps34
      go_wp2_with ((with_reducible refine (HC.out).mono ?_); rintro e w1 ⟨rfl, hb1⟩)
      go_ret
      exact ⟨ret_int (checkF_long (.inr hany)).symm, hb1⟩
end Go.Proofs.YtmanhikpccnfaaaGreat
