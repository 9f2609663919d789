/- keysmithref04.Check: as memory.Check. -/
import Derived.Test.YtcciaihghhleoaaChk
import Derived.Deep.DeepCutAuto
import Derived.Deep.LoopGhost
namespace Go.Proofs.Ytcciaihghhleoaa
open Go.RowKit

theorem lastOf_wrap2 (r : Reg) (h : r.bytes.length ≤ 1048576) : IntKind.u64.wrap (IntKind.u64.wrap ((r.base : Int) + (r.bytes.length : Int)) - 1) = (lastOf r : Int) := by
  have := lastOf_wrap r
  rw [show IntKind.u64.wrap (r.bytes.length : Int) = (r.bytes.length : Int) from IntWalk.u64_in _ (by omega)] at this
  exact this

theorem any_long {l : List Reg} {k : Nat} {r : Reg} (hr : l[k]? = some r) (h : 1048576 < r.bytes.length) : (l.any fun r => decide (1048576 < r.bytes.length)) = true :=
  List.any_eq_true.2 ⟨r, List.mem_of_getElem? hr, by simpa using h⟩
theorem none_long {l : List Reg} (h : ∀ (j : Nat) (r : Reg), l[j]? = some r → r.bytes.length ≤ 1048576) : (l.any fun r => decide (1048576 < r.bytes.length)) = false := by
  rw [List.any_eq_false]
  intro r hr
  obtain ⟨j, hj⟩ := List.mem_iff_getElem?.1 hr
  have := h j r hj
  simp; omega
theorem any_take {l : List Reg} {k : Nat} {f : Reg → Bool} : ((l.take k).any f = true) ↔ ∃ (j : Nat) (o : Reg), j < k ∧ l[j]? = some o ∧ f o = true := by
  rw [List.any_eq_true]
  constructor
  · rintro ⟨o, ho, hf⟩
    obtain ⟨j, hj⟩ := List.mem_iff_getElem?.1 ho
    rw [List.getElem?_take] at hj
    split at hj
    · exact ⟨j, o, ‹_›, hj, hf⟩
    · cases hj
  · rintro ⟨j, o, hj, ho, hf⟩
    exact ⟨o, List.mem_of_getElem? (by rw [List.getElem?_take, if_pos hj]; exact ho), hf⟩

set_option maxRecDepth 100000 in
set_option maxHeartbeats 1600000 in
theorem RefCheck_any (v : Value) (w : World) (F : Nat → Prop) (l : List Reg) (hn : l.length ≤ 9223372036854775807) (hl : RegsAt w F v l) (hF : ∀ k, F k → k < w.heap.size) :
    Calls Try.prog 23 #[v] w fun e w' => e = .returned (.int .i64 (checkF l)) ∧ Below w.heap.size w w' := by
  obtain ⟨A, c, rfl, hc⟩ := hl.form
  have HL := Lib.hid hl
  have HF := Lib.hid hF
  clear hl hF
  generalize hln : l.length = n at *
  have HN := Lib.hid hln
  clear hln
  by_cases h8 : 8 < n
  · go_enter Try.func23, Try.ntmps23
    go_wp2
    go_ret
    exact ⟨ret_int (checkF_long (.inl (by have := HN.out; omega))).symm, Below.refl _ _⟩
  · have h8' : decide ((8 : Int) < (n : Int)) = false := by simp; omega
    go_enter Try.func23, Try.ntmps23
    go_wp2
    go_loopg [3] n (fun g i wx => ∃ k : Nat, k ≤ n ∧ g = n - k ∧ i = .int .i64 k ∧ w = wx ∧ ∀ (j : Nat) (r : Reg), j < k → l[j]? = some r → r.bytes.length ≤ 1048576)
    case atStart => exact ⟨0, by omega, rfl, rfl, rfl, fun j r hj => absurd hj (by omega)⟩
    case round =>
      obtain ⟨k, hk, hg, rfl, rfl, hall⟩ := hrel
      have hg1 := Nat.le_of_eq hg
      have hg2 := Nat.le_of_eq hg.symm
      have HALL := Lib.hid hall
      clear hall hg
      by_cases hlt : k < n
      · obtain ⟨r, hr⟩ : ∃ r, l[k]? = some r := ⟨_, List.getElem?_eq_getElem (by have := HN.out; omega)⟩
        obtain ⟨b, off, A', c', rfl, hFb, h0, h1, h2, hby, hb64, hlen⟩ := HL.out.at_ hr
        have hb := HF.out b hFb
        have i0 : (0 : Int) ≤ (k : Int) := by omega
        have i1 : (k : Int) < (n : Int) := by omega
        have HR := Lib.hid hr
        clear hr hby h0 h2 hb64
        by_cases hm : 1048576 < r.bytes.length
        · have hm' : (1048576 : Int) < (r.bytes.length : Int) := by omega
          have HH := Lib.hid hm
          clear hm
          go_wp2
          go_ret
          exact ⟨ret_int (checkF_long (.inr (any_long HR.out HH.out))).symm, Below.refl _ _⟩
        · have hm' : (r.bytes.length : Int) ≤ (1048576 : Int) := by omega
          have HH := Lib.hid hm
          clear hm
          go_wp2
          go_roundg (n - (k + 1))
          case measure => omega
          case rel =>
            refine ⟨k + 1, by omega, rfl, by go_num, rfl, fun j r' hj hr' => ?_⟩
            rcases Nat.lt_or_ge j k with h | h
            · exact HALL.out j r' h hr'
            · obtain rfl : j = k := by omega
              have h1 := HR.out
              rw [h1] at hr'
              cases hr'
              have := HH.out; omega
      · obtain rfl : n = k := by omega
        have hlong : ¬ (8 < l.length ∨ (l.any fun r => decide (1048576 < r.bytes.length)) = true) := by
          rw [none_long (fun j r hr => HALL.out j r (by have := (List.getElem?_eq_some_iff.1 hr).1; have := HN.out; omega) hr), HN.out]
          simp; omega
        have HLONG := Lib.hid hlong
        clear hlong hg1 hg2
        go_wp2
        go_loopg [4] n (fun g i wx => ∃ k : Nat, k ≤ n ∧ g = n - k ∧ i = .int .i64 k ∧ Below w.heap.size w wx ∧ ∀ j < k, chkBad l j = false)
        case atStart => exact ⟨0, by omega, rfl, rfl, Below.refl _ _, fun j hj => absurd hj (by omega)⟩
        case round =>
          obtain ⟨k, hk, hg, rfl, hbl, hok⟩ := hrel
          have hg1 := Nat.le_of_eq hg
          have hg2 := Nat.le_of_eq hg.symm
          have HOK := Lib.hid hok
          have HBL := Lib.hid hbl
          clear hok hg hbl
          by_cases hlt : k < n
          · obtain ⟨r, hr⟩ : ∃ r, l[k]? = some r := ⟨_, List.getElem?_eq_getElem (by have := HN.out; omega)⟩
            have hm := HALL.out k r hlt hr
            obtain ⟨b, off, A', c', rfl, hFb, h0, h1, h2, hby, hb64, _⟩ := (HL.out.below HBL.out HF.out).at_ hr
            have hb := Nat.lt_of_lt_of_le (HF.out b hFb) HBL.out.size
            have i0 : (0 : Int) ≤ (k : Int) := by omega
            have i1 : (k : Int) < (n : Int) := by omega
            have HR := Lib.hid hr
            have bad : ∀ v : Bool, v = (r.bytes.isEmpty || decide (lastOf r < r.base) || (l.take k).any fun o => meets o r) → chkBad l k = v := fun v hv => by rw [hv]; unfold chkBad; rw [HR.out]
            have HBAD := Lib.hid bad
            clear hr hby h2 bad
            by_cases he : r.bytes.length = 0
            · have he' : ((r.bytes.length : Int) == 0) = true := by rw [beq_iff_eq]; omega
              have hq : r.bytes.isEmpty = true := by simpa using List.eq_nil_of_length_eq_zero he
              have HB2 := Lib.hid (HBAD.out true (by rw [hq]; rfl))
              clear he hq HBAD
              go_wp2
              go_ret
              exact ⟨ret_int (checkF_bad HLONG.out (by have := HN.out; omega) HB2.out).symm, HBL.out⟩
            · have he' : ((r.bytes.length : Int) == 0) = false := beq_eq_false_iff_ne.2 (by omega)
              have hq : r.bytes.isEmpty = false := by
                cases hx : r.bytes with
                | nil => rw [hx] at he; exact absurd rfl he
                | cons => rfl
              rw [hq] at HBAD
              clear hq he
              go_upto_region 13 with (fail)
              go_cut [5] (fun s wx => s = .int .u64 (lastOf r) ∧ Below wr.heap.size wr wx)
              case first =>
                (refine wp_region_lines (Below wr.heap.size wr) (by kernel_rfl) (by kernel_rfl) (Below.refl _ _).drew ?_)
                have hS := (Below.refl wr.heap.size wr).drew
                (try simp only [])
                repeat (first | (refine runL_no (by rfl) ?_; (try simp only [Act.put, List.setIfInBounds_toArray, List.set_cons_zero, List.set_cons_succ])) | (refine runL_val (v := ?_) (by rfl) ?_ ?_; rotate_left; (focus (intro w_ hw_; have hc_ := bcell hw_; go_simp; (try with_reducible rfl); done)); (try simp only [Act.put, List.setIfInBounds_toArray, List.set_cons_zero, List.set_cons_succ])))
                (refine runL_nil ?_)
                go_wp2
                go_meet
                exact ⟨by first | rw [lastOf_wrap r] | rw [lastOf_wrap2 r hm], hS⟩
              case rest =>
                obtain ⟨rfl, hb5⟩ := hcut
                have hbc := hb5.cell (p := ⟨b, off + k * 3, none⟩) hb
                rw [h0] at hbc
                have hbd := hb5.cell (p := ⟨b, off + k * 3 + 1, none⟩) hb
                rw [h1] at hbd
                clear h0 h1
                have HB5 := Lib.hid (HBL.out.trans (hb5.mono HBL.out.size))
                have hbx := Nat.lt_of_lt_of_le hb hb5.size
                by_cases hlo : lastOf r < r.base
                · have hlo' : decide (lastOf r < r.base) = true := by simpa using hlo
                  have HB2 := Lib.hid (HBAD.out true (by simp [hlo]))
                  clear HBAD hb5
                  go_wp2
                  go_ret
                  exact ⟨ret_int (checkF_bad HLONG.out (by have := HN.out; omega) HB2.out).symm, HB5.out⟩
                · have hlo' : decide (lastOf r < r.base) = false := by simpa using hlo
                  have HLO := Lib.hid hlo
                  clear hlo hb5
                  go_wp2
                  obtain ⟨wo, rfl⟩ : ∃ wo : World, wo = wc := ⟨_, rfl⟩
                  go_loopg [6] k (fun g i wx => ∃ j : Nat, j ≤ k ∧ g = k - j ∧ i = .int .i64 j ∧ Below w.heap.size w wx ∧ ∀ (q : Nat) (o : Reg), q < j → l[q]? = some o → meets o r = false)
                  case atStart => exact ⟨0, by omega, rfl, rfl, HB5.out, fun q o hq => absurd hq (by omega)⟩
                  case round =>
                    obtain ⟨j, hj, hg, rfl, hbl, hok⟩ := hrel
                    have hg3 := Nat.le_of_eq hg
                    have hg4 := Nat.le_of_eq hg.symm
                    have HOK3 := Lib.hid hok
                    have HBL3 := Lib.hid hbl
                    clear hok hg hbl hbc hbd
                    by_cases hjk : j < k
                    · obtain ⟨o, ho⟩ : ∃ o, l[j]? = some o := ⟨_, List.getElem?_eq_getElem (by have := HN.out; omega)⟩
                      have hmo := HALL.out j o (by omega) ho
                      obtain ⟨b2, off2, A2, c2, hA2, _, p0, p1, _, _, ho64, _⟩ := (HL.out.below HBL3.out HF.out).at_ ho
                      cases hA2
                      obtain ⟨b2, off2, A2, c2, hA2, _, q0, _, _, _, _, _⟩ := (HL.out.below HBL3.out HF.out).at_ HR.out
                      cases hA2
                      have hbr := Nat.lt_of_lt_of_le (HF.out b hFb) HBL3.out.size
                      have j0 : (0 : Int) ≤ (j : Int) := by omega
                      have j1 : (j : Int) < (n : Int) := by omega
                      have HO := Lib.hid ho
                      have e1 := lastOf_wrap o
                      have e2 := lastOf_wrap2 o hmo
                      clear ho
                      go_upto_region 19 with (fail)
                      go_cut [90] (fun s wx => s = .bool (meets o r) ∧ Below wr.heap.size wr wx)
                      case first =>
                        by_cases m1 : o.base ≤ lastOf r
                        · have m1' : decide (o.base ≤ lastOf r) = true := by simpa using m1
                          have m3 : meets o r = decide (r.base ≤ lastOf o) := by simp [meets, m1]
                          have M3 := Lib.hid m3
                          clear m3 m1
                          (refine wp_region_lines (Below wr.heap.size wr) (by kernel_rfl) (by kernel_rfl) (Below.refl _ _).drew ?_)
                          have hS := (Below.refl wr.heap.size wr).drew
                          (try simp only [])
                          repeat (first | (refine runL_no (by rfl) ?_; (try simp only [Act.put, List.setIfInBounds_toArray, List.set_cons_zero, List.set_cons_succ])) | (refine runL_val (v := ?_) (by rfl) ?_ ?_; rotate_left; (focus (intro w_ hw_; have hc_ := bcell hw_; go_simp; (try with_reducible rfl); done)); (try simp only [Act.put, List.setIfInBounds_toArray, List.set_cons_zero, List.set_cons_succ])))
                          (refine runL_nil ?_)
                          go_wp2
                          go_meet
                          exact ⟨by rw [M3.out], hS⟩
                        · have m1' : decide (o.base ≤ lastOf r) = false := by simpa using m1
                          have m3 : meets o r = false := by simp [meets, m1]
                          have M3 := Lib.hid m3
                          clear m3 m1
                          (refine wp_region_lines (Below wr.heap.size wr) (by kernel_rfl) (by kernel_rfl) (Below.refl _ _).drew ?_)
                          have hS := (Below.refl wr.heap.size wr).drew
                          (try simp only [])
                          repeat (first | (refine runL_no (by rfl) ?_; (try simp only [Act.put, List.setIfInBounds_toArray, List.set_cons_zero, List.set_cons_succ])) | (refine runL_val (v := ?_) (by rfl) ?_ ?_; rotate_left; (focus (intro w_ hw_; have hc_ := bcell hw_; go_simp; (try with_reducible rfl); done)); (try simp only [Act.put, List.setIfInBounds_toArray, List.set_cons_zero, List.set_cons_succ])))
                          (refine runL_nil ?_)
                          go_wp2
                          go_meet
                          exact ⟨by rw [M3.out], hS⟩
                      case rest =>
                        obtain ⟨rfl, hb6⟩ := hcut
                        have HB6 := Lib.hid (HBL3.out.trans (hb6.mono HBL3.out.size))
                        clear e1 e2 hb6 p0 p1 q0
                        cases hmm : meets o r
                        · have HMM := Lib.hid hmm
                          clear hmm
                          go_wp2
                          go_roundg (k - (j + 1))
                          case measure => omega
                          case rel =>
                            refine ⟨j + 1, by omega, rfl, by go_num, HB6.out, fun q o' hq ho' => ?_⟩
                            rcases Nat.lt_or_ge q j with h | h
                            · exact HOK3.out q o' h ho'
                            · obtain rfl : q = j := by omega
                              have h1 := HO.out
                              rw [h1] at ho'
                              cases ho'
                              exact HMM.out
                        · have hany : (l.take k).any (fun o => meets o r) = true := any_take.2 ⟨j, o, hjk, HO.out, hmm⟩
                          have HB2 := Lib.hid (HBAD.out true (by rw [hany]; simp))
                          clear hany hmm HBAD
                          go_wp2
                          go_ret
                          exact ⟨ret_int (checkF_bad HLONG.out (by have := HN.out; omega) HB2.out).symm, HB6.out⟩
                    · have hany : (l.take k).any (fun o => meets o r) = false := by
                        rw [Bool.eq_false_iff]
                        intro h
                        obtain ⟨q, o, hq, ho, hf⟩ := any_take.1 h
                        rw [HOK3.out q o (by omega) ho] at hf
                        cases hf
                      have HB2 := Lib.hid (HBAD.out false (by rw [hany]; simp [HLO.out]))
                      clear hany HBAD
                      go_wp2
                      go_roundg (n - (k + 1))
                      case measure => omega
                      case rel =>
                        refine ⟨k + 1, by omega, rfl, by go_num, HBL3.out, fun q hq => ?_⟩
                        rcases Nat.lt_or_ge q k with h | h
                        · exact HOK.out q h
                        · obtain rfl : q = k := by omega
                          exact HB2.out
          · obtain rfl : n = k := by omega
            go_wp2
            go_ret
            exact ⟨ret_int (checkF_ok HLONG.out (by have := HN.out; have := HOK.out; intro j hj; exact this j (by omega))).symm, HBL.out⟩
end Go.Proofs.Ytcciaihghhleoaa
