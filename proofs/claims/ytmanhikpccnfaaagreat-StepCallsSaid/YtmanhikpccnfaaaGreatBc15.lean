/- keysmithref04.Check: as memory.Check. -/
import Derived.Test.YtmanhikpccnfaaaGreatBc2
import Derived.Deep.DeepCutAuto
import Derived.Deep.LoopGhost
import Derived.Test.YtmanhikpccnfaaaGreatBc3
import Derived.Test.YtmanhikpccnfaaaGreatBc4
import Derived.Outline
namespace Go.Proofs.YtmanhikpccnfaaaGreat
open Go.RowKit

theorem lastOf_wrap2 (r : Reg) (h : r.bytes.length ≤ 1048576) : IntKind.u64.wrap (IntKind.u64.wrap ((r.base : Int) + (r.bytes.length : Int)) - 1) = (lastOf r : Int) := by
  have := lastOf_wrap r
  rw [show IntKind.u64.wrap (r.bytes.length : Int) = (r.bytes.length : Int) from IntWalk.u64_in _ (by omega)] at this
  exact this

theorem any_long {l : List Reg} {k : Nat} {r : Reg} (hr : l[k]? = some r) (h : 1048576 < r.bytes.length) : (l.any fun r => decide (1048576 < r.bytes.length)) = true :=
  List.any_eq_true.2 ⟨r, List.mem_of_getElem? hr, by simpa using h⟩
theorem none_long {l : List Reg} (h : ∀ (j : Nat) (r : Reg), l[j]? = some r → r.bytes.length ≤ 1048576) : (l.any fun r => decide (1048576 < r.bytes.length)) = false := by
  rw [List.any_eq_false]
  intro r hr
  obtain ⟨j, hj⟩ := List.mem_iff_getElem?.1 hr
  have := h j r hj
  simp; omega
theorem any_take {l : List Reg} {k : Nat} {f : Reg → Bool} : ((l.take k).any f = true) ↔ ∃ (j : Nat) (o : Reg), j < k ∧ l[j]? = some o ∧ f o = true := by
  rw [List.any_eq_true]
  constructor
  · rintro ⟨o, ho, hf⟩
    obtain ⟨j, hj⟩ := List.mem_iff_getElem?.1 ho
    rw [List.getElem?_take] at hj
    split at hj
    · exact ⟨j, o, ‹_›, hj, hf⟩
    · cases hj
  · rintro ⟨j, o, hj, ho, hf⟩
    exact ⟨o, List.mem_of_getElem? (by rw [List.getElem?_take, if_pos hj]; exact ho), hf⟩

set_option maxRecDepth 100000 in
set_option maxHeartbeats 1600000 in
theorem RefCheck_any (v : Value) (w : World) (F : Nat → Prop) (l : List Reg) (hn : l.length ≤ 9223372036854775807) (hl : RegsAt w F v l) (hF : ∀ k, F k → k < w.heap.size) :
    Calls Tryz.prog 41 #[v] w fun e w' => e = .returned (.int .i64 (checkF l)) ∧ Below w.heap.size w w' := by
  obtain ⟨A, c, rfl, hc⟩ := hl.form
  have HL := Lib.hid hl
  have HF := Lib.hid hF
  clear hl hF
  generalize hln : l.length = n at *
  have HN := Lib.hid hln
  clear hln
  by_cases h8 : 8 < n
  · go_enter Tryz.func41, Tryz.ntmps41
    go_wp2
    go_ret
    exact ⟨ret_int (checkF_long (.inl (by have := HN.out; omega))).symm, Below.refl _ _⟩
  · have h8' : decide ((8 : Int) < (n : Int)) = false := by simp; omega
    go_enter Tryz.func41, Tryz.ntmps41
    go_wp2
    go_loopg [3] n (fun g i wx => ∃ k : Nat, k ≤ n ∧ g = n - k ∧ i = .int .i64 k ∧ w = wx ∧ ∀ (j : Nat) (r : Reg), j < k → l[j]? = some r → r.bytes.length ≤ 1048576)
    case atStart => exact ⟨0, by omega, rfl, rfl, rfl, fun j r hj => absurd hj (by omega)⟩
    case round =>
      obtain ⟨k, hk, hg, rfl, rfl, hall⟩ := hrel
      have hg1 := Nat.le_of_eq hg
      have hg2 := Nat.le_of_eq hg.symm
      have HALL := Lib.hid hall
      clear hall hg
      by_cases hlt : k < n
      · obtain ⟨r, hr⟩ : ∃ r, l[k]? = some r := ⟨_, List.getElem?_eq_getElem (by have := HN.out; omega)⟩
        obtain ⟨b, off, A', c', rfl, hFb, h0, h1, h2, hby, hb64, hlen⟩ := HL.out.at_ hr
        have hb := HF.out b hFb
        have i0 : (0 : Int) ≤ (k : Int) := by omega
        have i1 : (k : Int) < (n : Int) := by omega
        have HR := Lib.hid hr
        clear hr hby h0 h2 hb64
        by_cases hm : 1048576 < r.bytes.length
        · have hm' : (1048576 : Int) < (r.bytes.length : Int) := by omega
          have HH := Lib.hid hm
          clear hm
          go_wp2
          go_ret
          exact ⟨ret_int (checkF_long (.inr (any_long HR.out HH.out))).symm, Below.refl _ _⟩
        · have hm' : (r.bytes.length : Int) ≤ (1048576 : Int) := by omega
          have HH := Lib.hid hm
          clear hm
          go_wp2
          go_roundg (n - (k + 1))
          case measure => omega
          case rel =>
            refine ⟨k + 1, by omega, rfl, by go_num, rfl, fun j r' hj hr' => ?_⟩
            rcases Nat.lt_or_ge j k with h | h
            · exact HALL.out j r' h hr'
            · obtain rfl : j = k := by omega
              have h1 := HR.out
              rw [h1] at hr'
              cases hr'
              have := HH.out; omega
      · obtain rfl : n = k := by omega
        have hlong : ¬ (8 < l.length ∨ (l.any fun r => decide (1048576 < r.bytes.length)) = true) := by
          rw [none_long (fun j r hr => HALL.out j r (by have := (List.getElem?_eq_some_iff.1 hr).1; have := HN.out; omega) hr), HN.out]
          simp; omega
        have HLONG := Lib.hid hlong
        clear hlong hg1 hg2
        go_wp2
        go_loopg [4] n (fun g i wx => ∃ k : Nat, k ≤ n ∧ g = n - k ∧ i = .int .i64 k ∧ Below w.heap.size w wx ∧ ∀ j < k, chkBad l j = false)
        case atStart => exact ⟨0, by omega, rfl, rfl, Below.refl _ _, fun j hj => absurd hj (by omega)⟩
        case round =>
          obtain ⟨k, hk, hg, rfl, hbl, hok⟩ := hrel
          have hg1 := Nat.le_of_eq hg
          have hg2 := Nat.le_of_eq hg.symm
          have HOK := Lib.hid hok
          have HBL := Lib.hid hbl
          clear hok hg hbl
          by_cases hlt : k < n
          · obtain ⟨r, hr⟩ : ∃ r, l[k]? = some r := ⟨_, List.getElem?_eq_getElem (by have := HN.out; omega)⟩
            have hm := HALL.out k r hlt hr
            obtain ⟨b, off, A', c', rfl, hFb, h0, h1, h2, hby, hb64, _⟩ := (HL.out.below HBL.out HF.out).at_ hr
            have hb := Nat.lt_of_lt_of_le (HF.out b hFb) HBL.out.size
            have i0 : (0 : Int) ≤ (k : Int) := by omega
            have i1 : (k : Int) < (n : Int) := by omega
            have HR := Lib.hid hr
            have bad : ∀ v : Bool, v = (r.bytes.isEmpty || decide (lastOf r < r.base) || (l.take k).any fun o => meets o r) → chkBad l k = v := fun v hv => by rw [hv]; unfold chkBad; rw [HR.out]
            have HBAD := Lib.hid bad
            clear hr hby h2 bad
            by_cases he : r.bytes.length = 0
            · have he' : ((r.bytes.length : Int) == 0) = true := by rw [beq_iff_eq]; omega
              have hq : r.bytes.isEmpty = true := by simpa using List.eq_nil_of_length_eq_zero he
              have HB2 := Lib.hid (HBAD.out true (by rw [hq]; rfl))
              clear he hq HBAD
              go_wp2
              go_ret
              exact ⟨ret_int (checkF_bad HLONG.out (by have := HN.out; omega) HB2.out).symm, HBL.out⟩
            · have he' : ((r.bytes.length : Int) == 0) = false := beq_eq_false_iff_ne.2 (by omega)
              have hq : r.bytes.isEmpty = false := by
                cases hx : r.bytes with
                | nil => rw [hx] at he; exact absurd rfl he
                | cons => rfl
              rw [hq] at HBAD
              clear hq he
              go_upto_region 13 with (fail)
              go_cut [5] (fun s wx => s = .int .u64 (lastOf r) ∧ Below wr.heap.size wr wx)
              case first =>
                (refine wp_region_lines (Below wr.heap.size wr) (by kernel_rfl) (by kernel_rfl) (Below.refl _ _).drew ?_)
                have hS := (Below.refl wr.heap.size wr).drew
                (try simp only [])
                repeat (first | (refine runL_no (by rfl) ?_; (try simp only [Act.put, List.setIfInBounds_toArray, List.set_cons_zero, List.set_cons_succ])) | (refine runL_val (v := ?_) (by rfl) ?_ ?_; rotate_left; (focus (intro w_ hw_; have hc_ := bcell hw_; go_simp; (try with_reducible rfl); done)); (try simp only [Act.put, List.setIfInBounds_toArray, List.set_cons_zero, List.set_cons_succ])))
                (refine runL_nil ?_)
                go_wp2
                go_meet
                exact ⟨by first | rw [lastOf_wrap r] | rw [lastOf_wrap2 r hm], hS⟩
              case rest =>
                obtain ⟨rfl, hb5⟩ := hcut
                have hbc := hb5.cell (p := ⟨b, off + k * 3, none⟩) hb
                rw [h0] at hbc
                have hbd := hb5.cell (p := ⟨b, off + k * 3 + 1, none⟩) hb
                rw [h1] at hbd
                clear h0 h1
                have HB5 := Lib.hid (HBL.out.trans (hb5.mono HBL.out.size))
                have hbx := Nat.lt_of_lt_of_le hb hb5.size
                by_cases hlo : lastOf r < r.base
                · have hlo' : decide (lastOf r < r.base) = true := by simpa using hlo
                  have HB2 := Lib.hid (HBAD.out true (by simp [hlo]))
                  clear HBAD hb5
                  go_wp2
                  go_ret
                  exact ⟨ret_int (checkF_bad HLONG.out (by have := HN.out; omega) HB2.out).symm, HB5.out⟩
                · have hlo' : decide (lastOf r < r.base) = false := by simpa using hlo
                  have HLO := Lib.hid hlo
                  clear hlo hb5
                  go_wp2
                  obtain ⟨wo, rfl⟩ : ∃ wo : World, wo = wc := ⟨_, rfl⟩
                  go_loopg [6] k (fun g i wx => ∃ j : Nat, j ≤ k ∧ g = k - j ∧ i = .int .i64 j ∧ Below w.heap.size w wx ∧ ∀ (q : Nat) (o : Reg), q < j → l[q]? = some o → meets o r = false)
                  case atStart => exact ⟨0, by omega, rfl, rfl, HB5.out, fun q o hq => absurd hq (by omega)⟩
                  case round =>
                    obtain ⟨j, hj, hg, rfl, hbl, hok⟩ := hrel
                    have hg3 := Nat.le_of_eq hg
                    have hg4 := Nat.le_of_eq hg.symm
                    have HOK3 := Lib.hid hok
                    have HBL3 := Lib.hid hbl
                    clear hok hg hbl hbc hbd
                    by_cases hjk : j < k
                    · obtain ⟨o, ho⟩ : ∃ o, l[j]? = some o := ⟨_, List.getElem?_eq_getElem (by have := HN.out; omega)⟩
                      have hmo := HALL.out j o (by omega) ho
                      obtain ⟨b2, off2, A2, c2, hA2, _, p0, p1, _, _, ho64, _⟩ := (HL.out.below HBL3.out HF.out).at_ ho
                      cases hA2
                      obtain ⟨b2, off2, A2, c2, hA2, _, q0, _, _, _, _, _⟩ := (HL.out.below HBL3.out HF.out).at_ HR.out
                      cases hA2
                      have hbr := Nat.lt_of_lt_of_le (HF.out b hFb) HBL3.out.size
                      have j0 : (0 : Int) ≤ (j : Int) := by omega
                      have j1 : (j : Int) < (n : Int) := by omega
                      have HO := Lib.hid ho
                      have e1 := lastOf_wrap o
                      have e2 := lastOf_wrap2 o hmo
                      clear ho
                      go_upto_region 19 with (fail)
                      go_cut [90] (fun s wx => s = .bool (meets o r) ∧ Below wr.heap.size wr wx)
                      case first =>
                        by_cases m1 : o.base ≤ lastOf r
                        · have m1' : decide (o.base ≤ lastOf r) = true := by simpa using m1
                          have m3 : meets o r = decide (r.base ≤ lastOf o) := by simp [meets, m1]
                          have M3 := Lib.hid m3
                          clear m3 m1
                          (refine wp_region_lines (Below wr.heap.size wr) (by kernel_rfl) (by kernel_rfl) (Below.refl _ _).drew ?_)
                          have hS := (Below.refl wr.heap.size wr).drew
                          (try simp only [])
                          repeat (first | (refine runL_no (by rfl) ?_; (try simp only [Act.put, List.setIfInBounds_toArray, List.set_cons_zero, List.set_cons_succ])) | (refine runL_val (v := ?_) (by rfl) ?_ ?_; rotate_left; (focus (intro w_ hw_; have hc_ := bcell hw_; go_simp; (try with_reducible rfl); done)); (try simp only [Act.put, List.setIfInBounds_toArray, List.set_cons_zero, List.set_cons_succ])))
                          (refine runL_nil ?_)
                          go_wp2
                          go_meet
                          exact ⟨by rw [M3.out], hS⟩
                        · have m1' : decide (o.base ≤ lastOf r) = false := by simpa using m1
                          have m3 : meets o r = false := by simp [meets, m1]
                          have M3 := Lib.hid m3
                          clear m3 m1
                          (refine wp_region_lines (Below wr.heap.size wr) (by kernel_rfl) (by kernel_rfl) (Below.refl _ _).drew ?_)
                          have hS := (Below.refl wr.heap.size wr).drew
                          (try simp only [])
                          repeat (first | (refine runL_no (by rfl) ?_; (try simp only [Act.put, List.setIfInBounds_toArray, List.set_cons_zero, List.set_cons_succ])) | (refine runL_val (v := ?_) (by rfl) ?_ ?_; rotate_left; (focus (intro w_ hw_; have hc_ := bcell hw_; go_simp; (try with_reducible rfl); done)); (try simp only [Act.put, List.setIfInBounds_toArray, List.set_cons_zero, List.set_cons_succ])))
                          (refine runL_nil ?_)
                          go_wp2
                          go_meet
                          exact ⟨by rw [M3.out], hS⟩
                      case rest =>
                        obtain ⟨rfl, hb6⟩ := hcut
                        have HB6 := Lib.hid (HBL3.out.trans (hb6.mono HBL3.out.size))
                        clear e1 e2 hb6 p0 p1 q0
                        cases hmm : meets o r
                        · have HMM := Lib.hid hmm
                          clear hmm
                          go_wp2
                          go_roundg (k - (j + 1))
                          case measure => omega
                          case rel =>
                            refine ⟨j + 1, by omega, rfl, by go_num, HB6.out, fun q o' hq ho' => ?_⟩
                            rcases Nat.lt_or_ge q j with h | h
                            · exact HOK3.out q o' h ho'
                            · obtain rfl : q = j := by omega
                              have h1 := HO.out
                              rw [h1] at ho'
                              cases ho'
                              exact HMM.out
                        · have hany : (l.take k).any (fun o => meets o r) = true := any_take.2 ⟨j, o, hjk, HO.out, hmm⟩
                          have HB2 := Lib.hid (HBAD.out true (by rw [hany]; simp))
                          clear hany hmm HBAD
                          go_wp2
                          go_ret
                          exact ⟨ret_int (checkF_bad HLONG.out (by have := HN.out; omega) HB2.out).symm, HB6.out⟩
                    · have hany : (l.take k).any (fun o => meets o r) = false := by
                        rw [Bool.eq_false_iff]
                        intro h
                        obtain ⟨q, o, hq, ho, hf⟩ := any_take.1 h
                        rw [HOK3.out q o (by omega) ho] at hf
                        cases hf
                      have HB2 := Lib.hid (HBAD.out false (by rw [hany]; simp [HLO.out]))
                      clear hany HBAD
                      go_wp2
                      go_roundg (n - (k + 1))
                      case measure => omega
                      case rel =>
                        refine ⟨k + 1, by omega, rfl, by go_num, HBL3.out, fun q hq => ?_⟩
                        rcases Nat.lt_or_ge q k with h | h
                        · exact HOK.out q h
                        · obtain rfl : q = k := by omega
                          exact HB2.out
          · obtain rfl : n = k := by omega
            go_wp2
            go_ret
            exact ⟨ret_int (checkF_ok HLONG.out (by have := HN.out; have := HOK.out; intro j hj; exact this j (by omega))).symm, HBL.out⟩
end Go.Proofs.YtmanhikpccnfaaaGreat

/- keysmithkit.Own, of bytes and of regions. -/
namespace Go.Proofs.YtmanhikpccnfaaaGreat
open Go.RowKit

theorem BytesAt.get {w : World} {F : Nat → Prop} {A : Option Addr} {n c : Nat} {l : List UInt8} (h : BytesAt w F (.slice A n c) l) {q : Nat} {x : UInt8} (hq : l[q]? = some x) :
    ∃ b o, A = some ⟨b, o, none⟩ ∧ F b ∧ w.cell? ⟨b, o + q, none⟩ = some (.int .u8 x.toNat) := by
  obtain ⟨A', c', hv, _, _, hne⟩ := h
  cases hv
  have hr : (l.map fun x => [byteV x])[q]? = some [byteV x] := by rw [List.getElem?_map, hq]; rfl
  obtain ⟨b, o, hA, hF, hc⟩ := hne (fun e => by rw [e] at hr; cases hr)
  have := hc q 0 _ (byteV x) hr rfl
  exact ⟨b, o, hA, hF, by simpa [byteV] using this⟩

theorem append_none {P : Program} (w : World) (t ty e : TypeId) (i : TypeInfo) (ht : P.underlying t = some (.slice e)) (hi : P.info? e = some i) (a : Addr) (c : Nat) :
    (Builtin.append_ #[t, t] ty #[.slice (some a) 0 0, .slice none 0 c]).run P w = .ok (.slice (some a) 0 0) w := by
  simp [Builtin.append_, run_underlying ht, sizeOf, typeInfo, hi, Builtin.lenOf, Builtin.firstCells, storeCells]

theorem rowsBlk_of_own0 {w : World} {base e sz n : Nat} {v : Value} {rows : List (List Value)} (h : w.ownsRow base e sz v n rows.flatten) (hsz : ∀ r ∈ rows, r.length = sz) (hv : v ≠ .slice none 0 0) :
    ∃ g cap, v = .slice (some ⟨g, 0, none⟩) n cap ∧ base ≤ g ∧ n ≤ cap ∧ RowsBlk w g e sz rows := by
  rcases Nat.eq_zero_or_pos rows.length with h0 | hpos
  · obtain rfl := List.eq_nil_of_length_eq_zero h0
    rcases h.2 with ⟨h1, _⟩ | ⟨g, cap, cur, hv, hg, hh, hnc, hcm, hcs, htk⟩
    · exact absurd h1 hv
    · exact ⟨g, cap, hv, hg, hnc, cur, hh, fun i j r u h => by simp at h, fun r h => by simp at h⟩
  · rcases Nat.eq_zero_or_pos n with hn | hn
    · rcases h.2 with ⟨h1, _⟩ | ⟨g, cap, cur, hv, hg, hh, hnc, hcm, hcs, htk⟩
      · exact absurd h1 hv
      · have hl := h.1
        subst hn
        refine ⟨g, cap, hv, hg, hnc, cur, hh, fun i j r u hr hu => ?_, hsz⟩
        have : r ∈ rows := List.mem_of_getElem? hr
        have h0 : rows.flatten = [] := List.eq_nil_of_length_eq_zero (by simpa using hl)
        rw [List.flatten_eq_nil_iff] at h0
        rw [h0 r this] at hu
        simp at hu
    · exact rowsBlk_of_own h hsz hn

set_option maxHeartbeats 400000 in
theorem OwnB_nil (c : Nat) (w : World) :
    Calls Tryz.prog 33 #[.slice none 0 c] w fun e w' => e = .returned (.slice (some ⟨w.heap.size, 0, none⟩) 0 0) ∧ w' = w.alloc (.cells #[] 5) := by
  obtain ⟨i0, hi, hz0, hz1, hz2⟩ := info_parts infoU8
  have h0 := fun (w : World) (a : Addr) => append_none (P := Tryz.prog) w 36 36 5 i0 Tryz.underlying36 hi a c
  clear hz0 hz1 hz2
  go_enter Tryz.func33, Tryz.ntmps33
  go_wp2
  go_ret
  exact ⟨rfl, rfl⟩

set_option maxHeartbeats 400000 in
theorem OwnB_some (ad : Addr) (n c : Nat) (w : World) (news : List Value) (hl : news.length = n * 1) (hc : ∀ (j : Nat) (u : Value), news[j]? = some u → w.cell? (ad.add j) = some u) (h1 : ∀ u ∈ news, u.oneCell' = true) (hn : n ≤ 140737488351232) :
    Calls Tryz.prog 33 #[.slice (some ad) n c] w fun e w' => ∃ v, e = .returned v ∧ w'.ownsRow w.heap.size 5 1 v n news ∧ v ≠ .slice none 0 0 ∧ Below w.heap.size w w' := by
  obtain ⟨i0, hi, hz0, hz1, hz2⟩ := info_parts infoU8
  have hc2 : ∀ (j : Nat) (u : Value), news[j]? = some u → (w.alloc (.cells #[] 5)).cell? (ad.add j) = some u := fun j u hu => by
    have := hc j u hu
    rw [World.cell?_alloc_lt _ _ _ (World.block_lt_of_cell? w _ this)]; exact this
  have HC := Lib.hid hc2
  have HL := Lib.hid hl
  have H1 := Lib.hid h1
  clear hc hc2 hl h1
  go_enter Tryz.func33, Tryz.ntmps33
  go_wp2_with ((at_builtin; refine wpList_append_own_at _ rfl _ _ 36 rfl w.heap.size 5 i0 (.int .u8 0) 1 1 Tryz.underlying36 hi hz0 hz1 hz2 rfl (by decide) _ 0 [] rfl (own_zero w _ _) ad n c news rfl HL.out HC.out H1.out (by unfold maxLen; omega) (by omega) (by simp) ?_); intro v w1 hown hg hnn _; have HNN := Lib.hid hnn; clear hnn)
  go_ret
  exact ⟨v, rfl, by simpa using hown, fun e => (nomatch ((HNN.out.1 e).1)), ((Below.refl _ _).alloc (Nat.le_refl _) _).grown hg (by simp) (fun k hk => Nat.le_of_eq (Option.some.inj hk))⟩

theorem OwnB_blk (v : Value) (w : World) (F : Nat → Prop) (rows : List (List Value)) (hr : Rows w F 1 v rows) (h1 : ∀ u ∈ rows.flatten, u.oneCell' = true) (hn : rows.length ≤ 3518437208000) :
    Calls Tryz.prog 33 #[v] w fun e w' => ∃ g cap, e = .returned (.slice (some ⟨g, 0, none⟩) rows.length cap) ∧ w.heap.size ≤ g ∧ rows.length ≤ cap ∧ RowsBlk w' g 5 1 rows ∧ Below w.heap.size w w' := by
  have hr' := hr
  obtain ⟨A, c, rfl, hc, hl, hne⟩ := hr'
  cases A with
  | none =>
    have h0 : rows = [] := by
      rcases rows with _ | ⟨r, rs⟩
      · rfl
      · obtain ⟨b, off, hA, _⟩ := hne (by simp); cases hA
    subst h0
    refine (OwnB_nil c w).mono ?_
    rintro e w' ⟨rfl, rfl⟩
    exact ⟨_, 0, rfl, Nat.le_refl _, Nat.le_refl _, ⟨#[], heap_alloc_new w _, fun i j r u h => by simp at h, fun r h => by simp at h⟩, (Below.refl _ _).alloc (Nat.le_refl _) _⟩
  | some ad =>
    obtain ⟨hfl, hfc⟩ := hr.flat (by decide)
    refine (OwnB_some ad rows.length c w rows.flatten hfl hfc h1 (by omega)).mono ?_
    rintro e w' ⟨v, rfl, hown, hnn, hb⟩
    obtain ⟨g, cap, rfl, hg, hcap, hrow⟩ := rowsBlk_of_own0 hown hl hnn
    exact ⟨g, cap, rfl, hg, hcap, hrow, hb⟩

set_option maxHeartbeats 400000 in
theorem OwnR_nil (c : Nat) (w : World) :
    Calls Tryz.prog 32 #[.slice none 0 c] w fun e w' => e = .returned (.slice (some ⟨w.heap.size, 0, none⟩) 0 0) ∧ w' = w.alloc (.cells #[] 38) := by
  obtain ⟨i0, hi, hz0, hz1, hz2⟩ := info_parts infoReg
  have h0 := fun (w : World) (a : Addr) => append_none (P := Tryz.prog) w 30 30 38 i0 Tryz.underlying30 hi a c
  clear hz0 hz1 hz2
  go_enter Tryz.func32, Tryz.ntmps32
  go_wp2
  go_ret
  exact ⟨rfl, rfl⟩

set_option maxHeartbeats 400000 in
theorem OwnR_some (ad : Addr) (n c : Nat) (w : World) (news : List Value) (hl : news.length = n * 3) (hc : ∀ (j : Nat) (u : Value), news[j]? = some u → w.cell? (ad.add j) = some u) (h1 : ∀ u ∈ news, u.oneCell' = true) (hn : n ≤ 3518437208000) :
    Calls Tryz.prog 32 #[.slice (some ad) n c] w fun e w' => ∃ v, e = .returned v ∧ w'.ownsRow w.heap.size 38 3 v n news ∧ v ≠ .slice none 0 0 ∧ Below w.heap.size w w' := by
  obtain ⟨i0, hi, hz0, hz1, hz2⟩ := info_parts infoReg
  have hc2 : ∀ (j : Nat) (u : Value), news[j]? = some u → (w.alloc (.cells #[] 38)).cell? (ad.add j) = some u := fun j u hu => by
    have := hc j u hu
    rw [World.cell?_alloc_lt _ _ _ (World.block_lt_of_cell? w _ this)]; exact this
  have HC := Lib.hid hc2
  have HL := Lib.hid hl
  have H1 := Lib.hid h1
  clear hc hc2 hl h1
  go_enter Tryz.func32, Tryz.ntmps32
  go_wp2_with ((at_builtin; refine wpList_append_own_at _ rfl _ _ 30 rfl w.heap.size 38 i0 (.agg #[.int .u64 0, .slice none 0 0, .bool false]) 3 40 Tryz.underlying30 hi hz0 hz1 hz2 rfl (by decide) _ 0 [] rfl (own_zero w _ _) ad n c news rfl HL.out HC.out H1.out (by unfold maxLen; omega) (by omega) (by simp) ?_); intro v w1 hown hg hnn _; have HNN := Lib.hid hnn; clear hnn)
  go_ret
  exact ⟨v, rfl, by simpa using hown, fun e => (nomatch ((HNN.out.1 e).1)), ((Below.refl _ _).alloc (Nat.le_refl _) _).grown hg (by simp) (fun k hk => Nat.le_of_eq (Option.some.inj hk))⟩

theorem OwnR_blk (v : Value) (w : World) (F : Nat → Prop) (rows : List (List Value)) (hr : Rows w F 3 v rows) (h1 : ∀ u ∈ rows.flatten, u.oneCell' = true) (hn : rows.length ≤ 3518437208000) :
    Calls Tryz.prog 32 #[v] w fun e w' => ∃ g cap, e = .returned (.slice (some ⟨g, 0, none⟩) rows.length cap) ∧ w.heap.size ≤ g ∧ rows.length ≤ cap ∧ RowsBlk w' g 38 3 rows ∧ Below w.heap.size w w' := by
  have hr' := hr
  obtain ⟨A, c, rfl, hc, hl, hne⟩ := hr'
  cases A with
  | none =>
    have h0 : rows = [] := by
      rcases rows with _ | ⟨r, rs⟩
      · rfl
      · obtain ⟨b, off, hA, _⟩ := hne (by simp); cases hA
    subst h0
    refine (OwnR_nil c w).mono ?_
    rintro e w' ⟨rfl, rfl⟩
    exact ⟨_, 0, rfl, Nat.le_refl _, Nat.le_refl _, ⟨#[], heap_alloc_new w _, fun i j r u h => by simp at h, fun r h => by simp at h⟩, (Below.refl _ _).alloc (Nat.le_refl _) _⟩
  | some ad =>
    obtain ⟨hfl, hfc⟩ := hr.flat (by decide)
    refine (OwnR_some ad rows.length c w rows.flatten hfl hfc h1 (by omega)).mono ?_
    rintro e w' ⟨v, rfl, hown, hnn, hb⟩
    obtain ⟨g, cap, rfl, hg, hcap, hrow⟩ := rowsBlk_of_own0 hown hl hnn
    exact ⟨g, cap, rfl, hg, hcap, hrow, hb⟩


set_option maxRecDepth 100000 in
set_option maxHeartbeats 800000 in
theorem OwnRegions_any (v : Value) (w : World) (F : Nat → Prop) (l : List Reg) (hl : RegsAt w F v l) (hF : ∀ k, F k → k < w.heap.size) (h8 : l.length ≤ 3518437208000) (hb : ∀ r ∈ l, r.bytes.length ≤ 1048576) :
    Calls Tryz.prog 9 #[v] w fun e w' => ∃ v', e = .returned v' ∧ RegsOwn w' (seg w.heap.size w'.heap.size) v' l ∧ Below w.heap.size w w' := by
  obtain ⟨P, hP, hrows, hsrc⟩ := hl
  have hpl : P.length = l.length := by rw [← hP]; simp
  have HC := Lib.hid (OwnR_blk v w F (P.map fun x => entRow x.2) hrows (entRows_one P) (by simp; omega))
  obtain ⟨A, c, hv, hc, hlen3, hne⟩ := hrows
  subst hP
  have HSRC := Lib.hid hsrc
  have HF := Lib.hid hF
  have HB := Lib.hid hb
  simp only [List.length_map] at hv h8
  subst hv
  clear hsrc hlen3 hne hb hF hc
  simp only [List.length_map] at HC
  generalize hn : P.length = n at *
  have HN := Lib.hid hn
  clear hn hpl
  go_enter Tryz.func9, Tryz.ntmps9
  go_wp2_with ((with_reducible refine (HC.out).mono ?_); rintro e w1 ⟨g, cap, rfl, hg, hcap, hrow, hb1⟩)
  have HROW := Lib.hid hrow
  have HB1 := Lib.hid hb1
  clear hrow hb1 HC
  go_loopg [4] n (fun gg i wr => ∃ (k : Nat) (P1 P2 : List (Reg × Ent)), P1.length = k ∧ k ≤ n ∧ gg = n - k ∧ i = .int .i64 k ∧ (P1 ++ P2).map (·.1) = P.map (·.1) ∧ Below w.heap.size w wr ∧ RowsBlk wr g 38 3 ((P1 ++ P2).map fun x => entRow x.2) ∧
      (∀ x ∈ P1, EntOwn wr (seg w.heap.size wr.heap.size) x.1 x.2) ∧ (P1.map (·.2.ad)).Nodup ∧ (∀ x ∈ P2, EntSrc w F x.1 x.2))
  case atStart => exact ⟨0, [], P, rfl, by omega, rfl, rfl, rfl, HB1.out, HROW.out, by simp, by simp, HSRC.out⟩
  case round =>
    obtain ⟨k, P1, P2, hk1, hk, hgg, rfl, hfst, hbl, hrw, hown, hnd, hsrc⟩ := hrel
    have hg1 := Nat.le_of_eq hgg
    have hg2 := Nat.le_of_eq hgg.symm
    have hlen : (P1 ++ P2).length = n := by have := congrArg List.length hfst; have := HN.out; simp at *; omega
    have HFST := Lib.hid hfst
    have HBL := Lib.hid hbl
    have HRW := Lib.hid hrw
    have HOWN := Lib.hid hown
    have HND := Lib.hid hnd
    have HSRC2 := Lib.hid hsrc
    have HK1 := Lib.hid hk1
    have HLEN := Lib.hid hlen
    clear hfst hbl hrw hown hnd hsrc hk1 hlen HSRC HROW HB1 hgg
    by_cases hlt : k < n
    · obtain ⟨x, P2', rfl⟩ : ∃ x P2', P2 = x :: P2' := by
        cases P2 with
        | nil => have := HLEN.out; have := HK1.out; simp at *; omega
        | cons x P2' => exact ⟨x, P2', rfl⟩
      have hx := HSRC2.out x (List.mem_cons_self ..)
      have hxl := HB.out x.1 (by
        have h1 : x.1 ∈ (P1 ++ x :: P2').map (·.1) := by simp
        rw [HFST.out] at h1; exact h1)
      have hri : ((P1 ++ x :: P2').map fun x => entRow x.2)[k]? = some (entRow x.2) := by
        rw [List.getElem?_map, List.getElem?_append_right (by have := HK1.out; omega), show k - P1.length = 0 from by have := HK1.out; omega]; rfl
      have hcell : wr.cell? ⟨g, k * 3 + 1, none⟩ = some (.slice x.2.ad x.2.n x.2.c) := HRW.out.cell hri (j := 1) (by rfl)
      have hgl := HRW.out.lt
      have HX := Lib.hid hx
      have HRI := Lib.hid hri
      have HCB := Lib.hid (OwnB_blk (.slice x.2.ad x.2.n x.2.c) wr F (byteRows x.1.bytes) (hx.bytes.keep (SameOn.of_below HBL.out HF.out)) (byteRows_one _) (by simp [byteRows]; omega))
      clear hx hxl hri
      have i0 : (0 : Int) ≤ (k : Int) := by omega
      have i1 : (k : Int) < (n : Int) := by omega
      go_wp2_with ((with_reducible refine (HCB.out).mono ?_); rintro e w2 ⟨bb, cap2, rfl, hbb, hcap2, hrow2, hb2⟩; have hcell2 := (hb2.cell (p := ⟨g, k * 3 + 1, none⟩) hgl).trans hcell; have hfr2 := (HRW.out.keep (hb2.block g hgl)).frozen (k * 3 + 1); have HR2 := Lib.hid hrow2; have HC2 := Lib.hid hcap2; have HB2 := Lib.hid hb2; clear hrow2 hcap2 hb2 hcell)
      go_roundg (n - (k + 1))
      case measure => omega
      case rel =>
        have hx := HX.out
        refine ⟨k + 1, P1 ++ [(x.1, ⟨x.2.key, some ⟨bb, 0, none⟩, (byteRows x.1.bytes).length, cap2, x.2.wr⟩)], P2', by have := HK1.out; simp; omega, by omega, rfl, by go_num, ?_, ?_, ?_, ?_, ?_, fun y hy => HSRC2.out y (List.mem_cons_of_mem _ hy)⟩
        · rw [← HFST.out]; simp
        · exact (HBL.out.trans (HB2.out.mono HBL.out.size)).setCell hg _
        · rw [← set_mid P1 P2' x HK1.out]
          exact (HRW.out.keep (HB2.out.block g hgl)).set_ HRI.out (j := 1) (by decide) _
        · intro y hy
          have hsz : (w2.setCell ⟨g, k * 3 + 1, none⟩ (.slice (some ⟨bb, 0, none⟩) (byteRows x.1.bytes).length cap2)).heap.size = w2.heap.size := by simp [World.setCell]
          have hw2 := HB2.out.size
          have hwr := HBL.out.size
          rcases List.mem_append.1 hy with hy | hy
          · refine (HOWN.out y hy).keep2 HRW.out (by decide) (fun q hq hne => (Below.heap_setCell _ _ _ _ hne).trans (HB2.out.block q hq)) (fun q hq hlq => ⟨hq.1, ?_⟩)
            rw [hsz]; omega
          · simp only [List.mem_singleton] at hy
            subst hy
            have hbbne : bb ≠ g := by omega
            refine ⟨hx.key, by simp [byteRows], hx.wr, HC2.out, bb, rfl, ⟨by omega, by rw [hsz]; exact HR2.out.lt⟩, HR2.out.keep (Below.heap_setCell _ _ _ _ hbbne)⟩
        · exact ad_new HOWN.out HND.out hbb _ rfl
    · obtain rfl : P2 = [] := by
        have h1 := HLEN.out; have h2 := HK1.out
        cases P2 with
        | nil => rfl
        | cons => simp at h1; omega
      go_wp2
      go_ret
      have h1 := HFST.out
      have h2 := HRW.out
      have h3 := HN.out
      rw [List.append_nil] at h1 h2
      exact ⟨_, rfl, ⟨_, cap, P1, by simp [h3], by simp [h3]; exact hcap, h1, HOWN.out, HND.out, fun _ => ⟨g, rfl, ⟨hg, h2.lt⟩, h2⟩⟩, HBL.out⟩
end Go.Proofs.YtmanhikpccnfaaaGreat

/- keysmithref04.own: as memory.own. -/
namespace Go.Proofs.YtmanhikpccnfaaaGreat
open Go.RowKit

/-- So many cells are in a block. -/
def SizeAt (w : World) (g m : Nat) : Prop := ∃ cur e fr, w.heap[g]? = some (.cells cur e fr) ∧ cur.size = m
theorem SizeAt.keep {w w' : World} {g m : Nat} (h : SizeAt w g m) (hk : w'.heap[g]? = w.heap[g]?) : SizeAt w' g m := by
  obtain ⟨cur, e, fr, h1, h2⟩ := h
  exact ⟨cur, e, fr, hk.trans h1, h2⟩
theorem SizeAt.setCell {w : World} {g m : Nat} (h : SizeAt w g m) (p : Nat) (u : Value) : SizeAt (w.setCell ⟨g, p, none⟩ u) g m := by
  obtain ⟨cur, e, fr, h1, h2⟩ := h
  exact ⟨cur.setIfInBounds p u, e, fr, by simp [World.setCell, Array.getElem?_modify, h1], by simpa using h2⟩
theorem SizeAt.drew {w : World} {g m : Nat} (h : SizeAt w g m) : SizeAt w.drew g m := h

theorem flat_split {α : Type} {sz : Nat} (hsz : 0 < sz) (rows : List (List α)) (h : ∀ r ∈ rows, r.length = sz) : ∀ (j : Nat) (u : α), rows.flatten[j]? = some u → ∃ r, rows[j / sz]? = some r ∧ r[j % sz]? = some u := by
  induction rows with
  | nil => intro j u h; simp at h
  | cons q qs ih =>
    intro j u hj
    have hql := h q (List.mem_cons_self ..)
    rw [List.flatten_cons] at hj
    rcases Nat.lt_or_ge j sz with h1 | h1
    · rw [List.getElem?_append_left (by omega)] at hj
      exact ⟨q, by rw [Nat.div_eq_of_lt h1]; rfl, by rw [Nat.mod_eq_of_lt h1]; exact hj⟩
    · rw [List.getElem?_append_right (by omega), hql] at hj
      obtain ⟨r, h2, h3⟩ := ih (fun r hr => h r (List.mem_cons_of_mem _ hr)) (j - sz) u hj
      refine ⟨r, ?_, ?_⟩
      · rw [show j / sz = (j - sz) / sz + 1 from by rw [Nat.div_eq_sub_div hsz h1]]
        simpa using h2
      · rw [Nat.mod_eq_sub_mod h1]; exact h3
theorem flat_len {α : Type} {sz : Nat} (rows : List (List α)) (h : ∀ r ∈ rows, r.length = sz) : rows.flatten.length = rows.length * sz := by
  induction rows with
  | nil => simp
  | cons q qs ih => rw [List.flatten_cons, List.length_append, ih (fun r hr => h r (List.mem_cons_of_mem _ hr)), h q (List.mem_cons_self ..), List.length_cons, Nat.succ_mul]; omega

/-- A block of rows is a row of the call's own again. -/
theorem own_of_rowsBlk {w : World} {base e sz g cap n : Nat} {rows : List (List Value)} (h : RowsBlk w g e sz rows) (hn : rows.length = n) (hs : SizeAt w g (cap * sz)) (hg : base ≤ g) (hnc : n ≤ cap) (hcm : cap ≤ maxLen) (hsz : 0 < sz) :
    w.ownsRow base e sz (.slice (some ⟨g, 0, none⟩) n cap) n rows.flatten := by
  obtain ⟨cur, h1, h2, h3⟩ := h
  obtain ⟨cur', e', fr, h4, h5⟩ := hs
  rw [h1] at h4
  cases h4
  have hl := flat_len rows h3
  rw [hn] at hl
  refine ⟨hl, .inr ⟨g, cap, cur, rfl, hg, h1, hnc, hcm, h5, ?_⟩⟩
  have hle : n * sz ≤ cap * sz := Nat.mul_le_mul_right _ hnc
  refine List.ext_getElem? fun j => ?_
  rw [List.getElem?_take]
  split
  · rename_i hj
    have hjl : j < rows.flatten.length := by omega
    obtain ⟨r, hr, hu⟩ := flat_split hsz rows h3 j _ (List.getElem?_eq_getElem hjl)
    have := h2 _ _ r _ hr hu
    rw [show j / sz * sz + j % sz = j from by rw [Nat.mul_comm]; exact Nat.div_add_mod j sz] at this
    rw [List.getElem?_eq_getElem hjl, Array.getElem?_toList, this]
  · rw [List.getElem?_eq_none (by omega)]

theorem size_of_own {w : World} {base e sz n g cap : Nat} {xs : List Value} (h : w.ownsRow base e sz (.slice (some ⟨g, 0, none⟩) n cap) n xs) : SizeAt w g (cap * sz) ∧ cap ≤ maxLen := by
  rcases h.2 with ⟨h1, _⟩ | ⟨g', cap', cur, hv, hg, hh, hnc, hcm, hcs, htk⟩
  · cases h1
  · cases hv
    exact ⟨⟨cur, _, _, hh, hcs⟩, hcm⟩

theorem sort_take (l : List Reg) {k : Nat} {r : Reg} (hr : l[k]? = some r) : sortBy Reg.base (l.take (k + 1)) = (insBy Reg.base (sortBy Reg.base (l.take k)).reverse r).reverse := by
  obtain ⟨hk, rfl⟩ := List.getElem?_eq_some_iff.1 hr
  rw [List.take_succ_eq_append_getElem hk, sortBy, List.foldl_append, sortBy, List.reverse_reverse]
  rfl

theorem own_form {w : World} {base e sz n : Nat} {v : Value} {xs : List Value} (h : w.ownsRow base e sz v n xs) : ∃ A c, v = .slice A n c := by
  rcases h.2 with ⟨h1, h2⟩ | ⟨g', cap', cur, hv, _⟩
  · exact ⟨none, 0, by rw [h1, h2]⟩
  · exact ⟨_, _, hv⟩
theorem own_from {w : World} {base e sz n : Nat} {v : Value} {xs : List Value} (h : w.ownsRow base e sz v n xs) : ∀ k, v.ownBlock = some k → base ≤ k := fun k hk => by
  rcases h.2 with ⟨rfl, _⟩ | ⟨g, cap, cur, rfl, hg, _⟩
  · cases hk
  · cases hk; exact hg
theorem own_keep {w w' : World} {base e sz n : Nat} {v : Value} {xs : List Value} (h : w.ownsRow base e sz v n xs) (hb : Below w.heap.size w w') : w'.ownsRow base e sz v n xs := by
  rcases h.2 with ⟨h1, h2⟩ | ⟨g', cap', cur, hv, hg, hh, hr⟩
  · exact ⟨h.1, .inl ⟨h1, h2⟩⟩
  · exact ⟨h.1, .inr ⟨g', cap', cur, hv, hg, (hb.block g' (lt_of_block hh)).trans hh, hr⟩⟩

theorem swap_rows2 (A : List Ent) (p x : Ent) (B : List Ent) {q : Nat} (h : A.length = q) :
    (((A.concat p ++ x :: B).map entRow).set q (entRow x)).set (q + 1) (entRow p) = (A ++ x :: p :: B).map entRow := by
  rw [List.set_comm _ _ (by omega)]
  exact swap_rows A p x B h

/-- A row that grew leaves bytes alone. -/
theorem own_other {w w' : World} {base n : Nat} {v : Value} {xs : List Value} (h : w.ownsRow base 38 3 v n xs) (hg : w.grownBy w' v.ownBlock) {bb : Nat} {rows : List (List Value)} (hr : RowsBlk w bb 5 1 rows) : w'.heap[bb]? = w.heap[bb]? := by
  refine hg.block bb hr.lt (fun e => ?_)
  obtain ⟨cur, h1, _⟩ := hr
  rcases h.2 with ⟨rfl, _⟩ | ⟨g, cap, cur2, rfl, _, h2, _⟩
  · cases e
  · cases e
    rw [h1] at h2
    injection h2 with h2
    injection h2 with _ h2
    exact absurd h2 (by decide)

/-- The copy of one region, made: its struct at X, its bytes at bb. -/
structure Copied (wr wx : World) (X bb cap : Nat) (r : Reg) : Prop where
  c0 : wx.cell? ⟨X, 0, none⟩ = some (.int .u64 r.base)
  c1 : wx.cell? ⟨X, 1, none⟩ = some (.slice (some ⟨bb, 0, none⟩) r.bytes.length cap)
  c2 : wx.cell? ⟨X, 2, none⟩ = some (.bool r.write)
  lt : X < wx.heap.size
  hbb : wr.heap.size ≤ bb
  hcap : r.bytes.length ≤ cap
  rows : RowsBlk wx bb 5 1 (byteRows r.bytes)
  below : Below wr.heap.size wr wx
def CopiedAt (wr : World) (X : Nat) (r : Reg) (wx : World) : Prop := ∃ bb cap, Copied wr wx X bb cap r

set_option maxRecDepth 100000 in
set_option maxHeartbeats 1600000 in
theorem RefOwn_any (v : Value) (w : World) (F : Nat → Prop) (l : List Reg) (hl : RegsAt w F v l) (hF : ∀ k, F k → k < w.heap.size) (h8 : l.length ≤ 12) (hb : ∀ r ∈ l, r.bytes ≠ [] ∧ r.bytes.length ≤ 1048576) :
    Calls Tryz.prog 42 #[v] w fun e w' => ∃ v', e = .returned v' ∧ RegsOwn w' (seg w.heap.size w'.heap.size) v' (sortBy Reg.base l) ∧ Below w.heap.size w w' := by
  obtain ⟨A, c, rfl, hlc⟩ := hl.form
  have HL := Lib.hid hl
  have HF := Lib.hid hF
  have HB := Lib.hid hb
  clear hl hF hb
  generalize hln : l.length = n at *
  have HN := Lib.hid hln
  clear hln
  obtain ⟨i0, hi, hz0, hz1, hz2⟩ := info_parts infoU8
  obtain ⟨i1, hi1, hz10, hz11, hz12⟩ := info_parts infoReg
  go_enter Tryz.func42, Tryz.ntmps42
  go_wp2
  go_loopg [3, 4] n (fun gg out i wr => ∃ (k : Nat) (E : List (Reg × Ent)), k ≤ n ∧ gg = n - k ∧ i = .int .i64 k ∧ E.map (·.1) = sortBy Reg.base (l.take k) ∧ Below w.heap.size w wr ∧ wr.ownsRow w.heap.size 38 3 out k (E.map fun x => entRow x.2).flatten ∧
      (∀ x ∈ E, EntOwn wr (seg w.heap.size wr.heap.size) x.1 x.2) ∧ (E.map (·.2.ad)).Nodup)
  case atStart => exact ⟨0, [], by omega, rfl, rfl, rfl, Below.refl _ _, ⟨by simp, .inl ⟨rfl, rfl⟩⟩, by simp, by simp⟩
  case round =>
    obtain ⟨k, E, hk, hgg, rfl, hfst, hbl, hrow, hown, hnd⟩ := hrel
    have hg1 := Nat.le_of_eq hgg
    have hg2 := Nat.le_of_eq hgg.symm
    obtain ⟨A3, c3, rfl⟩ := own_form hrow
    have HFST := Lib.hid hfst
    have HBL := Lib.hid hbl
    have HROW := Lib.hid hrow
    have HOWN := Lib.hid hown
    have HND := Lib.hid hnd
    clear hgg hfst hbl hrow hown hnd
    by_cases hlt : k < n
    · obtain ⟨r, hr⟩ : ∃ r, l[k]? = some r := ⟨_, List.getElem?_eq_getElem (by have := HN.out; omega)⟩
      have hrb := HB.out r (List.mem_of_getElem? hr)
      have hrb2 := hrb.2
      obtain ⟨b, off, A', c', rfl, hFb, h0, h1, h2, hby, hb64, _⟩ := (HL.out.below HBL.out HF.out).at_ hr
      obtain ⟨sb, so, rfl⟩ : ∃ sb so, A' = some ⟨sb, so, none⟩ := by
        obtain ⟨x, xs, hx⟩ := List.exists_cons_of_ne_nil hrb.1
        obtain ⟨b3, o3, h3, _⟩ := hby.get (q := 0) (x := x) (by rw [hx]; rfl)
        exact ⟨b3, o3, h3⟩
      have hb := Nat.lt_of_lt_of_le (HF.out b hFb) HBL.out.size
      have j0 : (0 : Int) ≤ (k : Int) := by omega
      have j1 : (k : Int) < (n : Int) := by omega
      have HR := Lib.hid hr
      have HBY := Lib.hid hby
      clear hr hby hrb
      obtain ⟨W1, hW1, hbw, hsz, hnew, _⟩ := boxed wr #[.int .u64 r.base, .slice (some ⟨sb, so, none⟩) r.bytes.length c', .bool r.write] 38
      have n0 := hnew 0
      have n1 := hnew 1
      have n2 := hnew 2
      have m0 : wr.heap.size < W1.heap.size := by omega
      have hf1 : W1.frozen? ⟨wr.heap.size, 1, none⟩ = false := by rw [hW1]; simp
      have HW1 := Lib.hid hW1
      have HBW := Lib.hid hbw
      have hflat := Rows.flat (HBY.out.keep (SameOn.of_below hbw (fun k hk => by have := HF.out k hk; have := HBL.out.size; omega))) (by decide)
      rw [show (r.bytes.map fun x => [byteV x]) = byteRows r.bytes from rfl] at hflat
      have HCE : Hid (∀ (j : Nat) (u : Value), (byteRows r.bytes).flatten[j]? = some u → (W1.alloc (.cells #[] 5)).cell? (Addr.add ⟨sb, so, none⟩ j) = some u) := Lib.hid (fun j u hu => by
        have := hflat.2 j u hu
        rw [World.cell?_alloc_lt _ _ _ (World.block_lt_of_cell? _ _ this)]; exact this)
      have HLE := Lib.hid hflat.1
      clear hnew hsz hW1 hbw hflat
      go_upto_region 6 with (fail)
      rw [← HW1.out]
      go_cut [] (fun wx => CopiedAt wr wr.heap.size r wx)
      case first =>
        go_wp2_with ((at_builtin; refine wpList_append_own_at _ rfl _ _ 36 rfl W1.heap.size 5 i0 (.int .u8 0) 1 1 Tryz.underlying36 hi hz0 hz1 hz2 rfl (by decide) _ 0 [] rfl (own_zero W1 _ _) ⟨sb, so, none⟩ r.bytes.length c' (byteRows r.bytes).flatten rfl HLE.out HCE.out (byteRows_one _) (by unfold maxLen; omega) (by omega) (by simp) ?_); intro v w3 hown hg hnn _; obtain ⟨bb, cap, rfl, hgb, hcp, hrows⟩ := rowsBlk_of_own0 (by simpa using hown) (byteRows_len _) (fun e => (nomatch ((hnn.1 e).1))); have hb3 := ((Below.refl W1.heap.size W1).alloc (Nat.le_refl _) _).grown hg (by simp) (fun k hk => Nat.le_of_eq (Option.some.inj hk)); have d0 := (hb3.cell (p := ⟨wr.heap.size, 0, none⟩) m0).trans n0; have d1 := (hb3.cell (p := ⟨wr.heap.size, 1, none⟩) m0).trans n1; have d2 := (hb3.cell (p := ⟨wr.heap.size, 2, none⟩) m0).trans n2; have f1 := (hb3.frozen (p := ⟨wr.heap.size, 1, none⟩) m0).trans hf1; have HB3 := Lib.hid hb3; have HRO := Lib.hid hrows; have HGB := Lib.hid (And.intro hgb hcp); clear hown hg hnn hb3 hrows n0 n1 n2 hf1 hgb hcp)
        go_meet
        have hne : bb ≠ wr.heap.size := by have := HGB.out.1; omega
        refine ⟨bb, cap, ⟨by go_simp, by go_simp, by go_simp, by have := HB3.out.size; simp [World.setCell]; omega, by have := HGB.out.1; omega, HGB.out.2, HRO.out.keep (Below.heap_setCell _ _ _ _ hne), ((HBW.out.trans (HB3.out.mono HBW.out.size)).setCell (Nat.le_refl _) _)⟩⟩
      case rest =>
        obtain ⟨bb, cap, hcp⟩ := hcut
        have d0 := hcp.c0
        have d1 := hcp.c1
        have d2 := hcp.c2
        have dl := hcp.lt
        have HCP := Lib.hid hcp
        have hro2 := own_keep HROW.out hcp.below
        have HRO2 := Lib.hid hro2
        have HSZ := Lib.hid hcp.below.size
        clear n0 n1 n2 m0 hf1 h0 h1 h2 HCE HLE hcp hro2
        go_wp2_with ((at_builtin; refine wpList_append_own_at _ rfl _ _ 30 rfl w.heap.size 38 i1 (.agg #[.int .u64 0, .slice none 0 0, .bool false]) 3 40 Tryz.underlying30 hi1 hz10 hz11 hz12 rfl (by decide) _ k _ rfl (HRO2.out.alloc _) ⟨wc.heap.size, 0, none⟩ 1 1 [.int .u64 r.base, .slice (some ⟨bb, 0, none⟩) r.bytes.length cap, .bool r.write] rfl (by simp) (World.news_of_block (cs := #[.int .u64 r.base, .slice (some ⟨bb, 0, none⟩) r.bytes.length cap, .bool r.write]) (t := 38) (fr := (0, 0)) (heap_alloc_new wc _)) (by simp [Value.oneCell']) (by unfold maxLen; omega) (by omega) (by have := HBL.out.size; have := HSZ.out; simp; omega) ?_); intro bk2 w5 hown5 hg5 _ _; have HO5 := Lib.hid hown5; have HG5 := Lib.hid hg5; clear hown5 hg5)
        have hlen : E.length = k := by have := congrArg List.length HFST.out; rw [sortBy_length] at this; have := HN.out; simp at *; omega
        have hrow5 : w5.ownsRow w.heap.size 38 3 bk2 (k + 1) (((E.map (·.2)) ++ [(⟨r.base, some ⟨bb, 0, none⟩, r.bytes.length, cap, r.write⟩ : Ent)]).map entRow).flatten := by
          have h1 := HO5.out
          rw [List.map_append, List.flatten_append, List.map_map]
          exact h1
        have helen : ∀ x ∈ ((E.map (·.2)) ++ [(⟨r.base, some ⟨bb, 0, none⟩, r.bytes.length, cap, r.write⟩ : Ent)]).map entRow, x.length = 3 := by
          intro x hx; obtain ⟨y, _, rfl⟩ := List.mem_map.1 hx; rfl
        obtain ⟨g, cap5, rfl, hg0, hcap5, hrb5⟩ := rowsBlk_of_own hrow5 helen (by omega)
        obtain ⟨hsz5, hcm5⟩ := size_of_own hrow5
        -- what stays
        have hro2 : (wc.alloc (.cells #[.int .u64 r.base, .slice (some ⟨bb, 0, none⟩) r.bytes.length cap, .bool r.write] 38)).ownsRow w.heap.size 38 3 (.slice A3 k c3) k _ := HRO2.out.alloc _
        have hkeep : ∀ (q : Nat) (rows : List (List Value)), RowsBlk wc q 5 1 rows → RowsBlk w5 q 5 1 rows := fun q rows hq => by
          have h1 : RowsBlk (wc.alloc (.cells #[.int .u64 r.base, .slice (some ⟨bb, 0, none⟩) r.bytes.length cap, .bool r.write] 38)) q 5 1 rows := hq.keep (Below.heap_alloc _ _ _ hq.lt)
          exact h1.keep (own_other hro2 HG5.out h1)
        have hbl5 : Below w.heap.size w w5 := ((HBL.out.trans (HCP.out.below.mono HBL.out.size)).alloc (by have := HBL.out.size; have := HSZ.out; omega) _).grown HG5.out (by have := HBL.out.size; have := HSZ.out; simp; omega) (own_from HROW.out)
        have hsz05 : wc.heap.size ≤ w5.heap.size := by have := HG5.out.size; simp at this; omega
        have hent : ∀ x ∈ E ++ [(r, (⟨r.base, some ⟨bb, 0, none⟩, r.bytes.length, cap, r.write⟩ : Ent))], EntOwn w5 (seg w.heap.size w5.heap.size) x.1 x.2 := by
          intro x hx
          rcases List.mem_append.1 hx with hx | hx
          · have he := HOWN.out x hx
            obtain ⟨b1, e1, e2, e3⟩ := he.blk
            exact ⟨he.key, he.n, he.wr, he.cap, b1, e1, ⟨e2.1, by have := e3.lt; have := HSZ.out; omega⟩, hkeep b1 _ (e3.keep (HCP.out.below.block b1 e3.lt))⟩
          · simp only [List.mem_singleton] at hx
            subst hx
            exact ⟨rfl, rfl, rfl, HCP.out.hcap, bb, rfl, ⟨by have := HCP.out.hbb; have := HBL.out.size; omega, by have := HCP.out.rows.lt; omega⟩, hkeep bb _ HCP.out.rows⟩
        have hnd5 : ((E ++ [(r, (⟨r.base, some ⟨bb, 0, none⟩, r.bytes.length, cap, r.write⟩ : Ent))]).map (·.2.ad)).Nodup := ad_new HOWN.out HND.out HCP.out.hbb _ rfl
        have hdone : ∀ (A B : List Ent) (wx : World), Chg (· = g) w5 wx → RowsBlk wx g 38 3 ((A ++ ⟨r.base, some ⟨bb, 0, none⟩, r.bytes.length, cap, r.write⟩ :: B).map entRow) → SizeAt wx g (cap5 * 3) →
            A ++ ⟨r.base, some ⟨bb, 0, none⟩, r.bytes.length, cap, r.write⟩ :: B = (insBy Ent.key (E.map (·.2)).reverse ⟨r.base, some ⟨bb, 0, none⟩, r.bytes.length, cap, r.write⟩).reverse →
            ∃ E' : List (Reg × Ent), E'.map (·.1) = sortBy Reg.base (l.take (k + 1)) ∧ Below w.heap.size w wx ∧ wx.ownsRow w.heap.size 38 3 (.slice (some ⟨g, 0, none⟩) (k + 1) cap5) (k + 1) (E'.map fun x => entRow x.2).flatten ∧
              (∀ x ∈ E', EntOwn wx (seg w.heap.size wx.heap.size) x.1 x.2) ∧ (E'.map (·.2.ad)).Nodup := fun A B wx hc hrw hsz he => by
          have hp : (insBy (fun y : Reg × Ent => y.2.key) E.reverse (r, ⟨r.base, some ⟨bb, 0, none⟩, r.bytes.length, cap, r.write⟩)).reverse.Perm (E ++ [(r, (⟨r.base, some ⟨bb, 0, none⟩, r.bytes.length, cap, r.write⟩ : Ent))]) :=
            (List.reverse_perm _).trans ((insBy_perm _ _ _).trans ((List.Perm.cons _ (List.reverse_perm E)).trans (List.perm_append_comm (l₁ := [_]) (l₂ := E))))
          refine ⟨(insBy (fun y : Reg × Ent => y.2.key) E.reverse (r, ⟨r.base, some ⟨bb, 0, none⟩, r.bytes.length, cap, r.write⟩)).reverse, ?_, hbl5.trans (hc.below (fun q hq e => by subst e; omega) hbl5.size), ?_, fun y hy => ?_, (hp.map _).nodup_iff.2 hnd5⟩
          · rw [sort_take l HR.out, ← HFST.out, List.map_reverse, ← List.map_reverse, ← List.map_reverse, insBy_map Reg.base (fun y : Reg × Ent => y.1) E.reverse (r, ⟨r.base, some ⟨bb, 0, none⟩, r.bytes.length, cap, r.write⟩)]
            rw [insBy_congr (k := fun y : Reg × Ent => y.2.key) (k' := fun y : Reg × Ent => y.1.base) E.reverse _ rfl (fun y hy => (hent y (List.mem_append_left _ (by simpa using hy))).key)]
            simp
          · have h1 : ((insBy (fun y : Reg × Ent => y.2.key) E.reverse (r, ⟨r.base, some ⟨bb, 0, none⟩, r.bytes.length, cap, r.write⟩)).reverse.map fun x => entRow x.2) = (A ++ ⟨r.base, some ⟨bb, 0, none⟩, r.bytes.length, cap, r.write⟩ :: B).map entRow := by
              rw [he, ← List.map_reverse, insBy_map Ent.key (fun y : Reg × Ent => y.2) E.reverse (r, ⟨r.base, some ⟨bb, 0, none⟩, r.bytes.length, cap, r.write⟩), ← List.map_reverse, List.map_map]
              rfl
            rw [h1]
            exact own_of_rowsBlk hrw (by rw [← h1]; simp [insBy_length, hlen]) hsz hg0 hcap5 hcm5 (by decide)
          · exact (hent y (hp.mem_iff.1 hy)).keep2 hrb5 (by decide) (fun q hq hne => hc.block q hq hne) (fun q hq hlq => ⟨hq.1, by have := hc.size; have := hq.2; omega⟩)
        have HENT := Lib.hid hent
        have HDONE := Lib.hid hdone
        have HND5 := Lib.hid hnd5
        have HBL5 := Lib.hid hbl5
        have HRB5 := Lib.hid hrb5
        have HSZ5 := Lib.hid hsz5
        have HLEN := Lib.hid hlen
        have HCM5 := Lib.hid hcm5
        have hg0' := hg0
        generalize hx : (⟨r.base, some ⟨bb, 0, none⟩, r.bytes.length, cap, r.write⟩ : Ent) = x at *
        have HX := Lib.hid hx
        clear hdone hrow5 helen hro2 hkeep hbl5 hent hnd5 hrb5 hsz5 hlen hcm5 hx HO5 HG5 HOWN HND HRO2 HROW HBL d0 d1 d2 dl hg0
        go_loopg [6] k (fun gg z wx => ∃ (q : Nat) (A B : List Ent), A.length = q ∧ q ≤ k ∧ gg = q ∧ z = .int .i64 q ∧ Chg (· = g) w5 wx ∧ RowsBlk wx g 38 3 ((A ++ x :: B).map entRow) ∧ SizeAt wx g (cap5 * 3) ∧ (A ++ x :: B).length = k + 1 ∧ (insBy Ent.key A.reverse x).reverse ++ B = (insBy Ent.key (E.map (·.2)).reverse x).reverse)
        case atStart => exact ⟨k, E.map (·.2), [], by have := HLEN.out; simpa using this, by omega, rfl, rfl, Chg.refl _ _, HRB5.out, HSZ5.out, by have := HLEN.out; simp; omega, by simp⟩
        case round =>
          obtain ⟨q, A, B, hA, hq, hgg, rfl, hch, hrw, hsz, hln, hfin⟩ := hrel
          have hg3 := Nat.le_of_eq hgg
          have hg4 := Nat.le_of_eq hgg.symm
          have HFIN := Lib.hid hfin
          have HRW := Lib.hid hrw
          have HCH := Lib.hid hch
          have HSZ6 := Lib.hid hsz
          have HLN := Lib.hid hln
          have HA := Lib.hid hA
          clear hfin hrw hch hA hsz hln hgg
          rcases List.eq_nil_or_concat A with rfl | ⟨A', p, rfl⟩
          · obtain rfl : q = 0 := by have := HA.out; simp at this; omega
            go_wp2
            (refine wp_region_lines (Below wr.heap.size wr) (by kernel_rfl) (by kernel_rfl) (Below.refl _ _).drew ?_)
            have hS := (Below.refl wr.heap.size wr).drew
            (try simp only [])
            repeat (first | (refine runL_no (by rfl) ?_; (try simp only [Act.put, List.setIfInBounds_toArray, List.set_cons_zero, List.set_cons_succ])) | (refine runL_val (v := ?_) (by rfl) ?_ ?_; rotate_left; (focus (intro w_ hw_; have hc_ := bcell hw_; go_simp; (try with_reducible rfl); done)); (try simp only [Act.put, List.setIfInBounds_toArray, List.set_cons_zero, List.set_cons_succ])))
            (refine runL_nil ?_)
            have hst := insRev_stop [] x B (fun p' A'' he => by rw [List.concat_eq_append] at he; exact absurd he.symm (by simp))
            rw [HFIN.out] at hst
            have hd' := HDONE.out _ B wr.drew HCH.out.drew HRW.out HSZ6.out.drew hst.symm
            obtain ⟨E', e1, e2, e3, e4, e5⟩ := hd'
            have HE := Lib.hid (And.intro e1 (And.intro e2 (And.intro e3 (And.intro e4 e5))))
            clear hst e1 e2 e3 e4 e5
            go_wp2
            go_roundg (n - (k + 1))
            case measure => omega
            case rel => exact ⟨k + 1, E', by omega, rfl, by go_num, HE.out⟩
          · obtain ⟨q', rfl⟩ : ∃ q', q = q' + 1 := ⟨A'.length, by have := HA.out; simp at this; omega⟩
            have hA' : A'.length = q' := by have := HA.out; simp at this; omega
            have r1 : ((A'.concat p ++ x :: B).map entRow)[q' + 1]? = some (entRow x) := by rw [← hA']; have := row_at (A'.concat p) x B; rw [List.length_concat] at this; exact this
            have r0 : ((A'.concat p ++ x :: B).map entRow)[q']? = some (entRow p) := by rw [← hA']; have := row_at A' p (x :: B); rw [List.concat_eq_append, List.append_assoc]; exact this
            have c0 := HRW.out.cell r0 (j := 0) (by rfl)
            have c1 := HRW.out.cell r0 (j := 1) (by rfl)
            have c2 := HRW.out.cell r0 (j := 2) (by rfl)
            have d0 := HRW.out.cell r1 (j := 0) (by rfl)
            have d1 := HRW.out.cell r1 (j := 1) (by rfl)
            have d2 := HRW.out.cell r1 (j := 2) (by rfl)
            have hgl := HRW.out.lt
            simp only [Nat.add_zero] at c0 d0
            clear r0 r1
            have i0 : (0 : Int) ≤ (q' : Int) + 1 := by omega
            have i1 : (q' : Int) + 1 < (k : Int) + 1 := by omega
            have i2 : (0 : Int) ≤ (q' : Int) := by omega
            have i3 : (q' : Int) < (k : Int) + 1 := by omega
            have i5 : IntKind.i64.wrap (q' : Int) = (q' : Int) := IntWalk.i64_in _ (by omega)
            by_cases hc : x.key < p.key
            · have hd : decide (x.key < p.key) = true := by simpa using hc
              go_wp2
              (refine wp_region_lines (Below wr.heap.size wr) (by kernel_rfl) (by kernel_rfl) (Below.refl _ _).drew ?_)
              have hS := (Below.refl wr.heap.size wr).drew
              (try simp only [])
              repeat (first | (refine runL_no (by rfl) ?_; (try simp only [Act.put, List.setIfInBounds_toArray, List.set_cons_zero, List.set_cons_succ])) | (refine runL_val (v := ?_) (by rfl) ?_ ?_; rotate_left; (focus (intro w_ hw_; have hc_ := bcell hw_; go_simp; (try with_reducible rfl); done)); (try simp only [Act.put, List.setIfInBounds_toArray, List.set_cons_zero, List.set_cons_succ])))
              (refine runL_nil ?_)
              have hrw : RowsBlk wr.drew g 38 3 ((A'.concat p ++ x :: B).map entRow) := HRW.out.keep (hS.block g hgl)
              have HCH1 := Lib.hid HCH.out.drew
              have HSZ7 := Lib.hid HSZ6.out.drew
              replace c0 : wr.drew.cell? ⟨g, q' * 3, none⟩ = _ := c0
              replace c1 : wr.drew.cell? ⟨g, q' * 3 + 1, none⟩ = _ := c1
              replace c2 : wr.drew.cell? ⟨g, q' * 3 + 2, none⟩ = _ := c2
              replace d0 : wr.drew.cell? ⟨g, (q' + 1) * 3, none⟩ = _ := d0
              replace d1 : wr.drew.cell? ⟨g, (q' + 1) * 3 + 1, none⟩ = _ := d1
              replace d2 : wr.drew.cell? ⟨g, (q' + 1) * 3 + 2, none⟩ = _ := d2
              clear HCH HSZ6 HRW hS
              generalize wr.drew = w1 at *
              have f0 := hrw.frozen
              have hlen : ((A'.concat p ++ x :: B).map entRow).length = A'.length + 2 + B.length := by simp; omega
              obtain ⟨_, ⟨t1, k1⟩, ⟨t2, k2⟩⟩ := hrw.mid3 (i := q') (by omega) (.int .u64 x.key) (.slice x.ad x.n x.c)
              have hr2 := hrw.set3 (i := q') (by omega) (.int .u64 x.key) (.slice x.ad x.n x.c) (.bool x.wr)
              obtain ⟨⟨t3, k3⟩, ⟨t4, k4⟩, ⟨t5, k5⟩⟩ := hr2.mid3 (i := q' + 1) (by simp; omega) (.int .u64 p.key) (.slice p.ad p.n p.c)
              have hr3 := hr2.set3 (i := q' + 1) (by simp; omega) (.int .u64 p.key) (.slice p.ad p.n p.c) (.bool p.wr)
              have HR3 := Lib.hid hr3
              have HA' := Lib.hid hA'
              clear hlen hA' hr2 hr3 hrw hd
              go_wp2
              go_region
              go_wp2
              go_roundg q'
              case measure => omega
              case rel => exact ⟨q', A', p :: B, HA'.out, by omega, rfl, by go_num, (((((((HCH1.out.setCell (.inl rfl) _).setCell (.inl rfl) _).setCell (.inl rfl) _).setCell (.inl rfl) _).setCell (.inl rfl) _).setCell (.inl rfl) _).drew), (by rw [← swap_rows2 A' p x B HA'.out]; exact (RowsBlk.drew HR3.out)), (((((((HSZ7.out.setCell _ _).setCell _ _).setCell _ _).setCell _ _).setCell _ _).setCell _ _).drew), by have := HLN.out; simp at this ⊢; omega, by rw [← insRev_step A' p x B hc]; exact HFIN.out⟩
            · have hd : decide (x.key < p.key) = false := by simpa using hc
              clear hA'
              go_wp2
              (refine wp_region_lines (Below wr.heap.size wr) (by kernel_rfl) (by kernel_rfl) (Below.refl _ _).drew ?_)
              have hS := (Below.refl wr.heap.size wr).drew
              (try simp only [])
              repeat (first | (refine runL_no (by rfl) ?_; (try simp only [Act.put, List.setIfInBounds_toArray, List.set_cons_zero, List.set_cons_succ])) | (refine runL_val (v := ?_) (by rfl) ?_ ?_; rotate_left; (focus (intro w_ hw_; have hc_ := bcell hw_; go_simp; (try with_reducible rfl); done)); (try simp only [Act.put, List.setIfInBounds_toArray, List.set_cons_zero, List.set_cons_succ])))
              (refine runL_nil ?_)
              have hst := insRev_stop (A'.concat p) x B (fun p' A'' he => by rw [List.concat_eq_append, List.concat_eq_append] at he; obtain ⟨_, h2⟩ := List.append_inj' he rfl; cases h2; exact hc)
              rw [HFIN.out] at hst
              have hd' := HDONE.out _ B wr.drew HCH.out.drew HRW.out HSZ6.out.drew hst.symm
              obtain ⟨E', e1, e2, e3, e4, e5⟩ := hd'
              have HE := Lib.hid (And.intro e1 (And.intro e2 (And.intro e3 (And.intro e4 e5))))
              clear hst e1 e2 e3 e4 e5
              go_wp2
              go_roundg (n - (k + 1))
              case measure => omega
              case rel => exact ⟨k + 1, E', by omega, rfl, by go_num, HE.out⟩
    · obtain rfl : n = k := by omega
      go_wp2
      go_ret
      have h1 := HFST.out
      have h2 := HN.out
      rw [List.take_of_length_le (by omega)] at h1
      have h3 : (sortBy Reg.base l).length = n := by rw [sortBy_length]; exact h2
      have h4 : E.length = n := by have := congrArg List.length h1; simpa [h3] using this
      have h5 : n ≤ c3 := by
        rcases HROW.out.2 with ⟨h1, h2⟩ | ⟨g', cap', cur, hv, _, _, hh, _⟩
        · omega
        · cases hv; exact hh
      refine ⟨.slice A3 n c3, rfl, ⟨A3, c3, E, by rw [h3], by rw [h3]; exact h5, h1, HOWN.out, HND.out, fun hne => ?_⟩, HBL.out⟩
      have hpos : 0 < n := by rw [← h3]; exact List.length_pos_iff.2 hne
      obtain ⟨g, cap, hv, hg, _, hrb⟩ := rowsBlk_of_own HROW.out (entRows_len E) hpos
      cases hv
      exact ⟨g, rfl, ⟨hg, hrb.lt⟩, hrb⟩
end Go.Proofs.YtmanhikpccnfaaaGreat
