/- keysmithlaw08.StepSeen: for all states, instructions, regions and bytes it returns true: what is seen hangs on registers of places, on flags of jumps, and what a return reads, alone. No condition. -/
import Derived.Test.YtmanhikpccnfaaaGreatBs1
import Derived.Deep.DeepCutAuto
import Derived.Deep.LoopGhost
import Derived.Test.YtmanhikpccnfaaaGreatWordsA
import Derived.Deep.Slices
import Derived.ProofKit
import Derived.Test.YtmanhikpccnfaaaGreatStepDo
import Derived.OpenShut
namespace Go.Proofs.YtmanhikpccnfaaaGreat
open Go.RowKit


set_option maxRecDepth 100000 in
set_option maxHeartbeats 40000000 in
theorem seen_walk (s t : St) (i : Ins) (v : Value) (l : List Reg) (x : Nat) (w : World) (hs : StOk s) (ht : StOk t) (hi : InsOk i) (hl : RegsAt w (fun k => k < w.heap.size) v l) (hn : l.length ≤ 9223372036854775807) (hx : x < 256) :
    Calls Tryz.prog 3 #[.agg (stRow s).toArray, .agg (stRow t).toArray, .agg (insRow i).toArray, v, .int .u8 x] w fun e w' => e = .returned (.bool true) ∧ Below w.heap.size w w' := by
  obtain ⟨A, c, rfl, hlc⟩ := hl.form
  obtain ⟨W, hW, hbW, hzW, kb0, kb1, kb2⟩ := three_boxes w s t i
  have HL0 := Lib.hid (lives_any W)
  have HS := Lib.hid hs
  have HT := Lib.hid ht
  have HI := Lib.hid hi
  have HX := Lib.hid hx
  have HL := Lib.hid (regs_next hl hbW)
  have HL00 := Lib.hid hl
  have HN := Lib.hid hn
  have HW := Lib.hid hW
  have HBW := Lib.hid hbW
  have HZW := Lib.hid hzW
  have KB0 := Lib.hid kb0
  have KB1 := Lib.hid kb1
  have KB2 := Lib.hid kb2
  clear hl hlc hW hbW hzW kb0 kb1 kb2 hs ht hi hx hn
  generalize hln : l.length = n at *
  have HLN := Lib.hid hln
  clear hln
  go_enter Tryz.func3, Tryz.ntmps3
  go_wp2_with fail
  rw [← HW.out]
  refine HL0.out.mono ?_
  rintro e w1 ⟨rfl, hb1⟩
  have HL1 := Lib.hid (regs_next HL.out hb1)
  have HB1 := Lib.hid hb1
  have H1 := Lib.hid (Light_any _ w1 _ l (by rw [HLN.out]; exact HN.out) HL1.out)
  clear hb1 HL0 HL
  cases hlight : lightR l
  · rw [hlight] at H1
    go_wp2_with ((with_reducible refine (H1.out).mono ?_); rintro e w2 ⟨rfl, hb2⟩)
    go_ret
    exact ⟨rfl, HBW.out.trans ((HB1.out.trans (hb2.mono HB1.out.size)).mono HBW.out.size)⟩
  rw [hlight] at H1
  have HLT := Lib.hid (light_len hlight)
  clear hlight
  go_wp2_with fail
  refine H1.out.mono ?_
  rintro e w2 ⟨rfl, hb2⟩
  have HB2 := Lib.hid (HB1.out.trans (hb2.mono HB1.out.size))
  have HL2 := Lib.hid (regs_next HL1.out hb2)
  have KB20 := Lib.hid ((HB2.out.block _ (by have := HZW.out; omega)).trans KB0.out)
  have KB21 := Lib.hid ((HB2.out.block _ (by have := HZW.out; omega)).trans KB1.out)
  have KB22 := Lib.hid ((HB2.out.block _ (by have := HZW.out; omega)).trans KB2.out)
  clear hb2 H1 HL1 HB1 KB0 KB1 KB2
  have y0 : w2.cell? ⟨w.heap.size + 1 + 1, 0, none⟩ = some (.int .i64 i.op) := by simp only [World.cell?, KB22.out]; rfl
  by_cases h33 : i.op = 33
  · have e1 : (i.op == 33) = true := by simpa using h33
    go_wp2_with fail
    go_ret
    exact ⟨rfl, HBW.out.trans (HB2.out.mono HBW.out.size)⟩
  have e1 : (i.op == 33) = false := by simpa using h33
  have H33 := Lib.hid h33
  clear h33
  have HRC := Lib.hid (rCheck_any i w2)
  go_wp2_with ((with_reducible refine wl_id ?_); refine wpList_val_w rfl (exec_load_row 29 _ rfl (w.heap.size + 1 + 1) rfl _ _ _ KB22.out _ Tryz.underlying29 rfl infoIns) ?_)
  refine HRC.out.mono ?_
  rintro e w3 ⟨rfl, hb3⟩
  have HB3 := Lib.hid (HB2.out.trans (hb3.mono HB2.out.size))
  have HL3 := Lib.hid (regs_next HL2.out hb3)
  cases hc : chkP i
  · have e2 : (errOf false != 0) = true := rfl
    go_wp2_with fail
    go_ret
    exact ⟨rfl, HBW.out.trans (HB3.out.mono HBW.out.size)⟩
  have hz : errOf true = 0 := rfl
  rw [hz]
  have hlt2 := HB2.out.size
  have HO3 := Lib.hid (One.refl ((hb3.block _ (by have := HZW.out; omega)).trans KB21.out) HT.out)
  have KS := Lib.hid ((hb3.block _ (by have := HZW.out; omega)).trans KB20.out)
  have KI := Lib.hid ((hb3.block _ (by have := HZW.out; omega)).trans KB22.out)
  have HCK := Lib.hid hc
  clear hb3 hc hz hlt2 HRC y0 e1 HL2 HB2 KB20 KB21 KB22
  have s16 : w3.cell? ⟨w.heap.size, 16, none⟩ = some (.int .u64 s.pc) := by simp only [World.cell?, KS.out]; simpa using stRow_pc HS.out.len
  have s17 : w3.cell? ⟨w.heap.size, 17, none⟩ = some (.bool s.cf) := by simp only [World.cell?, KS.out]; simpa using stRow_cf HS.out
  have s18 : w3.cell? ⟨w.heap.size, 18, none⟩ = some (.bool s.of_) := by simp only [World.cell?, KS.out]; simpa using stRow_of HS.out
  have s19 : w3.cell? ⟨w.heap.size, 19, none⟩ = some (.bool s.zf) := by simp only [World.cell?, KS.out]; simpa using stRow_zf HS.out
  have t16 := HO3.out.cell (stRow_pc HT.out.len)
  have t17 := HO3.out.cell (stRow_cf HT.out)
  have t18 := HO3.out.cell (stRow_of HT.out)
  have t19 := HO3.out.cell (stRow_zf HT.out)
  have f16 := HO3.out.frozen (k := 16)
  have f17 := HO3.out.frozen (k := 17)
  have f18 := HO3.out.frozen (k := 18)
  have f19 := HO3.out.frozen (k := 19)
  go_wp2_with fail
  go_region
  go_upto_region 6 with fail
  refine wp_name ?_
  intro W5 hW5
  have hH := ((((HO3.out.setCell 16 (.int .u64 (s.pc : Nat)) (row_pc HT.out.len) (t' := { t with pc := s.pc }) ⟨HT.out.len, HT.out.regs, HS.out.pc⟩).setCell 17 (.bool s.cf) (row_cf HT.out.len) (t' := { t with pc := s.pc, cf := s.cf }) ⟨HT.out.len, HT.out.regs, HS.out.pc⟩).setCell 18 (.bool s.of_) (row_of HT.out.len) (t' := { t with pc := s.pc, cf := s.cf, of_ := s.of_ }) ⟨HT.out.len, HT.out.regs, HS.out.pc⟩).setCell 19 (.bool s.zf) (row_zf HT.out.len) (t' := { t with pc := s.pc, cf := s.cf, of_ := s.of_, zf := s.zf }) ⟨HT.out.len, HT.out.regs, HS.out.pc⟩).drew.cast hW5
  clear s16 s17 s18 s19 t16 t17 t18 t19 f16 f17 f18 f19 hW5
  obtain ⟨t5, ht5⟩ : ∃ t5 : St, t5 = { t with pc := s.pc, cf := s.cf, of_ := s.of_, zf := s.zf } := ⟨_, rfl⟩
  rw [← ht5] at hH
  have HT5 := Lib.hid ht5
  clear ht5 HO3
  have HO5 := Lib.hid hH
  clear hH
  obtain ⟨B, hB, hB16, hXi⟩ := chk_places HCK.out
  have HBX := Lib.hid (⟨hB, hB16, hXi⟩ : i.base = B ∧ B < 16 ∧ (i.index = -1 ∨ ∃ X : Nat, i.index = X ∧ X < 16))
  clear hB hB16 hXi
  have hsr : ∀ k, k < 16 → ∃ q, s.regs[k]? = some q ∧ q < 18446744073709551616 := fun k hk => by
    have hl := HS.out.len
    have h1 : s.regs[k]? = some s.regs[k] := List.getElem?_eq_getElem (by omega)
    exact ⟨_, h1, HS.out.regs _ (List.mem_of_getElem? h1)⟩
  have HSR := Lib.hid hsr
  clear hsr
  obtain ⟨a4, hq, hq64⟩ := HSR.out 4 (by decide)
  obtain ⟨b0, hb0⟩ : ∃ b, t5.regs[4]? = some b := ⟨_, List.getElem?_eq_getElem (by rw [HO5.out.ok.len]; exact (by decide))⟩
  have y0 := HO5.out.cell (stRow_get hb0)
  have y1 := HO5.out.frozen (k := 4)
  have y2 := HO5.out.far (j := w.heap.size) (k := 4) (by omega) (show w3.cell? ⟨w.heap.size, 4, none⟩ = some (.int .u64 a4) by simp only [World.cell?, KS.out]; simpa using stRow_get hq)
  skip
  skip
  go_upto_region 7 with fail
  refine wp_name ?_
  intro W6 hW
  have hH := (HO5.out.setCell 4 (.int .u64 a4) (stRow_reg t5 4 (by rw [HO5.out.ok.len]; exact (by decide)) a4) ⟨by simp [HO5.out.ok.len], set_lt16 HO5.out.ok.regs 4 hq64, HO5.out.ok.pc⟩).cast hW
  obtain ⟨t6, ht⟩ : ∃ t6 : St, t6 = { t5 with regs := t5.regs.set 4 a4 } := ⟨_, rfl⟩
  rw [← ht] at hH
  have Ht6 := Lib.hid (And.intro ht hq)
  have HO6 := Lib.hid hH
  clear ht hH hW y0 y1 y2 hb0 hq hq64 HO5
  obtain ⟨aB, hq, hq64⟩ := HSR.out B HBX.out.2.1
  obtain ⟨b0, hb0⟩ : ∃ b, t6.regs[B]? = some b := ⟨_, List.getElem?_eq_getElem (by rw [HO6.out.ok.len]; exact HBX.out.2.1)⟩
  have y0 := HO6.out.cell (stRow_get hb0)
  have y1 := HO6.out.frozen (k := B)
  have y2 := HO6.out.far (j := w.heap.size) (k := B) (by omega) (show w3.cell? ⟨w.heap.size, B, none⟩ = some (.int .u64 aB) by simp only [World.cell?, KS.out]; simpa using stRow_get hq)
  (have yi := HO6.out.far (j := w.heap.size + 1 + 1) (k := 4) (by omega) (show w3.cell? ⟨w.heap.size + 1 + 1, 4, none⟩ = some (.int .i64 (B : Nat)) by rw [← HBX.out.1]; simp only [World.cell?, KI.out]; rfl); have i0 : (0 : Int) ≤ (B : Int) := (by omega); have i1 : (B : Int) < 16 := (by have := HBX.out.2.1; omega))
  go_region
  go_upto_region 8 with fail
  refine wp_name ?_
  intro W7 hW
  have hH := (HO6.out.setCell B (.int .u64 aB) (stRow_reg t6 B (by rw [HO6.out.ok.len]; exact HBX.out.2.1) aB) ⟨by simp [HO6.out.ok.len], set_lt16 HO6.out.ok.regs B hq64, HO6.out.ok.pc⟩).drew.cast hW
  obtain ⟨t7, ht⟩ : ∃ t7 : St, t7 = { t6 with regs := t6.regs.set B aB } := ⟨_, rfl⟩
  rw [← ht] at hH
  have Ht7 := Lib.hid (And.intro ht hq)
  have HO7 := Lib.hid hH
  clear ht hH hW y0 y1 y2 hb0 hq hq64 HO6
  have hyi := HO7.out.far (j := w.heap.size + 1 + 1) (k := 5) (by omega) (show w3.cell? ⟨w.heap.size + 1 + 1, 5, none⟩ = some (.int .i64 i.index) by simp only [World.cell?, KI.out]; rfl)
  go_upto_if 72 with fail
  go_cut [] from 73 to 83 (fun wx => ∃ tt, Mid w wx s tt i)
  case first =>
    rcases HBX.out.2.2 with hx1 | ⟨X, hX, hX16⟩
    · have e72 : i.index < 0 := by rw [hx1]; decide
      have HX1 := Lib.hid hx1
      clear hx1 hyi
      go_wp2_with fail
      go_meet
      exact ⟨t7, mid_of HBW.out HB3.out KS.out KI.out HO7.out (like7 HT5.out Ht6.out Ht7.out HT.out.len HBX.out.1 HBX.out.2.1 HX1.out)⟩
    · have e72 : 0 ≤ i.index := by rw [hX]; omega
      have HXX := Lib.hid (And.intro hX hX16)
      clear hX hyi
      obtain ⟨aX, hq, hq64⟩ := HSR.out X hX16
      obtain ⟨b0, hb0⟩ : ∃ b, t7.regs[X]? = some b := ⟨_, List.getElem?_eq_getElem (by rw [HO7.out.ok.len]; exact hX16)⟩
      have y0 := HO7.out.cell (stRow_get hb0)
      have y1 := HO7.out.frozen (k := X)
      have y2 := HO7.out.far (j := w.heap.size) (k := X) (by omega) (show w3.cell? ⟨w.heap.size, X, none⟩ = some (.int .u64 aX) by simp only [World.cell?, KS.out]; simpa using stRow_get hq)
      have yi := HO7.out.far (j := w.heap.size + 1 + 1) (k := 5) (by omega) (show w3.cell? ⟨w.heap.size + 1 + 1, 5, none⟩ = some (.int .i64 (X : Nat)) by rw [← HXX.out.1]; simp only [World.cell?, KI.out]; rfl)
      have HQ := Lib.hid (And.intro hq hq64)
      clear hq hq64 hb0
      have i0 : (0 : Int) ≤ (X : Int) := by omega
      have i1 : (X : Int) < 16 := by omega
      go_wp2_with fail
      go_region
      go_wp2_with fail
      go_meet
      exact ⟨_, mid_of HBW.out HB3.out KS.out KI.out (HO7.out.setCell X (.int .u64 aX) (stRow_reg t7 X (by rw [HO7.out.ok.len]; exact HXX.out.2) aX) ⟨by simp [HO7.out.ok.len], set_lt16 HO7.out.ok.regs X HQ.out.2, HO7.out.ok.pc⟩).drew (like8 HT5.out Ht6.out Ht7.out ⟨rfl, HQ.out.1⟩ HT.out.len HBX.out.1 HBX.out.2.1 HXX.out.1 HXX.out.2)⟩
  case rest =>
  obtain ⟨tt, hmid⟩ := hcut
  obtain ⟨wM, rfl⟩ : ∃ q : World, q = wc := ⟨_, rfl⟩
  have HMID := Lib.hid hmid
  have HRM := Lib.hid (HL00.out.below hmid.below (fun _ hk => hk))
  clear hmid HO7 Ht7 Ht6 HT5 HBX HSR KS KI HB3 HL3 HL00 HBW HZW HW
  have hsz0 := HMID.out.below.size
  have HOR := Lib.hid (OwnRegions_any _ wM _ l HRM.out (fun k hk => Nat.lt_of_lt_of_le hk hsz0) (by have := HLT.out.1; omega) (fun r hr => by have := HLT.out.2 r hr; omega))
  clear hsz0
  go_wp2_with fail
  refine HOR.out.mono ?_
  rintro e wA ⟨vo, rfl, ho, hbA⟩
  obtain ⟨Ao, co, hv⟩ : ∃ Ao co, vo = .slice Ao l.length co := by
    obtain ⟨Ao, co, _, h, _⟩ := ho
    exact ⟨Ao, co, h⟩
  rw [HLN.out] at hv
  subst hv
  have HBA := Lib.hid hbA
  have HO := Lib.hid ho
  clear hbA ho HOR
  go_wp2
  have hn10 : n ≤ 10 := by have := HLT.out.1; rw [HLN.out] at this; exact this
  go_loopg [12] n (fun g i_ wx => ∃ (k : Nat) (rs2 : List Reg), k ≤ n ∧ g = n - k ∧ i_ = .int .i64 k ∧ rs2.length = n ∧ rs2.map shR = l.map shR ∧ RegsOwn wx (seg wM.heap.size wA.heap.size) (.slice Ao n co) rs2 ∧ Chg (seg wM.heap.size wA.heap.size) wA wx)
  case atStart => exact ⟨0, l, by omega, rfl, rfl, HLN.out, rfl, HO.out, Chg.refl _ _⟩
  case round =>
    obtain ⟨k, rs2, hk, hg, rfl, hl2, hb2, hown, hch⟩ := hrel
    have hg1 := Nat.le_of_eq hg
    have hg2 := Nat.le_of_eq hg.symm
    have HL2 := Lib.hid hl2
    have HSH2 := Lib.hid hb2
    have HOWN := Lib.hid hown
    have HCH := Lib.hid hch
    clear hg hl2 hb2 hown hch HO
    by_cases hkn : k < n
    · have i0 : (0 : Int) ≤ (k : Int) := by omega
      have i1 : (k : Int) < (n : Int) := by omega
      go_wp2
      obtain ⟨wo, rfl⟩ : ∃ wo : World, wo = wr := ⟨_, rfl⟩
      obtain ⟨r, hr⟩ : ∃ r, rs2[k]? = some r := ⟨_, List.getElem?_eq_getElem (by have := HL2.out; omega)⟩
      have hm : r.bytes.length ≤ 300 := by
        obtain ⟨r0, h0, _, e⟩ := sh_mem HSH2.out (List.mem_of_getElem? hr)
        rw [e]; exact HLT.out.2 r0 h0
      have HR0 := Lib.hid hr
      clear hr
      generalize hmm : r.bytes.length = m at *
      have HM := Lib.hid hmm
      clear hmm
      go_loopg [13] m (fun g i_ wx => ∃ (q : Nat) (rs3 : List Reg) (r3 : Reg), q ≤ m ∧ g = m - q ∧ i_ = .int .i64 q ∧ rs3.length = n ∧ rs3.map shR = l.map shR ∧ rs3[k]? = some r3 ∧ r3.bytes.length = m ∧ RegsOwn wx (seg wM.heap.size wA.heap.size) (.slice Ao n co) rs3 ∧ Chg (seg wM.heap.size wA.heap.size) wA wx)
      case atStart => exact ⟨0, rs2, r, by omega, rfl, rfl, HL2.out, HSH2.out, HR0.out, HM.out, HOWN.out, HCH.out⟩
      case round =>
        obtain ⟨q, rs3, r3, hq, hg, rfl, hl3, hb3, hr3, hm3, hown, hch⟩ := hrel
        have hg3 := Nat.le_of_eq hg
        have hg4 := Nat.le_of_eq hg.symm
        obtain ⟨g0, bb, cc, rfl, hFg, hFb, hgl, hbl, _, c1, _, hcc, hrow⟩ := hown.ent hr3
        rw [hm3] at c1
        have HL3 := Lib.hid hl3
        have HSH3 := Lib.hid hb3
        have HR3 := Lib.hid hr3
        have HM3 := Lib.hid hm3
        have HOWN3 := Lib.hid hown
        have HCH3 := Lib.hid hch
        have HROW := Lib.hid hrow
        clear hg hl3 hb3 hr3 hm3 hown hch hrow hcc
        by_cases hqm : q < m
        · obtain ⟨y, hy⟩ : ∃ y, r3.bytes[q]? = some y := ⟨_, List.getElem?_eq_getElem (by have := HM3.out; omega)⟩
          have hx : (byteRows r3.bytes)[q]? = some [byteV y] := by rw [byteRows, List.getElem?_map, hy]; rfl
          have c2 := HROW.out.cell hx (j := 0) (by rfl)
          simp only [Nat.mul_one, Nat.add_zero, byteV] at c2
          have f2 := HROW.out.frozen q
          have HNEXT := Lib.hid (HOWN3.out.put1 HR3.out rfl c1 HROW.out (by have := HM3.out; omega : q < r3.bytes.length) (UInt8.ofNat (y.toNat + x)))
          have j0 : (0 : Int) ≤ (q : Int) := by omega
          have j1 : (q : Int) < (m : Int) := by omega
          clear hx hy
          go_wp2
          go_region
          go_wp2
          go_roundg (m - (q + 1))
          case measure => omega
          case rel =>
            have hkl : k < rs3.length := by have := HL3.out; omega
            refine ⟨q + 1, rs3.set k { r3 with bytes := r3.bytes.set q (UInt8.ofNat (y.toNat + x)) }, { r3 with bytes := r3.bytes.set q (UInt8.ofNat (y.toNat + x)) }, by omega, rfl, by go_num, by rw [List.length_set]; exact HL3.out, (sh_set HR3.out _).trans HSH3.out, by rw [List.getElem?_set_self hkl], by simp only [List.length_set]; exact HM3.out, (RegsOwn.val8 HNEXT.out ?_).drew_, (HCH3.out.setCell (.inl hFb) _).drew⟩
            simp
        · obtain rfl : q = m := by omega
          go_wp2
          go_roundg (n - (k + 1))
          case measure => omega
          case rel => exact ⟨k + 1, rs3, by omega, rfl, by go_num, HL3.out, HSH3.out, HOWN3.out, HCH3.out⟩
    · obtain rfl : k = n := by omega
      clear i0 i1 hkn
      have HBr := Lib.hid (HBA.out.trans (HCH.out.below (fun k hk h' => by have := h'.1; omega) HBA.out.size) : Below wM.heap.size wM wr)
      have hrl := (HRM.out.below HBr.out (fun k hk => Nat.lt_of_lt_of_le hk HMID.out.below.size))
      have hsz1 : w.heap.size ≤ wr.heap.size := Nat.le_trans HMID.out.below.size HBr.out.size
      have HN1 := Lib.hid (New_any _ wr _ l (by rw [HLN.out]; exact HN.out) hrl (fun k hk => Nat.lt_of_lt_of_le hk hsz1))
      have hbase := regs_base hrl
      have hro : RegsAt wr (seg wM.heap.size wA.heap.size) (.slice Ao k co) rs2 := HOWN.out.at_ fun r hr => by
        obtain ⟨r0, h0, e1, e2⟩ := sh_mem HSH2.out hr
        have := HLT.out.2 r0 h0
        exact ⟨by rw [e1]; exact hbase r0 h0, by omega⟩
      have HRO := Lib.hid hro
      have HSA := Lib.hid HCH.out.size
      clear hrl hsz1 hbase hro HCH HOWN
      go_wp2_with fail
      refine HN1.out.mono ?_
      rintro e w3 ⟨hb3, hres⟩
      obtain ⟨p, ce, rfl, hce⟩ : ∃ (p : Value) (ce : Int), e = .returned (.tuple #[p, .int .i64 ce]) ∧ (ce = 0 → MemAt w3 (seg wr.heap.size w3.heap.size) p (sortBy Reg.base l)) := by
        rcases hres with ⟨h0, rfl⟩ | ⟨h0, p, rfl, hm⟩
        · exact ⟨_, _, rfl, fun h => absurd h h0⟩
        · exact ⟨_, _, rfl, fun _ => hm⟩
      have HCE := Lib.hid hce
      have HB3 := Lib.hid hb3
      have HN2 := Lib.hid (New_any _ w3 _ rs2 (by rw [HL2.out]; exact HN.out) (HRO.out.below hb3 (fun k hk => Nat.lt_of_lt_of_le hk.2 HSA.out)) (fun k hk => Nat.lt_of_lt_of_le hk.2 (Nat.le_trans HSA.out hb3.size)))
      clear hres hce hb3 HN1 HRO
      go_wp2_with fail
      refine HN2.out.mono ?_
      rintro e w4 ⟨hb4, hres⟩
      obtain ⟨p2, cf, rfl, hcf⟩ : ∃ (p : Value) (ce : Int), e = .returned (.tuple #[p, .int .i64 ce]) ∧ (ce = 0 → MemAt w4 (seg w3.heap.size w4.heap.size) p (sortBy Reg.base rs2)) := by
        rcases hres with ⟨h0, rfl⟩ | ⟨h0, p, rfl, hm⟩
        · exact ⟨_, _, rfl, fun h => absurd h h0⟩
        · exact ⟨_, _, rfl, fun _ => hm⟩
      have HCF := Lib.hid hcf
      have HB4 := Lib.hid hb4
      have HB4M := Lib.hid (HBr.out.trans ((HB3.out.trans (hb4.mono HB3.out.size)).mono HBr.out.size))
      have HB4W := Lib.hid (HMID.out.below.trans (HB4M.out.mono HMID.out.below.size))
      clear hres hcf hb4 HN2
      by_cases hc0 : ce = 0
      · by_cases hf0 : cf = 0
        · subst hc0
          subst hf0
          have hm1 := HCE.out rfl
          have hm2 := HCF.out rfl
          obtain ⟨bm1, rfl⟩ : ∃ bm, p = .pointer (some ⟨bm, 0, none⟩) := by obtain ⟨bm, v, h, _⟩ := hm1; exact ⟨bm, h⟩
          obtain ⟨bm2, rfl⟩ : ∃ bm, p2 = .pointer (some ⟨bm, 0, none⟩) := by obtain ⟨bm, v, h, _⟩ := hm2; exact ⟨bm, h⟩
          have HSHS := Lib.hid (sort_sh HSH2.out)
          generalize sortBy Reg.base l = rs at *
          generalize sortBy Reg.base rs2 = qs at *
          have hlt : w.heap.size + 1 + 1 < wM.heap.size := lt_of_block HMID.out.b2
          have hsz : wM.heap.size ≤ wr.heap.size ∧ wr.heap.size ≤ w3.heap.size ∧ w3.heap.size ≤ w4.heap.size := ⟨HBr.out.size, HB3.out.size, HB4.out.size⟩
          have HSZ := Lib.hid (And.intro hlt hsz)
          have hH : Held2 w w4 w4 (seg wr.heap.size w3.heap.size) (fun k => k = w.heap.size + 1 + 1 ∨ seg w3.heap.size w4.heap.size k) (.pointer (some ⟨bm1, 0, none⟩)) rs [(w.heap.size, s), (w.heap.size + 1, tt)] [] := by
            obtain ⟨z1, z2, z3⟩ := hsz
            refine ⟨⟨HB4W.out, hm1.keep (SameOn.of_below HB4.out fun k hk => hk.2), fun k hk => by have := hk.2; omega, fun k hk => by have := hk.1; omega, by simp, fun y hy => ?_, by simp⟩, fun k hk => ⟨rfl, ?_, ?_, ?_⟩, by simp⟩
            · rcases List.mem_cons.1 hy with rfl | hy
              · exact ⟨(HB4M.out.block _ (by simp only; omega)).trans HMID.out.b0, HS.out, fun h => by have := h.1; simp only at this; omega, Nat.le_refl _⟩
              · simp only [List.mem_singleton] at hy
                subst hy
                exact ⟨(HB4M.out.block _ (by simp only; omega)).trans HMID.out.b1, HMID.out.ok, fun h => by have := h.1; simp only at this; omega, Nat.le_add_right _ _⟩
            · rcases hk with rfl | hk
              · omega
              · exact hk.2
            · intro hF
              have h1 := hF.1
              have h2 := hF.2
              rcases hk with rfl | hk
              · omega
              · have := hk.1; omega
            · intro y hy
              rcases List.mem_cons.1 hy with rfl | hy
              · rcases hk with rfl | hk
                · simp only; omega
                · have := hk.1; simp only; omega
              · simp only [List.mem_singleton] at hy
                subst hy
                rcases hk with rfl | hk
                · simp only; omega
                · have := hk.1; simp only; omega
          have H := Lib.hid hH
          have KI := Lib.hid ((HB4M.out.block _ hlt).trans HMID.out.b2)
          have HM2 := Lib.hid hm2
          have HLK := Lib.hid HMID.out.like
          have HTT := Lib.hid HMID.out.ok
          clear hm1 hm2 hsz hH hlt HCE HCF HB4 HB3 HBr HB4M HB4W HMID HSH2 HSA HBA HRM
          go_upto_region 22 with fail
          refine wp_code (c := seenR22) (by kernel_rfl) ?_
          refine seen_tail s tt i w w4 _ _ bm1 bm2 rs qs _ _ _ _ _ _ _ _ _ _ _ _ _ _ _ _ _ _ _ _ _ _ _ _ _ _ _ _ _ _ _ _ _ _ _ _ _ _ _ _ _ _ _ _ _ _ _ _ _ _ _ _ _ _ _ _ _ _ _ _ _ _ _ _ _ _ _ _ _ _ _ _ _ _ _ _ _ _ _ _ _ _ _ _ _ _ _ _ _ _ _ _ _ _ _ _ _ _ _ _ _ _ _ _ _ _ _ _ _ _ _ _ _ _ _ _ _ _ _ _ _ _ _ _ _ _ _ _ _ _ _ _ _ _ _ _ _ _ _ _ _ _ _ _ _ _ _ _ _ _ _ _ _ _ _ _ _ _ _ _ _ _ _ _ _ _ _ _ _ _ _ _ _ _ _ _ _ _ _ _ _ _ _ _ _ _ _ _ _ _ _ _ _ _ _ _ _ _ _ _ _ _ _ _ _ _ _ _ _ _ _ _ _ _ _ _ _ _ _ _ _ _ _ _ _ _ _ _ _ _ _ _ _ (fun a_ w_ h_ => (‹∀ (a : Act) (w : World), Code.wp _ _ _ a w → _› : _) a_ w_ (wp_code (by kernel_rfl) h_)) (Nat.lt_of_lt_of_le HSZ.out.1 HSZ.out.2.1) HSZ.out.2.2.1 HSZ.out.2.2.2 H.out KI.out HM2.out HLK.out HSHS.out HS.out HTT.out HI.out HCK.out H33.out
        · have e1 : (cf != 0) = true := by simpa using hf0
          subst hc0
          clear hf0
          go_wp2
          go_ret
          exact ⟨rfl, HB4W.out⟩
      · have e1 : (ce != 0) = true := by simpa using hc0
        clear hc0
        go_wp2
        go_ret
        exact ⟨rfl, HB4W.out⟩
end Go.Proofs.YtmanhikpccnfaaaGreat

/- An argument of type []Region, opened. -/
namespace Go.Proofs.YtmanhikpccnfaaaGreat
open Go.ChangeShapes Go.WideShapes Go.Deep Go.RowKit

theorem list_of_all {α : Type} (Q : Nat → α → Prop) : ∀ n, (∀ i, i < n → ∃ x, Q i x) → ∃ L : List α, L.length = n ∧ ∀ (i : Nat) (x : α), L[i]? = some x → Q i x
  | 0, _ => ⟨[], rfl, fun i x h => by simp at h⟩
  | n + 1, h => by
    obtain ⟨L, hl, hq⟩ := list_of_all Q n (fun i hi => h i (by omega))
    obtain ⟨x, hx⟩ := h n (by omega)
    refine ⟨L ++ [x], by simp [hl], fun i y hy => ?_⟩
    rcases Nat.lt_or_ge i n with hi | hi
    · rw [List.getElem?_append_left (by omega)] at hy; exact hq i y hy
    · rw [List.getElem?_append_right (by omega)] at hy
      have : i - L.length = 0 := by
        rcases Nat.eq_zero_or_pos (i - L.length) with h | h
        · exact h
        · rw [List.getElem?_eq_none (by simp; omega)] at hy; cases hy
      rw [this] at hy
      simp at hy
      subst hy
      rw [show i = n from by omega]; exact hx

theorem plain_addr {w : World} {a : Addr} {k : Nat} {v : Value} (h : w.cell? (a.add k) = some v) (h0 : ∃ u, w.cell? a = some u) : a = ⟨a.block, a.off, none⟩ ∧ a.block < w.heap.size ∧ a.add k = ⟨a.block, a.off + k, none⟩ := by
  obtain ⟨u, hu⟩ := h0
  have hb := World.block_lt_of_cell? w a hu
  have hs : a.spot = none := by
    cases hsp : a.spot with
    | none => rfl
    | some s =>
      unfold World.cell? at hu
      split at hu
      · simp [hsp] at hu
      · cases hu
  have ha : a = ⟨a.block, a.off, none⟩ := by cases a; simp_all
  refine ⟨ha, hb, ?_⟩
  unfold Addr.add
  split
  · rename_i hk; subst hk; simpa using ha
  · rfl

section
variable {H : Type} {enc : TypeId × Value → H} {w : World}

theorem open_bytes {fuel : Nat} {v : Value} {x : DataW H × List MemPlace} (h : DataW.trod enc Tryz.prog w 0 (fun _ => true) true fuel 36 [v] = some x) :
    ∃ A n c l, v = .slice A n c ∧ l.length = n ∧ n ≤ 9223372036854775807 ∧ BytesAt w (fun k => k < w.heap.size) (.slice A n c) l := by
  rcases open_ints Tryz.underlying36 Tryz.underlying5 (by kernel_rfl) h with ⟨hcs, _⟩ | ⟨a, len, cap, zs, hcs, _, hl, hm, hz, _, hcell, hwf⟩
  · cases hcs
    exact ⟨none, 0, 0, [], rfl, rfl, by omega, ⟨none, 0, by simp, by simp, by simp, fun h => absurd rfl h⟩⟩
  · cases hcs
    simp only [if_true] at hz
    refine ⟨some a, len, cap, (zs.take len).map fun z => UInt8.ofNat z.toNat, rfl, by simp; omega, by unfold maxLen at hm; omega, ⟨some a, cap, by simp; omega, by simp; omega, fun r hr => ?_, fun hne => ?_⟩⟩
    · obtain ⟨x, _, rfl⟩ := List.mem_map.1 hr; rfl
    · have hlen : 0 < len := by
        rcases Nat.eq_zero_or_pos len with h0 | h0
        · subst h0; simp at hne
        · exact h0
      have h0 := hcell 0 (by omega)
      have h00 : ∃ u, w.cell? a = some u := ⟨_, by simpa [Addr.add] using h0⟩
      obtain ⟨ha, hb, _⟩ := plain_addr h0 h00
      refine ⟨a.block, a.off, by rw [← ha], hb, fun i j r u hr hu => ?_⟩
      rw [List.getElem?_map, List.getElem?_map] at hr
      cases hzi : (zs.take len)[i]? with
      | none => rw [hzi] at hr; cases hr
      | some z =>
        rw [hzi] at hr
        cases hr
        cases j with
        | succ j => simp at hu
        | zero =>
          simp at hu
          subst hu
          rw [List.getElem?_take] at hzi
          split at hzi
          · rename_i hlt
            have hzl : i < zs.length := (List.getElem?_eq_some_iff.1 hzi).1
            have hc := hcell i hzl
            obtain ⟨_, _, hadd⟩ := plain_addr hc h00
            rw [hadd] at hc
            have hzd : zs.getD i 0 = z := by simp [List.getD, hzi]
            rw [hzd] at hc
            have hw := hwf z (List.mem_of_getElem? hzi)
            have hbd : 0 ≤ z ∧ z ≤ 255 := by simpa [Lit.wf, IntKind.min, IntKind.max, IntKind.bits, IntKind.signed] using hw
            have : byteV (UInt8.ofNat z.toNat) = .int .u8 z := by
              unfold byteV
              congr 1
              simp only [UInt8.toNat_ofNat']
              omega
            rw [this]
            simpa using hc
          · cases hzi

set_option maxRecDepth 100000 in
theorem open_regs {A : Option Addr} {n c : Nat} {d : DataW H} {ps : List MemPlace} (h : DataW.Trod enc Tryz.prog w 0 (fun _ => true) true 30 (.slice A n c) d ps) :
    ∃ l : List Reg, RegsAt w (fun k => k < w.heap.size) (.slice A n c) l ∧ l.length ≤ 9223372036854775807 := by
  obtain ⟨fuel, hf⟩ := h
  rcases open_slice Tryz.underlying30 hf with ⟨hcs, _⟩ | ⟨a, len, cap, m, q, D, Pl, hcs, _, hl, hm, hmm, _, hi⟩
  · simp [Value.cells] at hcs
    obtain ⟨rfl, rfl, rfl⟩ := hcs
    exact ⟨[], ⟨[], rfl, ⟨none, 0, rfl, by simp, by simp, fun h => absurd rfl h⟩, by simp⟩, by simp⟩
  · simp [Value.cells] at hcs
    obtain ⟨rfl, rfl, rfl⟩ := hcs
    simp only [if_true] at hmm
    have hC : Tryz.prog.cellsOf 38 = 3 := by kernel_rfl
    have each : ∀ i, i < n → ∃ x : Reg × Ent, EntSrc w (fun k => k < w.heap.size) x.1 x.2 ∧ ∀ (j : Nat) (u : Value), (entRow x.2)[j]? = some u → w.cell? (a.add (i * 3 + j)) = some u := fun i hin => by
      obtain ⟨cs', hc, ht⟩ := hi i (by omega)
      rw [hC] at hc
      obtain ⟨xs, f, _, _, hlen, hxl, hfs⟩ := DataW.trod_struct Tryz.underlying38 ht
      rw [hC] at hlen
      obtain ⟨_, _, hat⟩ := World.cells?_some hc
      match cs', hlen with
      | [c0, c1, c2], _ =>
        match xs, hxl with
        | [y0, y1, y2], _ =>
          have t0 : DataW.trod enc Tryz.prog w 0 (fun _ => true) true f 22 (([c0, c1, c2].drop 0).take (Tryz.prog.cellsOf 22)) = some y0 := hfs 0 _ rfl
          have t1 : DataW.trod enc Tryz.prog w 0 (fun _ => true) true f 36 (([c0, c1, c2].drop 1).take (Tryz.prog.cellsOf 36)) = some y1 := hfs 1 _ rfl
          have t2 : DataW.trod enc Tryz.prog w 0 (fun _ => true) true f 4 (([c0, c1, c2].drop 2).take (Tryz.prog.cellsOf 4)) = some y2 := hfs 2 _ rfl
          have k0 : Tryz.prog.cellsOf 22 = 1 := by kernel_rfl
          have k1 : Tryz.prog.cellsOf 36 = 1 := by kernel_rfl
          have k2 : Tryz.prog.cellsOf 4 = 1 := by kernel_rfl
          rw [k0] at t0
          rw [k1] at t1
          rw [k2] at t2
          simp only [List.drop_zero, List.drop_succ_cons, List.take_succ_cons, List.take_zero] at t0 t1 t2
          obtain ⟨z, hz, _, hwf⟩ := DataW.trod_int Tryz.underlying22 t0
          obtain ⟨b, hb, _⟩ := DataW.trod_bool Tryz.underlying4 t2
          obtain ⟨A', n', c', l, hv, hln, hmx, hby⟩ := open_bytes t1
          cases hz
          cases hb
          subst hv
          have hzb : 0 ≤ z ∧ z ≤ 18446744073709551615 := by simpa [Lit.wf, IntKind.min, IntKind.max, IntKind.bits, IntKind.signed] using hwf
          refine ⟨(⟨z.toNat, l, b⟩, ⟨z.toNat, A', n', c', b⟩), ⟨rfl, hln.symm, rfl, hby, by show z.toNat < _; omega, by show l.length ≤ _; omega⟩, fun j u hu => ?_⟩
          have hz2 : ((z.toNat : Nat) : Int) = z := by omega
          simp only [entRow, hz2] at hu
          have hj : j < 3 := by
            rcases Nat.lt_or_ge j 3 with h | h
            · exact h
            · rw [List.getElem?_eq_none (by simpa using h)] at hu; cases hu
          have := hat j (by simpa using hj)
          rw [← add_add, this, hu]
    obtain ⟨P, hPl, hP⟩ := list_of_all _ n each
    refine ⟨P.map (·.1), ⟨P, rfl, ⟨some a, c, by simp [hPl], by simp [hPl]; omega, fun r hr => by obtain ⟨x, _, rfl⟩ := List.mem_map.1 hr; rfl, fun hne => ?_⟩, fun x hx => ?_⟩, by simp [hPl]; unfold maxLen at hm; omega⟩
    · have hpos : 0 < P.length := by
        cases P with
        | nil => simp at hne
        | cons => simp
      have hp0 := (hP 0 P[0] (List.getElem?_eq_getElem hpos)).2 0 _ rfl
      have h00 : ∃ u, w.cell? a = some u := ⟨_, by simpa [Addr.add] using hp0⟩
      obtain ⟨ha, hb, _⟩ := plain_addr hp0 h00
      refine ⟨a.block, a.off, by rw [← ha], hb, fun i j r u hr hu => ?_⟩
      rw [List.getElem?_map] at hr
      cases hpi : P[i]? with
      | none => rw [hpi] at hr; cases hr
      | some x =>
        rw [hpi] at hr
        cases hr
        have hc := (hP i x hpi).2 j u hu
        obtain ⟨_, _, hadd⟩ := plain_addr hc h00
        rw [hadd] at hc
        rw [show a.off + i * 3 + j = a.off + (i * 3 + j) from by omega]
        exact hc
    · obtain ⟨i, hi⟩ := List.mem_iff_getElem?.1 hx
      exact (hP i x hi).1
end
end Go.Proofs.YtmanhikpccnfaaaGreat

/- Arguments of type State and Inst, opened. -/
namespace Go.Proofs.YtmanhikpccnfaaaGreat
open Go.ChangeShapes Go.WideShapes Go.Deep Go.RowKit

section
variable {H : Type} {enc : TypeId × Value → H} {w : World} {P : Program} {base : Nat} {spare : Nat → Bool} {held : Bool}
theorem trod_array {t e : TypeId} {n fuel : Nat} {cs : List Value} {x : DataW H × List MemPlace} (ht : P.underlying t = some (.array n e)) (h : DataW.trod enc P w base spare held fuel t cs = some x) :
    ∃ m, cs.length = P.cellsOf t ∧ ∀ i, i < n → ∃ y, DataW.trod enc P w base spare held m e ((cs.drop (i * P.cellsOf e)).take (P.cellsOf e)) = some y := by
  cases fuel with
  | zero => simp [DataW.trod] at h
  | succ m =>
    unfold DataW.trod at h
    rw [ht] at h
    split at h <;> simp_all
    obtain ⟨hl, xs, hp, hd⟩ := h
    refine ⟨m, fun i hi => ?_⟩
    have hx := mapM_some_get hp i i (by simp [hi])
    have hlen := mapM_some_length hp
    simp only [List.length_range] at hlen
    rw [List.getElem?_eq_getElem (by omega)] at hx
    exact ⟨_, _, hx⟩
theorem one_at {L : List Value} {k : Nat} {v : Value} (h : (L.drop k).take 1 = [v]) : L[k]? = some v := by
  have h1 : ((L.drop k).take 1)[0]? = some v := by rw [h]; rfl
  rw [List.getElem?_take_of_lt (by decide), List.getElem?_drop] at h1
  exact h1
end
section
variable {H : Type} {enc : TypeId × Value → H} {w : World}
theorem open_u64 {f k : Nat} {L : List Value} {y : DataW H × List MemPlace} (h : DataW.trod enc Tryz.prog w 0 (fun _ => true) true f 22 ((L.drop k).take 1) = some y) : ∃ n : Nat, L[k]? = some (.int .u64 n) ∧ n < 18446744073709551616 := by
  obtain ⟨z, hz, _, hw⟩ := DataW.trod_int Tryz.underlying22 h
  have hb : 0 ≤ z ∧ z ≤ 18446744073709551615 := by simpa [Lit.wf, IntKind.min, IntKind.max, IntKind.bits, IntKind.signed] using hw
  obtain ⟨n, rfl⟩ : ∃ n : Nat, z = n := ⟨z.toNat, by omega⟩
  exact ⟨n, one_at hz, by omega⟩
theorem open_b {f k : Nat} {L : List Value} {y : DataW H × List MemPlace} (h : DataW.trod enc Tryz.prog w 0 (fun _ => true) true f 4 ((L.drop k).take 1) = some y) : ∃ b, L[k]? = some (.bool b) := by
  obtain ⟨b, hz, _⟩ := DataW.trod_bool Tryz.underlying4 h
  exact ⟨b, one_at hz⟩
theorem open_i {f k : Nat} {L : List Value} {y : DataW H × List MemPlace} {t : TypeId} (ht : Tryz.prog.underlying t = some (.int .i64)) (h : DataW.trod enc Tryz.prog w 0 (fun _ => true) true f t ((L.drop k).take 1) = some y) : ∃ z : Int, L[k]? = some (.int .i64 z) ∧ -9223372036854775808 ≤ z ∧ z ≤ 9223372036854775807 := by
  obtain ⟨z, hz, _, hw⟩ := DataW.trod_int ht h
  have hb : -9223372036854775808 ≤ z ∧ z ≤ 9223372036854775807 := by simpa [Lit.wf, IntKind.min, IntKind.max, IntKind.bits, IntKind.signed] using hw
  exact ⟨z, one_at hz, hb⟩
theorem st_get {R : List Nat} {pc : Nat} {a b c : Bool} (hR : R.length = 16) {L : List Value} (hL : L.length = 20) (h : ∀ (i : Nat) (n : Nat), R[i]? = some n → L[i]? = some (.int .u64 n)) (h16 : L[16]? = some (.int .u64 pc)) (h17 : L[17]? = some (.bool a)) (h18 : L[18]? = some (.bool b)) (h19 : L[19]? = some (.bool c)) :
    L = stRow ⟨R, pc, a, b, c⟩ := by
  apply List.ext_getElem?
  intro i
  rw [stRow]
  by_cases hi : i < 16
  · have hg : R[i]? = some R[i] := List.getElem?_eq_getElem (by omega)
    rw [h i _ hg, List.getElem?_append_left (by simpa [hR] using hi), List.getElem?_map, hg]
    rfl
  · rw [List.getElem?_append_right (by simp [hR]; omega)]
    simp only [List.length_map, hR]
    by_cases h20 : i < 20
    · obtain rfl | rfl | rfl | rfl : i = 16 ∨ i = 17 ∨ i = 18 ∨ i = 19 := by omega
      · rw [h16]; rfl
      · rw [h17]; rfl
      · rw [h18]; rfl
      · rw [h19]; rfl
    · rw [List.getElem?_eq_none (by omega), List.getElem?_eq_none (by simp; omega)]

set_option maxRecDepth 100000 in
theorem open_st {cs : Array Value} {d : DataW H} {ps : List MemPlace} (h : DataW.Trod enc Tryz.prog w 0 (fun _ => true) true 25 (.agg cs) d ps) : ∃ s : St, cs = (stRow s).toArray ∧ StOk s := by
  obtain ⟨fuel, hf⟩ := h
  obtain ⟨xs, f, _, _, hlen, hxl, hfs⟩ := DataW.trod_struct Tryz.underlying25 hf
  rw [show Tryz.prog.cellsOf 25 = 20 by kernel_rfl] at hlen
  have hcs : (Value.agg cs).cells.toList = cs.toList := rfl
  rw [hcs] at hlen hfs
  generalize hL : cs.toList = L at *
  match xs, hxl with
  | [y0, y1, y2, y3, y4], _ =>
    have k1 : Tryz.prog.cellsOf 22 = 1 := by kernel_rfl
    have kb : Tryz.prog.cellsOf 4 = 1 := by kernel_rfl
    have kr : Tryz.prog.cellsOf 23 = 16 := by kernel_rfl
    have t0 : DataW.trod enc Tryz.prog w 0 (fun _ => true) true f 23 ((L.drop 0).take (Tryz.prog.cellsOf 23)) = some y0 := hfs 0 _ rfl
    have t1 : DataW.trod enc Tryz.prog w 0 (fun _ => true) true f 22 ((L.drop 16).take (Tryz.prog.cellsOf 22)) = some y1 := hfs 1 _ rfl
    have t2 : DataW.trod enc Tryz.prog w 0 (fun _ => true) true f 4 ((L.drop 17).take (Tryz.prog.cellsOf 4)) = some y2 := hfs 2 _ rfl
    have t3 : DataW.trod enc Tryz.prog w 0 (fun _ => true) true f 4 ((L.drop 18).take (Tryz.prog.cellsOf 4)) = some y3 := hfs 3 _ rfl
    have t4 : DataW.trod enc Tryz.prog w 0 (fun _ => true) true f 4 ((L.drop 19).take (Tryz.prog.cellsOf 4)) = some y4 := hfs 4 _ rfl
    rw [k1] at t1
    rw [kb] at t2 t3 t4
    rw [kr, List.drop_zero] at t0
    obtain ⟨m, _, ha⟩ := trod_array Tryz.underlying23 t0
    rw [k1] at ha
    obtain ⟨R, hR, hRq⟩ := list_of_all (fun i n => L[i]? = some (.int .u64 (n : Nat)) ∧ n < 18446744073709551616) 16 fun i hi => by
      obtain ⟨y, hy⟩ := ha i hi
      obtain ⟨n, h1, h2⟩ := open_u64 hy
      rw [Nat.mul_one, List.getElem?_take_of_lt hi] at h1
      exact ⟨n, h1, h2⟩
    obtain ⟨pc, h1, h1'⟩ := open_u64 t1
    obtain ⟨a, h2⟩ := open_b t2
    obtain ⟨b, h3⟩ := open_b t3
    obtain ⟨c, h4⟩ := open_b t4
    refine ⟨⟨R, pc, a, b, c⟩, ?_, hR, fun r hr => ?_, h1'⟩
    · rw [← st_get hR hlen (fun i n hi => (hRq i n hi).1) h1 h2 h3 h4, ← hL]
    · obtain ⟨i, hi⟩ := List.mem_iff_getElem?.1 hr
      exact (hRq i r hi).2

set_option maxRecDepth 100000 in
theorem open_ins {cs : Array Value} {d : DataW H} {ps : List MemPlace} (h : DataW.Trod enc Tryz.prog w 0 (fun _ => true) true 29 (.agg cs) d ps) : ∃ i : Ins, cs = (insRow i).toArray ∧ InsOk i := by
  obtain ⟨fuel, hf⟩ := h
  obtain ⟨xs, f, _, _, hlen, hxl, hfs⟩ := DataW.trod_struct Tryz.underlying29 hf
  rw [show Tryz.prog.cellsOf 29 = 9 by kernel_rfl] at hlen
  have hcs : (Value.agg cs).cells.toList = cs.toList := rfl
  rw [hcs] at hlen hfs
  generalize hL : cs.toList = L at *
  match xs, hxl with
  | [y0, y1, y2, y3, y4, y5], _ =>
    have k1 : Tryz.prog.cellsOf 3 = 1 := by kernel_rfl
    have k8 : Tryz.prog.cellsOf 2 = 1 := by kernel_rfl
    have km : Tryz.prog.cellsOf 27 = 4 := by kernel_rfl
    have t0 : DataW.trod enc Tryz.prog w 0 (fun _ => true) true f 3 ((L.drop 0).take (Tryz.prog.cellsOf 3)) = some y0 := hfs 0 _ rfl
    have t1 : DataW.trod enc Tryz.prog w 0 (fun _ => true) true f 3 ((L.drop 1).take (Tryz.prog.cellsOf 3)) = some y1 := hfs 1 _ rfl
    have t2 : DataW.trod enc Tryz.prog w 0 (fun _ => true) true f 3 ((L.drop 2).take (Tryz.prog.cellsOf 3)) = some y2 := hfs 2 _ rfl
    have t3 : DataW.trod enc Tryz.prog w 0 (fun _ => true) true f 3 ((L.drop 3).take (Tryz.prog.cellsOf 3)) = some y3 := hfs 3 _ rfl
    have t4 : DataW.trod enc Tryz.prog w 0 (fun _ => true) true f 27 ((L.drop 4).take (Tryz.prog.cellsOf 27)) = some y4 := hfs 4 _ rfl
    have t5 : DataW.trod enc Tryz.prog w 0 (fun _ => true) true f 2 ((L.drop 8).take (Tryz.prog.cellsOf 2)) = some y5 := hfs 5 _ rfl
    obtain ⟨zs, g, _, _, _, hzl, hgs⟩ := DataW.trod_struct Tryz.underlying27 t4
    rw [km] at hgs
    match zs, hzl with
    | [z0, z1, z2, z3], _ =>
      have m0 : DataW.trod enc Tryz.prog w 0 (fun _ => true) true g 3 ((((L.drop 4).take 4).drop 0).take (Tryz.prog.cellsOf 3)) = some z0 := hgs 0 _ rfl
      have m1 : DataW.trod enc Tryz.prog w 0 (fun _ => true) true g 3 ((((L.drop 4).take 4).drop 1).take (Tryz.prog.cellsOf 3)) = some z1 := hgs 1 _ rfl
      have m2 : DataW.trod enc Tryz.prog w 0 (fun _ => true) true g 3 ((((L.drop 4).take 4).drop 2).take (Tryz.prog.cellsOf 3)) = some z2 := hgs 2 _ rfl
      have m3 : DataW.trod enc Tryz.prog w 0 (fun _ => true) true g 2 ((((L.drop 4).take 4).drop 3).take (Tryz.prog.cellsOf 2)) = some z3 := hgs 3 _ rfl
      rw [k1] at t0 t1 t2 t3 m0 m1 m2
      rw [k8] at t5 m3
      obtain ⟨a0, e0, _⟩ := open_i Tryz.underlying3 t0
      obtain ⟨a1, e1, _⟩ := open_i Tryz.underlying3 t1
      obtain ⟨a2, e2, _⟩ := open_i Tryz.underlying3 t2
      obtain ⟨a3, e3, _⟩ := open_i Tryz.underlying3 t3
      obtain ⟨a4, e4, _⟩ := open_i Tryz.underlying3 m0
      obtain ⟨a5, e5, _⟩ := open_i Tryz.underlying3 m1
      obtain ⟨a6, e6, _⟩ := open_i Tryz.underlying3 m2
      obtain ⟨a7, e7, b7⟩ := open_i Tryz.underlying2 m3
      obtain ⟨a8, e8, b8⟩ := open_i Tryz.underlying2 t5
      rw [List.getElem?_take_of_lt (by decide), List.getElem?_drop] at e4 e5 e6 e7
      refine ⟨⟨a0, a1, a2, a3, a4, a5, a6, a7, a8⟩, ?_, b7, b8⟩
      apply Array.ext'
      rw [hL]
      match L, hlen with
      | [c0, c1, c2, c3, c4, c5, c6, c7, c8], _ =>
        simp at e0 e1 e2 e3 e4 e5 e6 e7 e8
        subst e0 e1 e2 e3 e4 e5 e6 e7 e8
        rfl
end
def witSt : Value := .agg #[.int .u64 0, .int .u64 0, .int .u64 0, .int .u64 0, .int .u64 0, .int .u64 0, .int .u64 0, .int .u64 0, .int .u64 0, .int .u64 0, .int .u64 0, .int .u64 0, .int .u64 0, .int .u64 0, .int .u64 0, .int .u64 0, .int .u64 0, .bool false, .bool false, .bool false]
def witIns : Value := .agg #[.int .i64 0, .int .i64 0, .int .i64 0, .int .i64 0, .int .i64 0, .int .i64 0, .int .i64 0, .int .i64 0, .int .i64 0]
end Go.Proofs.YtmanhikpccnfaaaGreat

/- keysmithlaw08.StepSeen: for all states, instructions, regions and bytes it returns true: what is seen hangs on registers of places, on flags of jumps, and what a return reads, alone. No condition. -/
namespace Go.Proofs.YtmanhikpccnfaaaGreat.stepSeen
open Go.ChangeShapes Go.WideShapes Go.ChangeAt Go.RowKit

theorem own : ownKnob Tryz.prog.godebug = none := by kernel_rfl
theorem laidOut : laidOutB Tryz.prog = true := by kernel_rfl

set_option maxRecDepth 100000 in
theorem lifted (os : Os) (started : os.Started) (H : Type) (enc : TypeId × Value → H) :
    ReturnsInHanded {} Tryz.checked os 3 .any (Rows.stepSeenSpec.pre6 enc Tryz.prog Tryz.f3 Rows.stepSeenRow.domain false) (Rows.stepSeenSpec.post enc Tryz.prog Tryz.f3 false true false false) := by
  refine returnsInHanded_of_change (C := Tryz.checked) own started (by kernel_rfl) Tryz.func3
    (ChangeSpec.witness6 (enc := enc) (C := Tryz.checked) false ⟨#[], #[witSt, witSt, witIns, .slice none 0 0, .int .u8 0], []⟩ 8 (by kernel_rfl) (by kernel_rfl) (by kernel_rfl) (by kernel_rfl)) ?_
  intro W base args ds gs before hval0 hW hcnd _
  have hval : ∀ (j : Nat) t v, Tryz.f3.params[j]? = some t → args[j]? = some v → Value.okWide Tryz.prog W .any base t v := hval0
  have hW' := hW
  obtain ⟨p, q, hA0, hV, rfl, hfz, hnd⟩ := hW
  have hA : DataW.TrodAll enc Tryz.prog W 0 (fun _ => true) true Tryz.f3.params.toList args.toList ds p := hA0
  rw [Tryz.params3] at hA hval
  obtain ⟨v0, vs0, d0, ds0, p0, q0, hargs, rfl, rfl, h0, r0⟩ := trodAll_cons hA
  obtain ⟨v1, vs1, d1, ds1, p1, q1, rfl, rfl, rfl, h1, r1⟩ := trodAll_cons r0
  obtain ⟨v2, vs2, d2, ds2, p2, q2, rfl, rfl, rfl, h2, r2⟩ := trodAll_cons r1
  obtain ⟨v3, vs3, d3, ds3, p3, q3, rfl, rfl, rfl, h3, r3⟩ := trodAll_cons r2
  obtain ⟨v4, vs4, d4, ds4, p4, q4, rfl, rfl, rfl, h4, r4⟩ := trodAll_cons r3
  obtain ⟨rfl, rfl, rfl⟩ := trodAll_nil r4
  obtain rfl : args = #[v0, v1, v2, v3, v4] := by cases args; simp_all
  obtain ⟨rfl, rfl⟩ := trodVars_none hV
  have k0 := h0
  have lt0 : ∀ x ∈ p0, x.block < W.heap.size := by obtain ⟨m, hm⟩ := k0; exact DataW.trod_lt m _ _ _ hm
  obtain ⟨cs0, rfl, hcs0⟩ := okWide_struct Tryz.underlying25 (hval 0 25 v0 rfl rfl)
  obtain ⟨x0, rfl, hx0⟩ := open_st h0
  have k1 := h1
  have lt1 : ∀ x ∈ p1, x.block < W.heap.size := by obtain ⟨m, hm⟩ := k1; exact DataW.trod_lt m _ _ _ hm
  obtain ⟨cs1, rfl, hcs1⟩ := okWide_struct Tryz.underlying25 (hval 1 25 v1 rfl rfl)
  obtain ⟨x1, rfl, hx1⟩ := open_st h1
  have k2 := h2
  have lt2 : ∀ x ∈ p2, x.block < W.heap.size := by obtain ⟨m, hm⟩ := k2; exact DataW.trod_lt m _ _ _ hm
  obtain ⟨cs2, rfl, hcs2⟩ := okWide_struct Tryz.underlying29 (hval 2 29 v2 rfl rfl)
  obtain ⟨x2, rfl, hx2⟩ := open_ins h2
  obtain ⟨A3, len3, cap3, rfl⟩ := okWide_slice Tryz.underlying30 (hval 3 30 v3 rfl rfl)
  have k3 := h3
  have lt3 : ∀ x ∈ p3, x.block < W.heap.size := by obtain ⟨m, hm⟩ := k3; exact DataW.trod_lt m _ _ _ hm
  obtain ⟨l3, hl3, hn3⟩ := open_regs h3
  obtain ⟨a4, rfl, rfl, rfl, w4⟩ := open_int Tryz.underlying5 (hval 4 5 v4 rfl rfl) h4
  clear hA0 hval0
  have b4 : 0 ≤ a4 ∧ a4 ≤ 255 := by simpa [Lit.wf, IntKind.min, IntKind.max, IntKind.bits, IntKind.signed] using w4
  obtain ⟨n4, e4⟩ : ∃ n : Nat, a4 = n := ⟨a4.toNat, by omega⟩
  subst e4
  refine (seen_walk x0 x1 x2 _ l3 n4 W hx0 hx1 hx2 hl3 hn3 (by omega)).mono fun e W' ⟨he, bel⟩ => ?_
  subst he
  exact ⟨_, rfl, _, _, _, [], _, [], hW', trodAll_mk1 (shut_bool Tryz.underlying4 _), (trodAll_cons_mk (Below.trod laidOut (by kernel_rfl) (of_decide_eq_true (by kernel_rfl)) k0 bel lt0) (trodAll_cons_mk (Below.trod laidOut (by kernel_rfl) (of_decide_eq_true (by kernel_rfl)) k1 bel lt1) (trodAll_cons_mk (Below.trod laidOut (by kernel_rfl) (of_decide_eq_true (by kernel_rfl)) k2 bel lt2) (trodAll_cons_mk (Below.trod laidOut (by kernel_rfl) (of_decide_eq_true (by kernel_rfl)) k3 bel lt3) (trodAll_cons_mk (shut_int Tryz.underlying5 w4) trodAll_mk0))))), rfl, bel.frame _, fun h => by cases h⟩

theorem over : Rows.stepSeenRow.holds Tryz.pinned (OpenSpec.ofChange Rows.stepSeenSpec) :=
  OpenClaim.holds_of_wide 3 Tryz.f3 rfl rfl rfl rfl rfl rfl rfl ⟨rfl, rfl, rfl, rfl, rfl⟩ rfl rfl rfl rfl rfl (by kernel_rfl) Tryz.func3 (by kernel_rfl)
    (of_decide_eq_true (by kernel_rfl)) (by unfold Func.isWrapper; first | (rw [if_pos (by decide +kernel)]; kernel_rfl) | (rw [if_neg (by decide +kernel)]; exact ⟨rfl, rfl⟩))
    (fun os started H enc _ => lifted os started H enc)

theorem proved : Rows.StepSeenSaid := over
#print axioms proved
end Go.Proofs.YtmanhikpccnfaaaGreat.stepSeen
