/- keysmithref08.Do: operations 3, 31. -/
import Derived.Test.YtmanhikpccnfaaaGreatBc17
namespace Go.Proofs.YtmanhikpccnfaaaGreat
open Go.RowKit

set_option linter.unusedVariables false in
set_option maxRecDepth 100000 in
set_option maxHeartbeats 40000000 in
theorem RDo_3 (s : St) (i : Ins) (size : Int) (m : Value) (w : World) (F : Nat → Prop) (rs : List Reg) (hs : StOk s) (hm : RMemAt w F m rs) (hF : ∀ k, F k → k < w.heap.size) (hc : chkP i = true) (h1 : 1 ≤ size) (h2 : size ≤ 15) (hop : i.op = 3) :
    Calls Tryz.prog 22 #[.agg (stRow s).toArray, .agg (insRow i).toArray, .int .i64 size, m] w (RDoPost w F m (stepF s i size rs)) := by
  have hrange := chk_range hc
  have hcc := hc
  have h11 := h1
  have h22 := h2
  obtain ⟨bm, rfl⟩ : ∃ bm, m = .pointer (some ⟨bm, 0, none⟩) := by obtain ⟨bm, v, h, _⟩ := hm; exact ⟨bm, h⟩
  obtain ⟨W, hW, hH⟩ := rdo_start w F _ rs hm hF s i
  obtain ⟨hz, hz9⟩ := zero_of_info zeroInfoSt
  clear hz9 hm
  have HS := Lib.hid hs
  have HW := Lib.hid hW
  have HC := Lib.hid hc
  have HCHK := Lib.hid (fun w => rCheck_any i w)
  have H := Lib.hid hH
  have hzs : zeroSt.toArray.size = 20 := rfl
  generalize hzz : zeroSt.toArray = zs at *
  have HZS := Lib.hid hzs
  have HZZ := Lib.hid hzz
  clear hzs hH hW hzz
  obtain ⟨D, S, T, hD, hD16, hS, hS16, hT, hT16⟩ := chk_nums hc
  obtain ⟨vS, hvS, hvS64⟩ := sr_reg_of hs hS16
  obtain ⟨vD, hvD, hvD64⟩ := sr_reg_of hs hD16
  have HDS := Lib.hid (And.intro hD (And.intro hS hT))
  have HL16 := Lib.hid (And.intro hD16 (And.intro hS16 hT16))
  have HVS := Lib.hid (And.intro hvS hvS64)
  have HVD := Lib.hid (And.intro hvD hvD64)
  have HFORM := Lib.hid (fun w => Form_any i.op w)
  obtain ⟨h83, h83e⟩ : ∃ b, b = hasR (formR i.op) 83 := ⟨_, rfl⟩
  have HHAS := Lib.hid (fun w => Has83 i.op w)
  rw [← h83e] at HHAS
  have H83 := Lib.hid h83e
  have HADR := Lib.hid (fun w => RAddress_any s i hs w)
  obtain ⟨ad, had⟩ : ∃ ad, ad = addrF s i := ⟨_, rfl⟩
  rw [← had] at HADR
  have HAD := Lib.hid had
  obtain ⟨B, hB⟩ : ∃ B, B = if h83 then vS else u64 i.imm := ⟨_, rfl⟩
  have HB := Lib.hid hB
  have u1 := wrap_u64 size
  have u2 := wrap_u64 i.imm
  have hp64 := hs.pc
  have e1w : IntKind.u64.wrap ((s.pc : Int) + (u64 size : Int)) = (((s.pc + u64 size) % 18446744073709551616 : Nat) : Int) := by rw [wrapU']; omega
  obtain ⟨q, hq⟩ : ∃ q, q = (s.pc + u64 size) % 18446744073709551616 := ⟨_, rfl⟩
  rw [← hq] at e1w
  have HQ := Lib.hid hq
  have HQ64 := Lib.hid (show q < 18446744073709551616 by rw [hq]; exact Nat.mod_lt _ (by decide))
  have HU2 := Lib.hid u2
  have d1 : decide (size < 1) = false := by simpa using h1
  have d2 : decide (15 < size) = false := by simpa using h2
  clear hD hS hT hD16 hS16 hT16 hvS hvS64 hvD hvD64 h83e had hB hq hs hF hp64 u2 h1 h2
  obtain ⟨sp, hsp, hsp64⟩ := sr_reg_of HS.out (k := 4) (by decide)
  obtain ⟨vT, hvT, hvT64⟩ := sr_reg_of HS.out HL16.out.2.2
  obtain ⟨v2, hv2, hv264⟩ := sr_reg_of HS.out (k := 2) (by decide)
  obtain ⟨q8, hq8⟩ : ∃ q8, q8 = (18446744073709551616 + sp - 8) % 18446744073709551616 := ⟨_, rfl⟩
  obtain ⟨p8, hp8⟩ : ∃ p8, p8 = (sp + 8) % 18446744073709551616 := ⟨_, rfl⟩
  obtain ⟨sA, hs1⟩ : ∃ s1, s1 = { s with pc := q } := ⟨_, rfl⟩
  have HSA := Lib.hid hs1
  have hv : valueF { s with pc := q } i.op (regAt s i.d) (if takesS i.op then regAt s i.s else u64 i.imm) = none := by rw [hop]; rfl
  have hcode : stepF s i size rs = _ := stepF_none hcc h11 h22 HQ.out hv (d := ({ sA with regs := sA.regs.set D (loadVE (loadF rs ad)).1 }, [⟨2, ad⟩], (loadVE (loadF rs ad)).2, rs)) (by
    rw [← hs1]
    have hDn : i.d.toNat = D := by rw [HDS.out.1]; simp
    have hSn : i.s.toNat = S := by rw [HDS.out.2.1]; simp
    have hrS : regAt sA i.s = vS := by rw [hs1]; exact regAt_of HDS.out.2.1 HVS.out.1
    have hrT : regAt sA i.t = vT := by rw [hs1]; exact regAt_of HDS.out.2.2 hvT
    have hr4 : regAt sA 4 = sp := by rw [hs1]; exact regAt_of (D := 4) rfl hsp
    have hr2 : regAt sA 2 = v2 := by rw [hs1]; exact regAt_of (D := 2) rfl hv2
    have hadr : addrF sA i = ad := by rw [hs1, HAD.out]; rfl
    unfold doF; rw [if_pos hop, hDn, hadr])
  simp only [] at hcode
  have HCODE := Lib.hid hcode
  have hB64 : B < 18446744073709551616 := by rw [HB.out]; cases h83; exact u64_lt _; exact HVS.out.2
  have hvb : valueF { s with pc := q } i.op vD B = none := by rw [hop]; rfl
  have HVAL := Lib.hid (fun w' => Rvalue_none { s with pc := q } ⟨HS.out.len, HS.out.regs, HQ64.out⟩ i.op vD B HVD.out.2 hB64 hrange hvb w')
  have HOP := Lib.hid hop
  have HSP := Lib.hid (And.intro hsp hsp64)
  have HVT := Lib.hid (And.intro hvT hvT64)
  have HV2 := Lib.hid (And.intro hv2 hv264)
  have HQ8 := Lib.hid hq8
  have HP8 := Lib.hid hp8
  have HAD64 := Lib.hid (show ad < 18446744073709551616 by rw [HAD.out]; unfold addrF; exact Nat.mod_lt _ (by decide))
  have HIMM := HU2
  clear hcode hv hvb hB64 hrange hcc h11 h22 hop hsp hsp64 hvT hvT64 hv2 hv264 hq8 hp8 hc
  clear hs1
  go_enter Tryz.func22, Tryz.ntmps22
  go_upto_region 1 with fail
  rw [← HW.out]
  go_wp2_with (first | ((with_reducible refine sep_id ?_); refine H.out.load 1 rfl _ rfl rfl rfl Tryz.underlying29 rfl (infoIns9 i) ?_))
  refine (HCHK.out _).mono ?_
  rintro e w1 ⟨rfl, hb⟩
  have hH := H.out.next hb
  clear H hb HCHK HW
  have H := Lib.hid hH
  clear hH
  rw [HC.out, show errOf true = 0 from rfl]
  clear HC
  go_upto_region 9 with (first | ((with_reducible refine sep_id ?_); refine H.out.load 2 rfl _ rfl rfl rfl Tryz.underlying25 rfl (sr_size HS.out) ?_) | ((with_reducible refine sep_id ?_); refine H.out.storeFresh (row := stRow s) _ _ rfl _ (by rw [HZS.out, sr_len HS.out]) rfl rfl rfl (sr_size HS.out) (stRow_one _) ?_; intro W2 hW2; clear H; have H := Lib.hid hW2; clear hW2))
  have k16 := H.out.cell 3 16 rfl (sr_hi HS.out.len 0)
  have n16 := H.out.cell 0 16 rfl (sr_hi HS.out.len 0)
  have f16 := H.out.frozen 0 16 rfl
  go_upto_region 10 with fail
  refine sep_name ?_
  intro W3 hW3
  have hH := (H.out.setCell 0 rfl 16 (.int .u64 (q : Nat)) (sr_pc HS.out.len)).cast hW3
  clear H hW3 k16 n16 f16 e1w d1 d2 u1
  have H := Lib.hid hH
  have HOK1 := Lib.hid (show StOk { s with pc := q } from ⟨HS.out.len, HS.out.regs, HQ64.out⟩)
  clear hH
  obtain ⟨s1, hs1⟩ : ∃ s1, s1 = { s with pc := q } := ⟨_, rfl⟩
  rw [← hs1] at H HOK1
  have HS1 := Lib.hid hs1
  clear hs1
  have k16 := H.out.cell 3 16 rfl (sr_hi HS.out.len 0)
  go_wp2_with fail
  refine (Revent_any 1 s.pc _).mono ?_
  rintro e w2 ⟨rfl, hb⟩
  have hH := H.out.next hb
  clear H hb k16
  have H := Lib.hid hH
  clear hH
  go_upto_region 11 with fail
  refine sep_name ?_
  intro W4 hW4
  have hH := (H.out.rowLit ⟨1, s.pc⟩).cast hW4
  clear H hW4
  have H := Lib.hid hH
  clear hH
  go_wp2_with (first | ((with_reducible refine sep_id ?_); refine H.out.load 4 rfl _ rfl rfl rfl Tryz.underlying25 rfl (sr_size HS.out) ?_) | ((with_reducible refine sep_id ?_); refine sep_val rfl (exec_mem H.out 3 rfl _ rfl rfl) ?_))
  refine (HADR.out _).mono ?_
  rintro e w3 ⟨rfl, hb⟩
  have hH := H.out.next hb
  clear H hb HADR
  have H := Lib.hid hH
  clear hH
  have yS := H.out.cell 3 2 rfl (show (insRow i)[2]? = some (.int .i64 (S : Nat)) by rw [← HDS.out.2.1]; rfl)
  have cS := H.out.cell 4 S rfl (sr_get HVS.out.1)
  have yop := H.out.cell 3 0 rfl (show (insRow i)[0]? = some (.int .i64 i.op) from rfl)
  have i0 : (0 : Int) ≤ (S : Int) := by omega
  have i1 : (S : Int) < 16 := by have := HL16.out.2.1; omega
  go_upto_if 67 with (first | (go_at_call 27; refine (HFORM.out _).mono ?_; rintro e w_ ⟨rfl, rfl⟩) | (go_at_call 28; refine (HHAS.out _).mono ?_; rintro e w_ ⟨rfl, rfl⟩))
  clear yS cS i0 i1 yop HFORM HHAS
  go_cut [15] from 68 to 70 (fun q_ wx => q_ = .int .u64 (B : Nat) ∧ w3 = wx)
  case first =>
    have yimm := H.out.cell 3 8 rfl (show (insRow i)[8]? = some (.int .i64 i.imm) from rfl)
    have u2 := HU2.out
    cases h83
    · go_wp2_with fail
      go_meet
      exact ⟨by rw [HB.out]; rfl, rfl⟩
    · go_wp2_with fail
      go_meet
      exact ⟨by rw [HB.out]; rfl, rfl⟩
  case rest =>
  obtain ⟨rfl, rfl⟩ := hcut
  clear HU2
  rw [← HS1.out] at HVAL
  rw [show sA = s1 from HSA.out.trans HS1.out.symm] at HCODE
  have HOKT := HOK1
  go_upto_region 15 with fail
  go_cut [16, 17, 18] from 71 to 84 (fun a16 a17 a18 wx => ∃ gt : Nat, a16 = .pointer (some ⟨gt, 0, none⟩) ∧ a17 = .int .u64 (0 : Nat) ∧ a18 = .bool false ∧ Sep w F wx (boxR gt 25 (stRow s1) :: [rowR w.heap.size 47 2 1 (.slice (some ⟨w2.heap.size, 0, none⟩) 1 1) (evRow ⟨1, s.pc⟩), boxR w1.heap.size 25 (stRow s1), boxR (w.heap.size + 1 + 1) 25 zeroSt, boxR (w.heap.size + 1) 29 (insRow i), boxR w.heap.size 25 (stRow s), memR F (.pointer (some ⟨bm, 0, none⟩)) rs]))
  case first =>
    have hS := H.out.drew
    refine wp_region_branch (fun w_ => Sep w F w_ [rowR w.heap.size 47 2 1 (.slice (some ⟨w2.heap.size, 0, none⟩) 1 1) (evRow ⟨1, s.pc⟩), boxR w1.heap.size 25 (stRow s1), boxR (w.heap.size + 1 + 1) 25 zeroSt, boxR (w.heap.size + 1) 29 (insRow i), boxR w.heap.size 25 (stRow s), memR F (.pointer (some ⟨bm, 0, none⟩)) rs]) (by kernel_rfl) (by kernel_rfl) hS ?_
    show runB _ _ _ _ 18 [0, 1, 2, 3, 4, 5, 6, 7, 8, 9, 10, 11, 12, 13, 14, 15, 16, 17] _ _
    repeat (first | (refine runB_val (v := ?_) (by rfl) (by rfl) (by kernel_rfl) (by rfl) ?_ ?_; rotate_left; (focus (intro w_ hw_; have c0_ := hw_.cell 3 0 rfl (show (insRow i)[0]? = some (.int .i64 i.op) from rfl); have c1_ := hw_.cell 3 1 rfl (show (insRow i)[1]? = some (.int .i64 (D : Nat)) by rw [← HDS.out.1]; rfl); have c2_ := hw_.cell 4 D rfl (sr_get HVD.out.1); have i0 : (0 : Int) ≤ (D : Int) := (by omega); have i1 : (D : Int) < 16 := (by have := HL16.out.1; omega); go_simp; (try with_reducible rfl); done)); (try dsimp only [Act.put])) | (refine runB_val (v := .agg (stRow s1).toArray) (by rfl) (by rfl) (by kernel_rfl) (by rfl) (fun w_ hw_ => hw_.exec 1 rfl _ rfl rfl Tryz.underlying25 rfl (sr_size HOK1.out)) ?_; (try dsimp only [Act.put])))
    try simp only [List.setIfInBounds_toArray, List.set_cons_zero, List.set_cons_succ]
    refine runB_two 9 14 (by kernel_rfl) (by kernel_rfl) (by rfl) (by rfl) (by rfl) (by rfl) ?_ ?_
    · refine tdoes_call (f := ?_) (args := ?_) (w1 := ?_) ?_ ?_
      rotate_left 3
      focus (go_simp; refine ⟨⟨?_, ?_⟩, ?_⟩ <;> with_reducible rfl)
      refine (HVAL.out _).mono ?_
      rintro e w4 ⟨rfl, hb⟩
      refine ⟨_, rfl, hS.next hb, ?_⟩
      (try dsimp only [Act.put])
      try simp only [List.setIfInBounds_toArray, List.set_cons_zero, List.set_cons_succ]
      have HS4 := Lib.hid (hS.next hb)
      clear hb
      show runB _ _ _ _ 8 [10, 11, 12, 13, 14, 15, 16, 17] _ _
      repeat (first | (refine runB_val (v := ?_) (by rfl) (by rfl) (by kernel_rfl) (by rfl) ?_ ?_; rotate_left; (focus (intro w_ hw_; have c0_ := hw_.cell 3 0 rfl (show (insRow i)[0]? = some (.int .i64 i.op) from rfl); have c1_ := hw_.cell 3 1 rfl (show (insRow i)[1]? = some (.int .i64 (D : Nat)) by rw [← HDS.out.1]; rfl); have c2_ := hw_.cell 4 D rfl (sr_get HVD.out.1); have i0 : (0 : Int) ≤ (D : Int) := (by omega); have i1 : (D : Int) < 16 := (by have := HL16.out.1; omega); go_simp; (try with_reducible rfl); done)); (try dsimp only [Act.put])) | (refine runB_val (v := .agg (stRow s1).toArray) (by rfl) (by rfl) (by kernel_rfl) (by rfl) (fun w_ hw_ => hw_.exec 1 rfl _ rfl rfl Tryz.underlying25 rfl (sr_size HOK1.out)) ?_; (try dsimp only [Act.put])))
      try simp only [List.setIfInBounds_toArray, List.set_cons_zero, List.set_cons_succ]
      refine runB_one 14 (by kernel_rfl) (by kernel_rfl) (by rfl) (by rfl) ?_
      refine tdoes_op (w1 := w4.alloc (.cells zs 25)) (v := .pointer (some ⟨w4.heap.size, 0, none⟩)) (sep_alloc 25 rfl hz) ⟨(HS4.out.next ((Below.refl _ _).alloc (Nat.le_refl _) _)), ?_⟩
      (try dsimp only [Act.put])
      try simp only [List.setIfInBounds_toArray, List.set_cons_zero, List.set_cons_succ]
      show runB _ _ _ _ 3 [15, 16, 17] _ _
      refine runB_one 15 (by kernel_rfl) (by kernel_rfl) (by rfl) (by rfl) ?_
      refine tdoes_skip (w1 := (w4.alloc (.cells zs 25)).setRow w4.heap.size (stRow s1).toArray) (sep_store 25 _ _ rfl w4.heap.size (stRow s1).toArray rfl rfl 25 zs (heap_alloc_new w4 _) (sr_size HOKT.out) (by rw [HZS.out, stRow_size HOKT.out]) (stRow_one _)) ⟨(HS4.out.fresh 25 zs (stRow s1)).sub (List.sublist_cons_self _ _), ?_⟩
      (try dsimp only [Act.put])
      show runB _ _ _ _ 2 [16, 17] _ _
      repeat (first | (refine runB_val (v := ?_) (by rfl) (by rfl) (by kernel_rfl) (by rfl) ?_ ?_; rotate_left; (focus (intro w_ hw_; have c0_ := hw_.cell 3 0 rfl (show (insRow i)[0]? = some (.int .i64 i.op) from rfl); have c1_ := hw_.cell 3 1 rfl (show (insRow i)[1]? = some (.int .i64 (D : Nat)) by rw [← HDS.out.1]; rfl); have c2_ := hw_.cell 4 D rfl (sr_get HVD.out.1); have i0 : (0 : Int) ≤ (D : Int) := (by omega); have i1 : (D : Int) < 16 := (by have := HL16.out.1; omega); go_simp; (try with_reducible rfl); done)); (try dsimp only [Act.put])) | (refine runB_val (v := .agg (stRow s1).toArray) (by rfl) (by rfl) (by kernel_rfl) (by rfl) (fun w_ hw_ => hw_.exec 1 rfl _ rfl rfl Tryz.underlying25 rfl (sr_size HOK1.out)) ?_; (try dsimp only [Act.put])))
      try simp only [List.setIfInBounds_toArray, List.set_cons_zero, List.set_cons_succ]
      refine runB_nil ?_
      go_wp2_with fail
      go_meet
      exact ⟨w4.heap.size, rfl, rfl, rfl, HS4.out.fresh 25 zs (stRow s1)⟩
    · have HB1 := Lib.hid (hS.box 25 zeroSt)
      rw [HZZ.out] at HB1
      have HA := Lib.hid (hS.next ((Below.refl _ _).alloc (Nat.le_refl _) (.cells zs 25)))
      refine tdoes_op (w1 := w3.drew.alloc (.cells zs 25)) (v := .pointer (some ⟨w3.drew.heap.size, 0, none⟩)) (sep_alloc 25 rfl hz) ⟨HA.out, ?_⟩
      (try dsimp only [Act.put])
      try simp only [List.setIfInBounds_toArray, List.set_cons_zero, List.set_cons_succ]
      show runB _ _ _ _ 8 [9, 10, 11, 12, 13, 15, 16, 17] _ _
      generalize w3.drew.alloc (.cells zs 25) = wx at *
      refine runB_one 9 (by kernel_rfl) (by kernel_rfl) (by rfl) (by rfl) ?_
      refine tdoes_call (f := ?_) (args := ?_) (w1 := ?_) ?_ ?_
      rotate_left 3
      focus (go_simp; refine ⟨⟨?_, ?_⟩, ?_⟩ <;> with_reducible rfl)
      refine (HVAL.out _).mono ?_
      rintro e w4 ⟨rfl, hb⟩
      refine ⟨_, rfl, HA.out.next hb, ?_⟩
      (try dsimp only [Act.put])
      try simp only [List.setIfInBounds_toArray, List.set_cons_zero, List.set_cons_succ]
      have HS4 := Lib.hid (HB1.out.next hb)
      clear hb
      have HA4 := Lib.hid (HS4.out.sub (List.sublist_cons_self _ _))
      show runB _ _ _ _ 7 [10, 11, 12, 13, 15, 16, 17] _ _
      repeat (first | (refine runB_val (v := ?_) (by rfl) (by rfl) (by kernel_rfl) (by rfl) ?_ ?_; rotate_left; (focus (intro w_ hw_; have c0_ := hw_.cell 3 0 rfl (show (insRow i)[0]? = some (.int .i64 i.op) from rfl); have c1_ := hw_.cell 3 1 rfl (show (insRow i)[1]? = some (.int .i64 (D : Nat)) by rw [← HDS.out.1]; rfl); have c2_ := hw_.cell 4 D rfl (sr_get HVD.out.1); have i0 : (0 : Int) ≤ (D : Int) := (by omega); have i1 : (D : Int) < 16 := (by have := HL16.out.1; omega); go_simp; (try with_reducible rfl); done)); (try dsimp only [Act.put])) | (refine runB_val (v := .agg (stRow s1).toArray) (by rfl) (by rfl) (by kernel_rfl) (by rfl) (fun w_ hw_ => hw_.exec 1 rfl _ rfl rfl Tryz.underlying25 rfl (sr_size HOK1.out)) ?_; (try dsimp only [Act.put])))
      try simp only [List.setIfInBounds_toArray, List.set_cons_zero, List.set_cons_succ]
      refine runB_one 15 (by kernel_rfl) (by kernel_rfl) (by rfl) (by rfl) ?_
      refine tdoes_skip (w1 := w4.setRow w3.drew.heap.size (stRow s1).toArray) (sep_store 25 _ _ rfl w3.drew.heap.size (stRow s1).toArray rfl rfl 25 _ (HS4.out.at_ 0 rfl) (sr_size HOKT.out) (by rw [stRow_size HOKT.out]; rfl) (stRow_one _)) ⟨((HS4.out.setRow 0 rfl (stRow s1))).sub (List.sublist_cons_self _ _), ?_⟩
      (try dsimp only [Act.put])
      show runB _ _ _ _ 2 [16, 17] _ _
      repeat (first | (refine runB_val (v := ?_) (by rfl) (by rfl) (by kernel_rfl) (by rfl) ?_ ?_; rotate_left; (focus (intro w_ hw_; have c0_ := hw_.cell 3 0 rfl (show (insRow i)[0]? = some (.int .i64 i.op) from rfl); have c1_ := hw_.cell 3 1 rfl (show (insRow i)[1]? = some (.int .i64 (D : Nat)) by rw [← HDS.out.1]; rfl); have c2_ := hw_.cell 4 D rfl (sr_get HVD.out.1); have i0 : (0 : Int) ≤ (D : Int) := (by omega); have i1 : (D : Int) < 16 := (by have := HL16.out.1; omega); go_simp; (try with_reducible rfl); done)); (try dsimp only [Act.put])) | (refine runB_val (v := .agg (stRow s1).toArray) (by rfl) (by rfl) (by kernel_rfl) (by rfl) (fun w_ hw_ => hw_.exec 1 rfl _ rfl rfl Tryz.underlying25 rfl (sr_size HOK1.out)) ?_; (try dsimp only [Act.put])))
      try simp only [List.setIfInBounds_toArray, List.set_cons_zero, List.set_cons_succ]
      refine runB_nil ?_
      go_wp2_with fail
      go_meet
      exact ⟨w3.drew.heap.size, rfl, rfl, rfl, HS4.out.setRow 0 rfl (stRow s1)⟩
  case rest =>
  obtain ⟨gt, rfl, rfl, rfl, hH⟩ := hcut
  obtain ⟨w5, rfl⟩ : ∃ q : World, q = wc := ⟨_, rfl⟩
  clear H HVAL
  have H := Lib.hid hH
  clear hH
  have yop := H.out.cell 4 0 rfl (show (insRow i)[0]? = some (.int .i64 3) by rw [← HOP.out]; rfl)
  have hld := fun (w' : World) hm => RLoad_any (.pointer (some ⟨bm, 0, none⟩)) w' F rs ad HAD64.out hm
  rw [loadOut_eq] at hld
  have hlv : (loadVE (loadF rs ad)).1 < 18446744073709551616 := loadF_lt
  generalize (loadVE (loadF rs ad)).1 = lv at *
  generalize (loadVE (loadF rs ad)).2 = le at *
  have HLD := Lib.hid hld
  have HLV := Lib.hid hlv
  clear hld hlv
  go_upto_region 24 with fail
  clear yop
  have HDR := Lib.hid H.out.drew
  obtain ⟨x0, hx0, _⟩ := sr_reg_of HOK1.out HL16.out.1
  have HX0 := Lib.hid hx0
  clear hx0
  have i0 : (0 : Int) ≤ (D : Int) := by omega
  have i1 : (D : Int) < 16 := by have := HL16.out.1; omega
  (refine wp_region_lines (fun w_ => Sep w F w_ [boxR (w.heap.size + 1) 29 (insRow i)]) (by kernel_rfl) (by kernel_rfl) (HDR.out.one 4 rfl) ?_)
  (try simp only [])
  repeat (first | (refine runL_no (by rfl) ?_; (try dsimp only [Act.put])) | (refine runL_val (v := ?_) (by rfl) ?_ ?_; rotate_left; (focus (intro w_ hw_; have c1_ := hw_.cell 0 1 rfl (show (insRow i)[1]? = some (.int .i64 (D : Nat)) by rw [← HDS.out.1]; rfl); go_simp; (try with_reducible rfl); done)); (try dsimp only [Act.put])) | (refine runL_call (f := ?_) (args := ?_) (w1 := ?_) (by rfl) (by rfl) ?_ ?_; rotate_left 3; (focus (go_simp; refine ⟨⟨?_, ?_⟩, ?_⟩ <;> with_reducible rfl)); refine (HLD.out _ (HDR.out.get 6 rfl)).mono ?_; rintro e w6 ⟨rfl, hb⟩; have HN := Lib.hid (HDR.out.next hb); clear hb; refine ⟨_, rfl, .inr (HN.out.one 4 rfl), ?_⟩; (try dsimp only [Act.put]); (try simp only [List.setIfInBounds_toArray, List.set_cons_zero, List.set_cons_succ])) | ((try simp only [List.setIfInBounds_toArray, List.set_cons_zero, List.set_cons_succ]); refine runL_skip (w1 := w6.setCell ⟨w1.heap.size, D, none⟩ (.int .u64 (lv : Nat))) (by rfl) (by rfl) (sep_storeCell 22 _ _ rfl w1.heap.size D _ rfl rfl infoU64 (by rw [HN.out.cell 2 D rfl (sr_get HX0.out)]; rfl) (HN.out.frozen 2 D rfl) rfl) (.inr ((HN.out.setCell 2 rfl D (.int .u64 (lv : Nat)) rfl).one 4 rfl)) ?_; (try dsimp only [Act.put]); (try simp only [List.setIfInBounds_toArray, List.set_cons_zero, List.set_cons_succ])))
  (refine runL_nil ?_)
  (try simp only [List.setIfInBounds_toArray, List.set_cons_zero, List.set_cons_succ])
  have hH := HN.out.setCell 2 rfl D (.int .u64 (lv : Nat)) (sr_reg s1 D (by rw [HOK1.out.len]; exact HL16.out.1) lv)
  clear H HDR HN i0 i1
  have H := Lib.hid hH
  have HOKE := Lib.hid (HOK1.out.set D HLV.out)
  clear hH
  go_wp2_with fail
  refine (Revent_any 2 ad _).mono ?_
  rintro e w7 ⟨rfl, hb⟩
  have hH := H.out.next hb
  have HA := Lib.hid (hH.next ((Below.refl _ _).alloc (Nat.le_refl _) (.cells #[.int .i64 2, .int .u64 (ad : Nat)] 47)))
  clear H hH hb HX0
  obtain ⟨j0, hie, hy0, hy1, hy2⟩ := info_parts infoEv
  go_upto_region 47 with ((at_builtin; refine wpList_append_own_at _ rfl _ _ 42 rfl w.heap.size 47 j0 (.agg #[.int .i64 0, .int .u64 0]) 2 16 Tryz.underlying42 hie hy0 hy1 hy2 rfl (by decide) _ 1 _ rfl (HA.out.get 1 rfl) ⟨w7.heap.size, 0, none⟩ 1 1 [.int .i64 2, .int .u64 (ad : Nat)] rfl (by simp) (World.news_of_block (cs := #[.int .i64 2, .int .u64 (ad : Nat)]) (t := 47) (fr := (0, 0)) (heap_alloc_new w7 _)) (by simp [Value.oneCell']) (by unfold maxLen; omega) (by omega) HA.out.size ?_); intro vl w8 hown hg _ hbk; obtain ⟨A8, c8, rfl⟩ : ∃ A c, vl = .slice A 2 c := own_two hown; have hH8 := HA.out.grown 1 rfl hown hg (own_of hbk); have H8 := Lib.hid hH8; clear hown hg hbk hH8)
  clear HA hie hy0 hy1 hy2
  have H := H8
  clear H8
  by_cases h0 : le = 0
  · subst h0
    have HCD := HCODE.out
    rw [if_pos rfl] at HCD
    clear HCODE
    have HCODE := Lib.hid HCD
    clear HCD
    go_wp2_with (first | ((with_reducible refine sep_id ?_); refine H.out.load 2 rfl _ rfl rfl rfl Tryz.underlying25 rfl (sr_size HOKE.out) ?_) | ((with_reducible refine sep_id ?_); refine H.out.storeBox 3 (row' := stRow { s1 with regs := s1.regs.set D lv }) rfl (by rw [zeroSt_len, sr_len HOKE.out]) _ _ rfl rfl rfl rfl (sr_size HOKE.out) (stRow_one _) ?_; intro W9 hW9; have HZ := Lib.hid hW9; clear hW9))
    refine bodyPost_ret (results3 (ty := 25) rfl _ _ (w.heap.size + 1 + 1) 25 (stRow { s1 with regs := s1.regs.set D lv }).toArray (0, 0) _ rfl (HZ.out.at_ 3 rfl) Tryz.underlying25 rfl (sr_size HOKE.out)) rfl ?_
    rw [HCODE.out]
    exact ⟨_, rfl, HZ.out.chg, HZ.out.get 6 rfl, HZ.out.get 1 rfl⟩
  · have e1 : (le != 0) = true := by simpa using h0
    have HNE := Lib.hid h0
    clear h0
    go_wp2_with (first | ((with_reducible refine sep_id ?_); refine H.out.load 5 rfl _ rfl rfl rfl Tryz.underlying25 rfl (sr_size HS.out) ?_) | ((with_reducible refine sep_id ?_); refine H.out.storeBox 3 (row' := stRow s) rfl (by rw [zeroSt_len, sr_len HS.out]) _ _ rfl rfl rfl rfl (sr_size HS.out) (stRow_one _) ?_; intro W9 hW9; have HZ := Lib.hid hW9; clear hW9))
    refine bodyPost_ret (results3 (ty := 25) rfl _ _ (w.heap.size + 1 + 1) 25 (stRow s).toArray (0, 0) _ rfl (HZ.out.at_ 3 rfl) Tryz.underlying25 rfl (sr_size HS.out)) rfl ?_
    rw [HCODE.out, if_neg HNE.out]
    exact ⟨_, rfl, HZ.out.chg, HZ.out.get 6 rfl, by simp, .inl ⟨rfl, rfl⟩⟩

set_option linter.unusedVariables false in
set_option maxRecDepth 100000 in
set_option maxHeartbeats 40000000 in
theorem RDo_31 (s : St) (i : Ins) (size : Int) (m : Value) (w : World) (F : Nat → Prop) (rs : List Reg) (hs : StOk s) (hm : RMemAt w F m rs) (hF : ∀ k, F k → k < w.heap.size) (hc : chkP i = true) (h1 : 1 ≤ size) (h2 : size ≤ 15) (hop : i.op = 31) :
    Calls Tryz.prog 22 #[.agg (stRow s).toArray, .agg (insRow i).toArray, .int .i64 size, m] w (RDoPost w F m (stepF s i size rs)) := by
  have hrange := chk_range hc
  have hcc := hc
  have h11 := h1
  have h22 := h2
  obtain ⟨bm, rfl⟩ : ∃ bm, m = .pointer (some ⟨bm, 0, none⟩) := by obtain ⟨bm, v, h, _⟩ := hm; exact ⟨bm, h⟩
  obtain ⟨W, hW, hH⟩ := rdo_start w F _ rs hm hF s i
  obtain ⟨hz, hz9⟩ := zero_of_info zeroInfoSt
  clear hz9 hm
  have HS := Lib.hid hs
  have HW := Lib.hid hW
  have HC := Lib.hid hc
  have HCHK := Lib.hid (fun w => rCheck_any i w)
  have H := Lib.hid hH
  have hzs : zeroSt.toArray.size = 20 := rfl
  generalize hzz : zeroSt.toArray = zs at *
  have HZS := Lib.hid hzs
  have HZZ := Lib.hid hzz
  clear hzs hH hW hzz
  obtain ⟨D, S, T, hD, hD16, hS, hS16, hT, hT16⟩ := chk_nums hc
  obtain ⟨vS, hvS, hvS64⟩ := sr_reg_of hs hS16
  obtain ⟨vD, hvD, hvD64⟩ := sr_reg_of hs hD16
  have HDS := Lib.hid (And.intro hD (And.intro hS hT))
  have HL16 := Lib.hid (And.intro hD16 (And.intro hS16 hT16))
  have HVS := Lib.hid (And.intro hvS hvS64)
  have HVD := Lib.hid (And.intro hvD hvD64)
  have HFORM := Lib.hid (fun w => Form_any i.op w)
  obtain ⟨h83, h83e⟩ : ∃ b, b = hasR (formR i.op) 83 := ⟨_, rfl⟩
  have HHAS := Lib.hid (fun w => Has83 i.op w)
  rw [← h83e] at HHAS
  have H83 := Lib.hid h83e
  have HADR := Lib.hid (fun w => RAddress_any s i hs w)
  obtain ⟨ad, had⟩ : ∃ ad, ad = addrF s i := ⟨_, rfl⟩
  rw [← had] at HADR
  have HAD := Lib.hid had
  obtain ⟨B, hB⟩ : ∃ B, B = if h83 then vS else u64 i.imm := ⟨_, rfl⟩
  have HB := Lib.hid hB
  have u1 := wrap_u64 size
  have u2 := wrap_u64 i.imm
  have hp64 := hs.pc
  have e1w : IntKind.u64.wrap ((s.pc : Int) + (u64 size : Int)) = (((s.pc + u64 size) % 18446744073709551616 : Nat) : Int) := by rw [wrapU']; omega
  obtain ⟨q, hq⟩ : ∃ q, q = (s.pc + u64 size) % 18446744073709551616 := ⟨_, rfl⟩
  rw [← hq] at e1w
  have HQ := Lib.hid hq
  have HQ64 := Lib.hid (show q < 18446744073709551616 by rw [hq]; exact Nat.mod_lt _ (by decide))
  have HU2 := Lib.hid u2
  have d1 : decide (size < 1) = false := by simpa using h1
  have d2 : decide (15 < size) = false := by simpa using h2
  clear hD hS hT hD16 hS16 hT16 hvS hvS64 hvD hvD64 h83e had hB hq hs hF hp64 u2 h1 h2
  obtain ⟨sp, hsp, hsp64⟩ := sr_reg_of HS.out (k := 4) (by decide)
  obtain ⟨vT, hvT, hvT64⟩ := sr_reg_of HS.out HL16.out.2.2
  obtain ⟨v2, hv2, hv264⟩ := sr_reg_of HS.out (k := 2) (by decide)
  obtain ⟨q8, hq8⟩ : ∃ q8, q8 = (18446744073709551616 + sp - 8) % 18446744073709551616 := ⟨_, rfl⟩
  obtain ⟨p8, hp8⟩ : ∃ p8, p8 = (sp + 8) % 18446744073709551616 := ⟨_, rfl⟩
  obtain ⟨sA, hs1⟩ : ∃ s1, s1 = { s with pc := q } := ⟨_, rfl⟩
  have HSA := Lib.hid hs1
  have hv : valueF { s with pc := q } i.op (regAt s i.d) (if takesS i.op then regAt s i.s else u64 i.imm) = none := by rw [hop]; rfl
  have hcode : stepF s i size rs = _ := stepF_none hcc h11 h22 HQ.out hv (d := (jumpS sA (!s.zf) i.imm, [⟨4, (jumpS sA (!s.zf) i.imm).pc⟩], 0, rs)) (by
    rw [← hs1]
    have hDn : i.d.toNat = D := by rw [HDS.out.1]; simp
    have hSn : i.s.toNat = S := by rw [HDS.out.2.1]; simp
    have hrS : regAt sA i.s = vS := by rw [hs1]; exact regAt_of HDS.out.2.1 HVS.out.1
    have hrT : regAt sA i.t = vT := by rw [hs1]; exact regAt_of HDS.out.2.2 hvT
    have hr4 : regAt sA 4 = sp := by rw [hs1]; exact regAt_of (D := 4) rfl hsp
    have hr2 : regAt sA 2 = v2 := by rw [hs1]; exact regAt_of (D := 2) rfl hv2
    have hadr : addrF sA i = ad := by rw [hs1, HAD.out]; rfl
    unfold doF; rw [if_neg (by omega), if_neg (by omega), if_neg (by omega), if_neg (by omega), if_neg (by omega), if_neg (by omega), if_neg (by omega), show (if i.op = 30 then true else if i.op = 31 then !sA.zf else sA.cf) = (!s.zf) from by rw [hop, hs1]; rfl])
  simp only [] at hcode
  have HCODE := Lib.hid hcode
  have hB64 : B < 18446744073709551616 := by rw [HB.out]; cases h83; exact u64_lt _; exact HVS.out.2
  have hvb : valueF { s with pc := q } i.op vD B = none := by rw [hop]; rfl
  have HVAL := Lib.hid (fun w' => Rvalue_none { s with pc := q } ⟨HS.out.len, HS.out.regs, HQ64.out⟩ i.op vD B HVD.out.2 hB64 hrange hvb w')
  have HOP := Lib.hid hop
  have HSP := Lib.hid (And.intro hsp hsp64)
  have HVT := Lib.hid (And.intro hvT hvT64)
  have HV2 := Lib.hid (And.intro hv2 hv264)
  have HQ8 := Lib.hid hq8
  have HP8 := Lib.hid hp8
  have HAD64 := Lib.hid (show ad < 18446744073709551616 by rw [HAD.out]; unfold addrF; exact Nat.mod_lt _ (by decide))
  have HIMM := HU2
  clear hcode hv hvb hB64 hrange hcc h11 h22 hop hsp hsp64 hvT hvT64 hv2 hv264 hq8 hp8 hc
  clear hs1
  go_enter Tryz.func22, Tryz.ntmps22
  go_upto_region 1 with fail
  rw [← HW.out]
  go_wp2_with (first | ((with_reducible refine sep_id ?_); refine H.out.load 1 rfl _ rfl rfl rfl Tryz.underlying29 rfl (infoIns9 i) ?_))
  refine (HCHK.out _).mono ?_
  rintro e w1 ⟨rfl, hb⟩
  have hH := H.out.next hb
  clear H hb HCHK HW
  have H := Lib.hid hH
  clear hH
  rw [HC.out, show errOf true = 0 from rfl]
  clear HC
  go_upto_region 9 with (first | ((with_reducible refine sep_id ?_); refine H.out.load 2 rfl _ rfl rfl rfl Tryz.underlying25 rfl (sr_size HS.out) ?_) | ((with_reducible refine sep_id ?_); refine H.out.storeFresh (row := stRow s) _ _ rfl _ (by rw [HZS.out, sr_len HS.out]) rfl rfl rfl (sr_size HS.out) (stRow_one _) ?_; intro W2 hW2; clear H; have H := Lib.hid hW2; clear hW2))
  have k16 := H.out.cell 3 16 rfl (sr_hi HS.out.len 0)
  have n16 := H.out.cell 0 16 rfl (sr_hi HS.out.len 0)
  have f16 := H.out.frozen 0 16 rfl
  go_upto_region 10 with fail
  refine sep_name ?_
  intro W3 hW3
  have hH := (H.out.setCell 0 rfl 16 (.int .u64 (q : Nat)) (sr_pc HS.out.len)).cast hW3
  clear H hW3 k16 n16 f16 e1w d1 d2 u1
  have H := Lib.hid hH
  have HOK1 := Lib.hid (show StOk { s with pc := q } from ⟨HS.out.len, HS.out.regs, HQ64.out⟩)
  clear hH
  obtain ⟨s1, hs1⟩ : ∃ s1, s1 = { s with pc := q } := ⟨_, rfl⟩
  rw [← hs1] at H HOK1
  have HS1 := Lib.hid hs1
  clear hs1
  have k16 := H.out.cell 3 16 rfl (sr_hi HS.out.len 0)
  go_wp2_with fail
  refine (Revent_any 1 s.pc _).mono ?_
  rintro e w2 ⟨rfl, hb⟩
  have hH := H.out.next hb
  clear H hb k16
  have H := Lib.hid hH
  clear hH
  go_upto_region 11 with fail
  refine sep_name ?_
  intro W4 hW4
  have hH := (H.out.rowLit ⟨1, s.pc⟩).cast hW4
  clear H hW4
  have H := Lib.hid hH
  clear hH
  go_wp2_with (first | ((with_reducible refine sep_id ?_); refine H.out.load 4 rfl _ rfl rfl rfl Tryz.underlying25 rfl (sr_size HS.out) ?_) | ((with_reducible refine sep_id ?_); refine sep_val rfl (exec_mem H.out 3 rfl _ rfl rfl) ?_))
  refine (HADR.out _).mono ?_
  rintro e w3 ⟨rfl, hb⟩
  have hH := H.out.next hb
  clear H hb HADR
  have H := Lib.hid hH
  clear hH
  have yS := H.out.cell 3 2 rfl (show (insRow i)[2]? = some (.int .i64 (S : Nat)) by rw [← HDS.out.2.1]; rfl)
  have cS := H.out.cell 4 S rfl (sr_get HVS.out.1)
  have yop := H.out.cell 3 0 rfl (show (insRow i)[0]? = some (.int .i64 i.op) from rfl)
  have i0 : (0 : Int) ≤ (S : Int) := by omega
  have i1 : (S : Int) < 16 := by have := HL16.out.2.1; omega
  go_upto_if 67 with (first | (go_at_call 27; refine (HFORM.out _).mono ?_; rintro e w_ ⟨rfl, rfl⟩) | (go_at_call 28; refine (HHAS.out _).mono ?_; rintro e w_ ⟨rfl, rfl⟩))
  clear yS cS i0 i1 yop HFORM HHAS
  go_cut [15] from 68 to 70 (fun q_ wx => q_ = .int .u64 (B : Nat) ∧ w3 = wx)
  case first =>
    have yimm := H.out.cell 3 8 rfl (show (insRow i)[8]? = some (.int .i64 i.imm) from rfl)
    have u2 := HU2.out
    cases h83
    · go_wp2_with fail
      go_meet
      exact ⟨by rw [HB.out]; rfl, rfl⟩
    · go_wp2_with fail
      go_meet
      exact ⟨by rw [HB.out]; rfl, rfl⟩
  case rest =>
  obtain ⟨rfl, rfl⟩ := hcut
  clear HU2
  rw [← HS1.out] at HVAL
  rw [show sA = s1 from HSA.out.trans HS1.out.symm] at HCODE
  have HOKT := HOK1
  go_upto_region 15 with fail
  go_cut [16, 17, 18] from 71 to 84 (fun a16 a17 a18 wx => ∃ gt : Nat, a16 = .pointer (some ⟨gt, 0, none⟩) ∧ a17 = .int .u64 (0 : Nat) ∧ a18 = .bool false ∧ Sep w F wx (boxR gt 25 (stRow s1) :: [rowR w.heap.size 47 2 1 (.slice (some ⟨w2.heap.size, 0, none⟩) 1 1) (evRow ⟨1, s.pc⟩), boxR w1.heap.size 25 (stRow s1), boxR (w.heap.size + 1 + 1) 25 zeroSt, boxR (w.heap.size + 1) 29 (insRow i), boxR w.heap.size 25 (stRow s), memR F (.pointer (some ⟨bm, 0, none⟩)) rs]))
  case first =>
    have hS := H.out.drew
    refine wp_region_branch (fun w_ => Sep w F w_ [rowR w.heap.size 47 2 1 (.slice (some ⟨w2.heap.size, 0, none⟩) 1 1) (evRow ⟨1, s.pc⟩), boxR w1.heap.size 25 (stRow s1), boxR (w.heap.size + 1 + 1) 25 zeroSt, boxR (w.heap.size + 1) 29 (insRow i), boxR w.heap.size 25 (stRow s), memR F (.pointer (some ⟨bm, 0, none⟩)) rs]) (by kernel_rfl) (by kernel_rfl) hS ?_
    show runB _ _ _ _ 18 [0, 1, 2, 3, 4, 5, 6, 7, 8, 9, 10, 11, 12, 13, 14, 15, 16, 17] _ _
    repeat (first | (refine runB_val (v := ?_) (by rfl) (by rfl) (by kernel_rfl) (by rfl) ?_ ?_; rotate_left; (focus (intro w_ hw_; have c0_ := hw_.cell 3 0 rfl (show (insRow i)[0]? = some (.int .i64 i.op) from rfl); have c1_ := hw_.cell 3 1 rfl (show (insRow i)[1]? = some (.int .i64 (D : Nat)) by rw [← HDS.out.1]; rfl); have c2_ := hw_.cell 4 D rfl (sr_get HVD.out.1); have i0 : (0 : Int) ≤ (D : Int) := (by omega); have i1 : (D : Int) < 16 := (by have := HL16.out.1; omega); go_simp; (try with_reducible rfl); done)); (try dsimp only [Act.put])) | (refine runB_val (v := .agg (stRow s1).toArray) (by rfl) (by rfl) (by kernel_rfl) (by rfl) (fun w_ hw_ => hw_.exec 1 rfl _ rfl rfl Tryz.underlying25 rfl (sr_size HOK1.out)) ?_; (try dsimp only [Act.put])))
    try simp only [List.setIfInBounds_toArray, List.set_cons_zero, List.set_cons_succ]
    refine runB_two 9 14 (by kernel_rfl) (by kernel_rfl) (by rfl) (by rfl) (by rfl) (by rfl) ?_ ?_
    · refine tdoes_call (f := ?_) (args := ?_) (w1 := ?_) ?_ ?_
      rotate_left 3
      focus (go_simp; refine ⟨⟨?_, ?_⟩, ?_⟩ <;> with_reducible rfl)
      refine (HVAL.out _).mono ?_
      rintro e w4 ⟨rfl, hb⟩
      refine ⟨_, rfl, hS.next hb, ?_⟩
      (try dsimp only [Act.put])
      try simp only [List.setIfInBounds_toArray, List.set_cons_zero, List.set_cons_succ]
      have HS4 := Lib.hid (hS.next hb)
      clear hb
      show runB _ _ _ _ 8 [10, 11, 12, 13, 14, 15, 16, 17] _ _
      repeat (first | (refine runB_val (v := ?_) (by rfl) (by rfl) (by kernel_rfl) (by rfl) ?_ ?_; rotate_left; (focus (intro w_ hw_; have c0_ := hw_.cell 3 0 rfl (show (insRow i)[0]? = some (.int .i64 i.op) from rfl); have c1_ := hw_.cell 3 1 rfl (show (insRow i)[1]? = some (.int .i64 (D : Nat)) by rw [← HDS.out.1]; rfl); have c2_ := hw_.cell 4 D rfl (sr_get HVD.out.1); have i0 : (0 : Int) ≤ (D : Int) := (by omega); have i1 : (D : Int) < 16 := (by have := HL16.out.1; omega); go_simp; (try with_reducible rfl); done)); (try dsimp only [Act.put])) | (refine runB_val (v := .agg (stRow s1).toArray) (by rfl) (by rfl) (by kernel_rfl) (by rfl) (fun w_ hw_ => hw_.exec 1 rfl _ rfl rfl Tryz.underlying25 rfl (sr_size HOK1.out)) ?_; (try dsimp only [Act.put])))
      try simp only [List.setIfInBounds_toArray, List.set_cons_zero, List.set_cons_succ]
      refine runB_one 14 (by kernel_rfl) (by kernel_rfl) (by rfl) (by rfl) ?_
      refine tdoes_op (w1 := w4.alloc (.cells zs 25)) (v := .pointer (some ⟨w4.heap.size, 0, none⟩)) (sep_alloc 25 rfl hz) ⟨(HS4.out.next ((Below.refl _ _).alloc (Nat.le_refl _) _)), ?_⟩
      (try dsimp only [Act.put])
      try simp only [List.setIfInBounds_toArray, List.set_cons_zero, List.set_cons_succ]
      show runB _ _ _ _ 3 [15, 16, 17] _ _
      refine runB_one 15 (by kernel_rfl) (by kernel_rfl) (by rfl) (by rfl) ?_
      refine tdoes_skip (w1 := (w4.alloc (.cells zs 25)).setRow w4.heap.size (stRow s1).toArray) (sep_store 25 _ _ rfl w4.heap.size (stRow s1).toArray rfl rfl 25 zs (heap_alloc_new w4 _) (sr_size HOKT.out) (by rw [HZS.out, stRow_size HOKT.out]) (stRow_one _)) ⟨(HS4.out.fresh 25 zs (stRow s1)).sub (List.sublist_cons_self _ _), ?_⟩
      (try dsimp only [Act.put])
      show runB _ _ _ _ 2 [16, 17] _ _
      repeat (first | (refine runB_val (v := ?_) (by rfl) (by rfl) (by kernel_rfl) (by rfl) ?_ ?_; rotate_left; (focus (intro w_ hw_; have c0_ := hw_.cell 3 0 rfl (show (insRow i)[0]? = some (.int .i64 i.op) from rfl); have c1_ := hw_.cell 3 1 rfl (show (insRow i)[1]? = some (.int .i64 (D : Nat)) by rw [← HDS.out.1]; rfl); have c2_ := hw_.cell 4 D rfl (sr_get HVD.out.1); have i0 : (0 : Int) ≤ (D : Int) := (by omega); have i1 : (D : Int) < 16 := (by have := HL16.out.1; omega); go_simp; (try with_reducible rfl); done)); (try dsimp only [Act.put])) | (refine runB_val (v := .agg (stRow s1).toArray) (by rfl) (by rfl) (by kernel_rfl) (by rfl) (fun w_ hw_ => hw_.exec 1 rfl _ rfl rfl Tryz.underlying25 rfl (sr_size HOK1.out)) ?_; (try dsimp only [Act.put])))
      try simp only [List.setIfInBounds_toArray, List.set_cons_zero, List.set_cons_succ]
      refine runB_nil ?_
      go_wp2_with fail
      go_meet
      exact ⟨w4.heap.size, rfl, rfl, rfl, HS4.out.fresh 25 zs (stRow s1)⟩
    · have HB1 := Lib.hid (hS.box 25 zeroSt)
      rw [HZZ.out] at HB1
      have HA := Lib.hid (hS.next ((Below.refl _ _).alloc (Nat.le_refl _) (.cells zs 25)))
      refine tdoes_op (w1 := w3.drew.alloc (.cells zs 25)) (v := .pointer (some ⟨w3.drew.heap.size, 0, none⟩)) (sep_alloc 25 rfl hz) ⟨HA.out, ?_⟩
      (try dsimp only [Act.put])
      try simp only [List.setIfInBounds_toArray, List.set_cons_zero, List.set_cons_succ]
      show runB _ _ _ _ 8 [9, 10, 11, 12, 13, 15, 16, 17] _ _
      generalize w3.drew.alloc (.cells zs 25) = wx at *
      refine runB_one 9 (by kernel_rfl) (by kernel_rfl) (by rfl) (by rfl) ?_
      refine tdoes_call (f := ?_) (args := ?_) (w1 := ?_) ?_ ?_
      rotate_left 3
      focus (go_simp; refine ⟨⟨?_, ?_⟩, ?_⟩ <;> with_reducible rfl)
      refine (HVAL.out _).mono ?_
      rintro e w4 ⟨rfl, hb⟩
      refine ⟨_, rfl, HA.out.next hb, ?_⟩
      (try dsimp only [Act.put])
      try simp only [List.setIfInBounds_toArray, List.set_cons_zero, List.set_cons_succ]
      have HS4 := Lib.hid (HB1.out.next hb)
      clear hb
      have HA4 := Lib.hid (HS4.out.sub (List.sublist_cons_self _ _))
      show runB _ _ _ _ 7 [10, 11, 12, 13, 15, 16, 17] _ _
      repeat (first | (refine runB_val (v := ?_) (by rfl) (by rfl) (by kernel_rfl) (by rfl) ?_ ?_; rotate_left; (focus (intro w_ hw_; have c0_ := hw_.cell 3 0 rfl (show (insRow i)[0]? = some (.int .i64 i.op) from rfl); have c1_ := hw_.cell 3 1 rfl (show (insRow i)[1]? = some (.int .i64 (D : Nat)) by rw [← HDS.out.1]; rfl); have c2_ := hw_.cell 4 D rfl (sr_get HVD.out.1); have i0 : (0 : Int) ≤ (D : Int) := (by omega); have i1 : (D : Int) < 16 := (by have := HL16.out.1; omega); go_simp; (try with_reducible rfl); done)); (try dsimp only [Act.put])) | (refine runB_val (v := .agg (stRow s1).toArray) (by rfl) (by rfl) (by kernel_rfl) (by rfl) (fun w_ hw_ => hw_.exec 1 rfl _ rfl rfl Tryz.underlying25 rfl (sr_size HOK1.out)) ?_; (try dsimp only [Act.put])))
      try simp only [List.setIfInBounds_toArray, List.set_cons_zero, List.set_cons_succ]
      refine runB_one 15 (by kernel_rfl) (by kernel_rfl) (by rfl) (by rfl) ?_
      refine tdoes_skip (w1 := w4.setRow w3.drew.heap.size (stRow s1).toArray) (sep_store 25 _ _ rfl w3.drew.heap.size (stRow s1).toArray rfl rfl 25 _ (HS4.out.at_ 0 rfl) (sr_size HOKT.out) (by rw [stRow_size HOKT.out]; rfl) (stRow_one _)) ⟨((HS4.out.setRow 0 rfl (stRow s1))).sub (List.sublist_cons_self _ _), ?_⟩
      (try dsimp only [Act.put])
      show runB _ _ _ _ 2 [16, 17] _ _
      repeat (first | (refine runB_val (v := ?_) (by rfl) (by rfl) (by kernel_rfl) (by rfl) ?_ ?_; rotate_left; (focus (intro w_ hw_; have c0_ := hw_.cell 3 0 rfl (show (insRow i)[0]? = some (.int .i64 i.op) from rfl); have c1_ := hw_.cell 3 1 rfl (show (insRow i)[1]? = some (.int .i64 (D : Nat)) by rw [← HDS.out.1]; rfl); have c2_ := hw_.cell 4 D rfl (sr_get HVD.out.1); have i0 : (0 : Int) ≤ (D : Int) := (by omega); have i1 : (D : Int) < 16 := (by have := HL16.out.1; omega); go_simp; (try with_reducible rfl); done)); (try dsimp only [Act.put])) | (refine runB_val (v := .agg (stRow s1).toArray) (by rfl) (by rfl) (by kernel_rfl) (by rfl) (fun w_ hw_ => hw_.exec 1 rfl _ rfl rfl Tryz.underlying25 rfl (sr_size HOK1.out)) ?_; (try dsimp only [Act.put])))
      try simp only [List.setIfInBounds_toArray, List.set_cons_zero, List.set_cons_succ]
      refine runB_nil ?_
      go_wp2_with fail
      go_meet
      exact ⟨w3.drew.heap.size, rfl, rfl, rfl, HS4.out.setRow 0 rfl (stRow s1)⟩
  case rest =>
  obtain ⟨gt, rfl, rfl, rfl, hH⟩ := hcut
  obtain ⟨w5, rfl⟩ : ∃ q : World, q = wc := ⟨_, rfl⟩
  clear H HVAL
  have H := Lib.hid hH
  clear hH
  have yop := H.out.cell 4 0 rfl (show (insRow i)[0]? = some (.int .i64 31) by rw [← HOP.out]; rfl)
  have HCD := HCODE.out
  rw [if_pos (by trivial)] at HCD
  clear HCODE
  have HCODE := Lib.hid HCD
  clear HCD
  have HFL := Lib.hid (H.out.cell 5 19 rfl (sr_hi HS.out.len 3))
  cases hf : s.zf
  · have kf := HFL.out
    rw [hf] at kf
    have HF := Lib.hid hf
    clear hf HFL
    have u2 := HIMM.out
    have e16 : IntKind.u64.wrap ((q : Int) + (u64 i.imm : Int)) = (((q + u64 i.imm) % 18446744073709551616 : Nat) : Int) := by rw [wrapU']; omega
    obtain ⟨t8, ht8⟩ : ∃ t8, t8 = (q + u64 i.imm) % 18446744073709551616 := ⟨_, rfl⟩
    rw [← ht8] at e16
    have HT8 := Lib.hid ht8
    clear ht8
    have yimm := H.out.cell 4 8 rfl (show (insRow i)[8]? = some (.int .i64 i.imm) from rfl)
    have n16 := H.out.cell 2 16 rfl (show (stRow s1)[16]? = some (.int .u64 (q : Nat)) by rw [HS1.out]; exact sr_hi (s := { s with pc := q }) HS.out.len 0)
    have f16 := H.out.frozen 2 16 rfl
    go_upto_region 18 with fail
    refine sep_name ?_
    intro W6 hW6
    have hH := (H.out.setCell 2 rfl 16 (.int .u64 (t8 : Nat)) (sr_pc HOK1.out.len)).cast hW6
    clear H hW6 n16 f16 yimm e16 u2 yop kf
    have H := Lib.hid hH
    clear hH
    have HJ := Lib.hid (show jumpS s1 true i.imm = { s1 with pc := t8 } by rw [HT8.out]; unfold jumpS; rw [if_pos rfl, show s1.pc = q by rw [HS1.out]])
    have HCD := HCODE.out
    rw [HF.out] at HCD
    rw [show (!false) = true from rfl] at HCD
    rw [HJ.out] at HCD
    clear HCODE
    have HCODE := Lib.hid HCD
    clear HCD
    have HOKE := Lib.hid (show StOk { s1 with pc := t8 } from ⟨HOK1.out.len, HOK1.out.regs, by rw [HT8.out]; exact Nat.mod_lt _ (by decide)⟩)
    have n16 := H.out.cell 2 16 rfl (sr_hi HOKE.out.len 0)
    go_wp2_with fail
    refine (Revent_any 4 t8 _).mono ?_
    rintro e w7 ⟨rfl, hb⟩
    have hH := H.out.next hb
    have HA := Lib.hid (hH.next ((Below.refl _ _).alloc (Nat.le_refl _) (.cells #[.int .i64 4, .int .u64 (t8 : Nat)] 47)))
    clear H hH hb n16
    obtain ⟨j0, hie, hy0, hy1, hy2⟩ := info_parts infoEv
    go_upto_region 47 with ((at_builtin; refine wpList_append_own_at _ rfl _ _ 42 rfl w.heap.size 47 j0 (.agg #[.int .i64 0, .int .u64 0]) 2 16 Tryz.underlying42 hie hy0 hy1 hy2 rfl (by decide) _ 1 _ rfl (HA.out.get 1 rfl) ⟨w7.heap.size, 0, none⟩ 1 1 [.int .i64 4, .int .u64 (t8 : Nat)] rfl (by simp) (World.news_of_block (cs := #[.int .i64 4, .int .u64 (t8 : Nat)]) (t := 47) (fr := (0, 0)) (heap_alloc_new w7 _)) (by simp [Value.oneCell']) (by unfold maxLen; omega) (by omega) HA.out.size ?_); intro vl w8 hown hg _ hbk; obtain ⟨A8, c8, rfl⟩ : ∃ A c, vl = .slice A 2 c := own_two hown; have hH8 := HA.out.grown 1 rfl hown hg (own_of hbk); have H8 := Lib.hid hH8; clear hown hg hbk hH8)
    clear HA hie hy0 hy1 hy2
    have H := H8
    clear H8
    go_wp2_with (first | ((with_reducible refine sep_id ?_); refine H.out.load 2 rfl _ rfl rfl rfl Tryz.underlying25 rfl (sr_size HOKE.out) ?_) | ((with_reducible refine sep_id ?_); refine H.out.storeBox 3 (row' := stRow { s1 with pc := t8 }) rfl (by rw [zeroSt_len, sr_len HOKE.out]) _ _ rfl rfl rfl rfl (sr_size HOKE.out) (stRow_one _) ?_; intro W9 hW9; have HZ := Lib.hid hW9; clear hW9))
    refine bodyPost_ret (results3 (ty := 25) rfl _ _ (w.heap.size + 1 + 1) 25 (stRow { s1 with pc := t8 }).toArray (0, 0) _ rfl (HZ.out.at_ 3 rfl) Tryz.underlying25 rfl (sr_size HOKE.out)) rfl ?_
    rw [HCODE.out]
    exact ⟨_, rfl, HZ.out.chg, HZ.out.get 6 rfl, HZ.out.get 1 rfl⟩
  · have kf := HFL.out
    rw [hf] at kf
    have HF := Lib.hid hf
    clear hf HFL
    have n16 := H.out.cell 2 16 rfl (show (stRow s1)[16]? = some (.int .u64 (q : Nat)) by rw [HS1.out]; exact sr_hi (s := { s with pc := q }) HS.out.len 0)
    have HCD := HCODE.out
    rw [HF.out] at HCD
    rw [show (!true) = false from rfl] at HCD
    rw [show jumpS s1 false i.imm = s1 from rfl, show s1.pc = q by rw [HS1.out]] at HCD
    clear HCODE
    have HCODE := Lib.hid HCD
    clear HCD
    have HOKE := HOK1
    go_upto_region 18 with fail
    go_wp2_with fail
    refine (Revent_any 4 q _).mono ?_
    rintro e w7 ⟨rfl, hb⟩
    have hH := H.out.next hb
    have HA := Lib.hid (hH.next ((Below.refl _ _).alloc (Nat.le_refl _) (.cells #[.int .i64 4, .int .u64 (q : Nat)] 47)))
    clear H hH hb n16 yop kf
    obtain ⟨j0, hie, hy0, hy1, hy2⟩ := info_parts infoEv
    go_upto_region 47 with ((at_builtin; refine wpList_append_own_at _ rfl _ _ 42 rfl w.heap.size 47 j0 (.agg #[.int .i64 0, .int .u64 0]) 2 16 Tryz.underlying42 hie hy0 hy1 hy2 rfl (by decide) _ 1 _ rfl (HA.out.get 1 rfl) ⟨w7.heap.size, 0, none⟩ 1 1 [.int .i64 4, .int .u64 (q : Nat)] rfl (by simp) (World.news_of_block (cs := #[.int .i64 4, .int .u64 (q : Nat)]) (t := 47) (fr := (0, 0)) (heap_alloc_new w7 _)) (by simp [Value.oneCell']) (by unfold maxLen; omega) (by omega) HA.out.size ?_); intro vl w8 hown hg _ hbk; obtain ⟨A8, c8, rfl⟩ : ∃ A c, vl = .slice A 2 c := own_two hown; have hH8 := HA.out.grown 1 rfl hown hg (own_of hbk); have H8 := Lib.hid hH8; clear hown hg hbk hH8)
    clear HA hie hy0 hy1 hy2
    have H := H8
    clear H8
    go_wp2_with (first | ((with_reducible refine sep_id ?_); refine H.out.load 2 rfl _ rfl rfl rfl Tryz.underlying25 rfl (sr_size HOKE.out) ?_) | ((with_reducible refine sep_id ?_); refine H.out.storeBox 3 (row' := stRow s1) rfl (by rw [zeroSt_len, sr_len HOKE.out]) _ _ rfl rfl rfl rfl (sr_size HOKE.out) (stRow_one _) ?_; intro W9 hW9; have HZ := Lib.hid hW9; clear hW9))
    refine bodyPost_ret (results3 (ty := 25) rfl _ _ (w.heap.size + 1 + 1) 25 (stRow s1).toArray (0, 0) _ rfl (HZ.out.at_ 3 rfl) Tryz.underlying25 rfl (sr_size HOKE.out)) rfl ?_
    rw [HCODE.out]
    exact ⟨_, rfl, HZ.out.chg, HZ.out.get 6 rfl, HZ.out.get 1 rfl⟩

end Go.Proofs.YtmanhikpccnfaaaGreat
