/- limb's checker: op: an operation looked at. -/
import Derived.Test.YtppoiahhaclleaaDoorLimbG
namespace Go.Proofs.YtppoiahhaclleaaDoor
open Go.RowKit

/-- A checker in block b, that knows s: since w0 only new blocks have changed. -/
structure CAt (w0 w : World) (b : Nat) (regs : Int) (vb vo : Value) (s : CSt) : Prop where
  below : Below w0.heap.size w0 w
  bge : w0.heap.size ≤ b
  m64 : s.made.length = 64
  few : s.loops.length ≤ 8
  inr : ∀ r ∈ s.loops, 0 ≤ r ∧ r < 64
  vl : ∃ A c, ChkAt w b regs vb vo s.made (.slice A s.loops.length c) ∧ w.ownsRow w0.heap.size 3 1 (.slice A s.loops.length c) s.loops.length (intV s.loops) ∧ (Value.slice A s.loops.length c).ownBlock ≠ some b
theorem CAt.next {w0 w w' : World} {b : Nat} {regs : Int} {vb vo : Value} {s : CSt} (h : CAt w0 w b regs vb vo s) (hb : Below w.heap.size w w') : CAt w0 w' b regs vb vo s := by
  obtain ⟨A, c, h1, h2, h3⟩ := h.vl
  exact ⟨h.below.trans (hb.mono h.below.size), h.bge, h.m64, h.few, h.inr, A, c, chk_next h1 hb, row_keep (fun g hg => hb.block g (own_lt h2 g hg).1) h2, h3⟩
theorem below_chg {w0 w w' : World} {F : Nat → Prop} (h : Below w0.heap.size w0 w) (hc : Chg F w w') (hF : ∀ k, F k → w0.heap.size ≤ k) : Below w0.heap.size w0 w' :=
  h.trans (hc.below (fun k hk hk' => by have := hF k hk'; omega) h.size)
theorem slice_own {A : Option Addr} {n n' c : Nat} : (Value.slice A n c).ownBlock = (Value.slice A n' c).ownBlock := by cases A <;> rfl
theorem intV_take (l : List Int) (k : Nat) : (intV l).take k = intV (l.take k) := by unfold intV; rw [List.map_take]
theorem reg_lt {p : LP} {o : LOp} (h : fieldsF p o = true) (h64 : p.regs ≤ 64) : o.d < 64 ∧ o.e < 64 ∧ o.a < 64 ∧ o.b < 64 ∧ o.c < 64 ∧ ((o.kind == 16) = true → 0 ≤ o.d) := by
  unfold fieldsF regsOk at h
  simp only [Bool.and_eq_true] at h
  obtain ⟨_, _, ⟨hd, he, ha, hb, hc⟩, _⟩ := h
  have key : ∀ (r : Int) (q : Bool), regIs p r q = true → r < 64 := fun r q h => by
    unfold regIs at h
    cases q <;> simp at h <;> omega
  refine ⟨key _ _ hd, key _ _ he, ?_, key _ _ hb, key _ _ hc, fun hk => ?_⟩
  · rw [Bool.or_eq_true] at ha
    rcases ha with ha | ha
    · exact key _ _ ha
    · simp at ha; omega
  · have h16 : o.kind = 16 := by simpa using hk
    rw [h16] at hd
    unfold regIs at hd
    rw [show kD 16 = true from rfl] at hd
    simp at hd
    omega

set_option maxRecDepth 100000 in
set_option maxHeartbeats 8000000 in
theorem op_any (p : LP) (Ab Ao : Option Addr) (nb cb no co : Nat) (o : LOp) (b : Nat) (s : CSt) (w0 w : World) (hs : CAt w0 w b p.regs (.slice Ab nb cb) (.slice Ao no co) s) (h64 : p.regs ≤ 64)
    (hp : ProgAt w (fun k => k < w.heap.size) [.int .i64 p.regs, .slice Ab nb cb, .slice Ao no co] p) (hsz : ∀ b ∈ p.bufs, 0 ≤ b.size) :
    Calls Tryd.prog 49 #[.pointer (some ⟨b, 0, none⟩), .agg (opRow o).toArray] w fun e w' => e = .returned (.int .i64 (opF p o s).1) ∧ CAt w0 w' b p.regs (.slice Ab nb cb) (.slice Ao no co) (opF p o s).2 := by
  obtain ⟨W, hW, hbW, hzW, _, _⟩ := boxed w (opRow o).toArray 47
  have hO : OpAt W w.heap.size o := by unfold OpAt; rw [hW]; exact heap_alloc_new w _
  have hs1 := hs.next hbW
  have hp1 := prog_next hp hbW
  obtain ⟨A, c, hC0, hown0, hnb⟩ := hs.vl
  have hbo : b ≠ w.heap.size := by
    have := lt_of_block hC0
    omega
  have hno : (Value.slice A s.loops.length c).ownBlock ≠ some w.heap.size := fun e => by
    have := (own_lt hown0 _ e).1
    omega
  have hC := chk_next hC0 hbW
  have hown := row_keep (fun g hg => hbW.block g (own_lt hown0 g hg).1) hown0
  have HW := Lib.hid hW
  generalize hbo2 : w.heap.size = bo at *
  go_enter Tryd.func49, Tryd.ntmps49
  go_upto_region 1 with fail
  rw [← HW.out]
  refine wp_code (c := partR Tryd.f49 1) (by kernel_rfl) ?_
  refine op_r1 (p := p) (o := o) (vl := .slice A s.loops.length c) _ _ hC hO hp1 hsz ?_
  intro v7 v8 v9 v10 v11 v12 w1 hb1
  have HS1 := Lib.hid (hs1.next hb1)
  have HO1 := Lib.hid (op_next hO hb1)
  have hown1 := row_keep (fun g hg => hb1.block g (own_lt hown g hg).1) hown
  have HC1 := Lib.hid (chk_next hC hb1)
  have HOWN1 := Lib.hid hown1
  have HNB := Lib.hid hnb
  have HNO := Lib.hid hno
  have HBB := Lib.hid (And.intro hbo hbo2)
  have H64 := Lib.hid h64
  have HFEW := Lib.hid hs.few
  have HM := Lib.hid hs.m64
  have HINR := Lib.hid hs.inr
  clear hs hp hsz hbW hzW hO hs1 hp1 hbo hown0 hC0 hno hbo2 hC hown hnb hb1 hown1 h64
  obtain ⟨x, hx⟩ : ∃ x, fieldsF p o = x := ⟨_, rfl⟩
  rw [hx]
  have HX := Lib.hid hx
  clear hx
  cases x
  · have hv : opF p o s = (2, s) := by unfold opF; rw [if_pos HX.out]
    have d1 : (!false) = true := rfl
    have HV := Lib.hid hv
    clear hv
    go_wp2
    go_ret
    rw [HV.out]
    exact ⟨rfl, HS1.out⟩
  have HREG := Lib.hid (reg_lt HX.out H64.out)
  have c0 : w1.cell? ⟨bo, 0, none⟩ = some (.int .i64 o.kind) := cell_row HO1.out rfl
  have c67 : w1.cell? ⟨b, 67, none⟩ = some (.slice A s.loops.length c) := cell_row HC1.out (chk_loops HM.out)
  have f67 : w1.frozen? ⟨b, 67, none⟩ = false := frozen_row HC1.out 67
  have HCELL := Lib.hid (And.intro c0 (And.intro c67 f67))
  by_cases h17 : o.kind = 17
  · have e17 : (o.kind == 17) = true := by simpa using h17
    by_cases hl : s.loops = []
    · have hv : opF p o s = (9, s) := by unfold opF; rw [if_neg (by rw [HX.out]; decide), if_pos h17, if_pos hl]
      have HV := Lib.hid hv
      have d1 : (((s.loops.length : Nat) : Int) == 0) = true := by rw [hl]; rfl
      clear hv hl h17
      go_wp2
      go_ret
      rw [HV.out]
      exact ⟨rfl, HS1.out⟩
    · have hv : opF p o s = (0, ⟨putF s.made (s.loops.getLastD 0) false, s.loops.dropLast⟩) := by unfold opF; rw [if_neg (by rw [HX.out]; decide), if_pos h17, if_neg hl]
      have HV := Lib.hid hv
      have hpos : 0 < s.loops.length := List.length_pos_iff.2 hl
      obtain ⟨q, hq⟩ : ∃ q, s.loops.length = q + 1 := ⟨s.loops.length - 1, by omega⟩
      have hq9 : q ≤ 8 := by have := HFEW.out; omega
      have hlast : s.loops[q]? = some (s.loops.getLastD 0) := by
        rw [List.getLastD_eq_getLast?, List.getLast?_eq_getElem?, show s.loops.length - 1 = q by omega, List.getElem?_eq_getElem (by omega)]
        rfl
      have HQ := Lib.hid hq
      have HLAST := Lib.hid hlast
      have d1 : (((s.loops.length : Nat) : Int) == 0) = false := by simpa using (by omega : s.loops.length ≠ 0)
      have d2 : IntKind.i64.wrap (((s.loops.length : Nat) : Int) - 1) = q := by rw [hq]; simp [IntKind.wrap, IntKind.bits, IntKind.signed]; omega
      clear hv hl h17 hpos hq hlast
      go_upto_region 7 with fail
      refine wp_code (c := partR Tryd.f49 7) (by kernel_rfl) ?_
      refine op_r7 (q := q) (loops := s.loops) (p := p) (m := s.made) (x := s.loops.getLastD 0) _ _ HC1.out HM.out (nums_own HOWN1.out) (fun g hg => (own_lt HOWN1.out g hg).1) HLAST.out ((HINR.out _ (List.mem_of_getElem? HLAST.out)).2) (by have := HQ.out; omega) (by have := HFEW.out; omega) ?_
      intro v29 v30 v31 v32 v33 v34 v35 v36 v37 v38 v39 v40 w7 hch hca
      have HCA := Lib.hid hca
      have HCH := Lib.hid hch
      have HOWN7 := Lib.hid (row_keep (w' := w7) (fun g hg => hch.block g (own_lt HOWN1.out g hg).1 (fun e => HNB.out (by rw [hg, e]))) HOWN1.out)
      clear c0 c67 f67 hch hca
      have c67 : w7.cell? ⟨b, 67, none⟩ = some (.slice A s.loops.length c) := cell_row HCA.out (chk_loops (by rw [putL_len]; exact HM.out))
      have f67 : w7.frozen? ⟨b, 67, none⟩ = false := frozen_row HCA.out 67
      have q0 : (0 : Int) ≤ (q : Int) := by omega
      have q1 : (q : Int) ≤ (s.loops.length : Int) := by have := HQ.out; omega
      have q2 : (q : Int) ≤ (c : Int) := by
        rcases HOWN7.out.2 with ⟨h1, h2⟩ | ⟨g, cap, cur, hv, _, _, hnc, _⟩
        · have := HQ.out; omega
        · cases hv; omega
      go_wp2
      go_ret
      rw [HV.out]
      refine ⟨rfl, ?_⟩
      have hdl : s.loops.take q = s.loops.dropLast := by rw [List.dropLast_eq_take, show s.loops.length - 1 = q by have := HQ.out; omega]
      have hln : s.loops.dropLast.length = q := by rw [List.length_dropLast]; have := HQ.out; omega
      have hput : putL [s.loops.getLastD 0] s.made false = putF s.made (s.loops.getLastD 0) false := rfl
      have hset := setCell_row HCA.out 67 (.slice A q c)
      rw [chk_setL _ (by rw [putL_len]; exact HM.out), hput] at hset
      have hbel : Below w0.heap.size w0 (w7.setCell ⟨b, 67, none⟩ (.slice A q c)) := below_chg HS1.out.below (HCH.out.setCell (.inl rfl) _) (fun k hk => by rw [hk]; exact HS1.out.bge)
      have hown7 := own_take HOWN7.out (k := q) (by have := HQ.out; omega)
      rw [intV_take, hdl] at hown7
      refine ⟨hbel, HS1.out.bge, by rw [put_len]; exact HM.out, by rw [hln]; omega, fun r hr => HINR.out r ((List.dropLast_sublist _).subset hr), A, c, ?_, ?_, ?_⟩
      · rw [hln]; exact hset
      · rw [hln]; exact row_keep (fun g hg => Below.heap_setCell _ _ _ _ (fun e => HNB.out (by rw [slice_own (n' := q), hg, e]))) hown7
      · rw [slice_own (n' := s.loops.length)]; exact HNB.out
  · have e17 : (o.kind == 17) = false := by simpa using h17
    obtain ⟨lp, hlp⟩ : ∃ x, (o.kind == 16) = x := ⟨_, rfl⟩
    have HLP := Lib.hid hlp
    have hmd : lp = true → ∃ q : Nat, o.d = q ∧ q < s.made.length := fun h => by
      have h1 := HREG.out.2.2.2.2.2 (by rw [hlp]; exact h)
      have h2 := HREG.out.1
      exact ⟨o.d.toNat, by omega, by rw [HM.out]; omega⟩
    have HMD := Lib.hid hmd
    have H17 := Lib.hid h17
    clear hmd h17
    go_upto_region 11 with fail
    refine wp_code (c := partR Tryd.f49 11) (by kernel_rfl) ?_
    refine op_r11 (p := p) (o := o) (lp := lp) (m := s.made) (vl := .slice A s.loops.length c) (loops := s.loops) _ _ HC1.out HO1.out HM.out (nums_own HOWN1.out) (by have := HFEW.out; omega) HMD.out ?_
    intro v54 v55 v56 v57 v58 v59 v60 v61 v62 v63 v64 v65 v66 v67 v68 v69 v70 v71 v72 v73 v74 v75 w2 hb2
    have HS2 := Lib.hid (HS1.out.next hb2)
    have HO2 := Lib.hid (op_next HO1.out hb2)
    have HC2 := Lib.hid (chk_next HC1.out hb2)
    have HOWN2 := Lib.hid (row_keep (fun g hg => hb2.block g (own_lt HOWN1.out g hg).1) HOWN1.out)
    clear c0 c67 f67 hlp hb2
    obtain ⟨y, hy⟩ : ∃ y, (inF s.loops o.d || (inF s.loops o.e || (lp && madeF s.made o.d))) = y := ⟨_, rfl⟩
    rw [hy]
    have HY := Lib.hid (show (inF s.loops o.d || inF s.loops o.e || (o.kind == 16 && madeF s.made o.d)) = y by rw [HLP.out, ← hy, Bool.or_assoc])
    clear hy
    cases y
    rotate_left
    · have HV := Lib.hid (show opF p o s = (9, s) by unfold opF; rw [if_neg (by rw [HX.out]; decide), if_neg H17.out, if_pos HY.out])
      go_wp2
      go_ret
      rw [HV.out]
      exact ⟨rfl, HS2.out⟩
    cases lp
    · go_upto_region 15 with fail
      refine wp_code (c := partR Tryd.f49 15) (by kernel_rfl) ?_
      refine op_r15 (p := p) (o := o) (m := s.made) (vl := .slice A s.loops.length c) _ _ HC2.out HO2.out HM.out (by have := HREG.out; simp only [List.mem_cons, List.not_mem_nil, or_false]; rintro r (rfl | rfl | rfl) <;> omega) ?_
      intro v87 v88 v89 v90 v91 v92 v93 v94 v95 v96 v97 v98 w3 hb3
      have HS3 := Lib.hid (HS2.out.next hb3)
      have HO3 := Lib.hid (op_next HO2.out hb3)
      have HC3 := Lib.hid (chk_next HC2.out hb3)
      have HOWN3 := Lib.hid (row_keep (fun g hg => hb3.block g (own_lt HOWN2.out g hg).1) HOWN2.out)
      clear hb3
      (try clear c67)
      obtain ⟨z, hz⟩ : ∃ z, [o.a, o.b, o.c].any (lackF s.made) = z := ⟨_, rfl⟩
      rw [hz]
      have HZ := Lib.hid (show (lackF s.made o.a || lackF s.made o.b || lackF s.made o.c) = z by rw [← hz]; simp [Bool.or_assoc])
      clear hz
      cases z
      rotate_left
      · have HV := Lib.hid (show opF p o s = (5, s) by unfold opF; rw [if_neg (by rw [HX.out]; decide), if_neg H17.out, if_neg (by rw [HY.out]; decide), if_neg (by have := HLP.out; first | exact fun h => H8.out h.2 | (intro h; rw [h.1] at this; cases this)), if_pos HZ.out])
        go_wp2
        go_ret
        rw [HV.out]
        exact ⟨rfl, HS3.out⟩
      go_upto_region 17 with fail
      refine wp_code (c := partR Tryd.f49 17) (by kernel_rfl) ?_
      refine op_r17 (p := p) (o := o) (m := s.made) (vl := .slice A s.loops.length c) _ _ HC3.out HO3.out HM.out (by have := HREG.out; simp only [List.mem_cons, List.not_mem_nil, or_false]; rintro r (rfl | rfl) <;> omega) ?_
      intro v99 v100 v101 v102 v103 v104 v105 v106 v107 w4 hch4 hca4
      have HB4 := Lib.hid (below_chg HS3.out.below hch4 (fun k hk => by rw [hk]; exact HS3.out.bge))
      have HCH4 := Lib.hid hch4
      have HC4 := Lib.hid hca4
      have HOWN4 := Lib.hid (row_keep (w' := w4) (fun g hg => hch4.block g (own_lt HOWN3.out g hg).1 (fun e => HNB.out (by rw [hg, e]))) HOWN3.out)
      clear hch4 hca4
      have HV := Lib.hid (show opF p o s = (0, ⟨putF (putF s.made o.d true) o.e true, if o.kind = 16 then s.loops ++ [o.d] else s.loops⟩) by unfold opF; rw [if_neg (by rw [HX.out]; decide), if_neg H17.out, if_neg (by rw [HY.out]; decide), if_neg (by have := HLP.out; first | exact fun h => H8.out h.2 | (intro h; rw [h.1] at this; cases this)), if_neg (by rw [HZ.out]; decide)])
      have HV := Lib.hid (HV.out.trans (show _ = ((0 : Int), (⟨putF (putF s.made o.d true) o.e true, s.loops⟩ : CSt)) by have := HLP.out; first | rw [if_pos (by simpa using this)] | rw [if_neg (by simpa using this)]))
      go_wp2
      go_ret
      rw [HV.out]
      refine ⟨rfl, HB4.out, HS2.out.bge, by rw [put_len, put_len]; exact HM.out, HFEW.out, HINR.out, A, c, HC4.out, HOWN4.out, HNB.out⟩
    · have c67 : w2.cell? ⟨b, 67, none⟩ = some (.slice A s.loops.length c) := cell_row HC2.out (chk_loops HM.out)
      by_cases h8 : s.loops.length = 8
      · have d8 : (((s.loops.length : Nat) : Int) == 8) = true := by rw [h8]; rfl
        have HV := Lib.hid (show opF p o s = (10, s) by unfold opF; rw [if_neg (by rw [HX.out]; decide), if_neg H17.out, if_neg (by rw [HY.out]; decide), if_pos ⟨by simpa using HLP.out, h8⟩])
        clear h8
        go_wp2
        go_ret
        rw [HV.out]
        exact ⟨rfl, HS2.out⟩
      · have d8 : (((s.loops.length : Nat) : Int) == 8) = false := beq_eq_false_iff_ne.2 (by omega)
        have H8 := Lib.hid h8
        clear h8
        go_upto_region 15 with fail
        refine wp_code (c := partR Tryd.f49 15) (by kernel_rfl) ?_
        refine op_r15 (p := p) (o := o) (m := s.made) (vl := .slice A s.loops.length c) _ _ HC2.out HO2.out HM.out (by have := HREG.out; simp only [List.mem_cons, List.not_mem_nil, or_false]; rintro r (rfl | rfl | rfl) <;> omega) ?_
        intro v87 v88 v89 v90 v91 v92 v93 v94 v95 v96 v97 v98 w3 hb3
        have HS3 := Lib.hid (HS2.out.next hb3)
        have HO3 := Lib.hid (op_next HO2.out hb3)
        have HC3 := Lib.hid (chk_next HC2.out hb3)
        have HOWN3 := Lib.hid (row_keep (fun g hg => hb3.block g (own_lt HOWN2.out g hg).1) HOWN2.out)
        clear hb3
        (try clear c67)
        obtain ⟨z, hz⟩ : ∃ z, [o.a, o.b, o.c].any (lackF s.made) = z := ⟨_, rfl⟩
        rw [hz]
        have HZ := Lib.hid (show (lackF s.made o.a || lackF s.made o.b || lackF s.made o.c) = z by rw [← hz]; simp [Bool.or_assoc])
        clear hz
        cases z
        rotate_left
        · have HV := Lib.hid (show opF p o s = (5, s) by unfold opF; rw [if_neg (by rw [HX.out]; decide), if_neg H17.out, if_neg (by rw [HY.out]; decide), if_neg (by have := HLP.out; first | exact fun h => H8.out h.2 | (intro h; rw [h.1] at this; cases this)), if_pos HZ.out])
          go_wp2
          go_ret
          rw [HV.out]
          exact ⟨rfl, HS3.out⟩
        go_upto_region 17 with fail
        refine wp_code (c := partR Tryd.f49 17) (by kernel_rfl) ?_
        refine op_r17 (p := p) (o := o) (m := s.made) (vl := .slice A s.loops.length c) _ _ HC3.out HO3.out HM.out (by have := HREG.out; simp only [List.mem_cons, List.not_mem_nil, or_false]; rintro r (rfl | rfl) <;> omega) ?_
        intro v99 v100 v101 v102 v103 v104 v105 v106 v107 w4 hch4 hca4
        have HB4 := Lib.hid (below_chg HS3.out.below hch4 (fun k hk => by rw [hk]; exact HS3.out.bge))
        have HCH4 := Lib.hid hch4
        have HC4 := Lib.hid hca4
        have HOWN4 := Lib.hid (row_keep (w' := w4) (fun g hg => hch4.block g (own_lt HOWN3.out g hg).1 (fun e => HNB.out (by rw [hg, e]))) HOWN3.out)
        clear hch4 hca4
        have HV := Lib.hid (show opF p o s = (0, ⟨putF (putF s.made o.d true) o.e true, if o.kind = 16 then s.loops ++ [o.d] else s.loops⟩) by unfold opF; rw [if_neg (by rw [HX.out]; decide), if_neg H17.out, if_neg (by rw [HY.out]; decide), if_neg (by have := HLP.out; first | exact fun h => H8.out h.2 | (intro h; rw [h.1] at this; cases this)), if_neg (by rw [HZ.out]; decide)])
        have HV := Lib.hid (HV.out.trans (show _ = ((0 : Int), (⟨putF (putF s.made o.d true) o.e true, s.loops ++ [o.d]⟩ : CSt)) by have := HLP.out; first | rw [if_pos (by simpa using this)] | rw [if_neg (by simpa using this)]))
        go_upto_region 19 with fail
        refine wp_code (c := partR Tryd.f49 19) (by kernel_rfl) ?_
        have HO4 := Lib.hid (show OpAt w4 bo o from (HCH4.out.block bo (lt_of_block HO3.out) (fun e => HBB.out.1 e.symm)).trans HO3.out)
        refine op_r19 (p := p) (o := o) (m := putL [o.d, o.e] s.made true) (n := s.loops.length) (base := w0.heap.size) (loops := s.loops) _ _ HC4.out HO4.out (by rw [putL_len]; exact HM.out) rfl HOWN4.out ⟨HNB.out, HNO.out⟩ (by have := HFEW.out; omega) HB4.out.size ?_
        intro v109 v110 v111 v112 v113 v114 v115 v116 v117 v118 v119 w5 vl' hown5 hca5 hch5 hwh5
        have HLT := Lib.hid (lt_of_block HC4.out)
        obtain ⟨A5, c5, rfl⟩ := own_form hown5
        have HOWN5 := Lib.hid hown5
        have HC5 := Lib.hid hca5
        have HCH5 := Lib.hid hch5
        have HNB5 := Lib.hid (own_ne hwh5 HNB.out HLT.out)
        clear hown5 hca5 hch5 hwh5
        go_wp2
        go_ret
        rw [HV.out]
        have hl5 : (s.loops ++ [o.d]).length = s.loops.length + 1 := by simp
        refine ⟨rfl, below_chg HB4.out HCH5.out (fun k hk => ?_), HS2.out.bge, by rw [put_len, put_len]; exact HM.out, ?_, fun r hr => ?_, A5, c5, ?_, ?_, ?_⟩
        · rcases hk with hk | hk
          · rw [hk]; exact HS2.out.bge
          · exact (own_lt HOWN4.out k hk).2
        · show (s.loops ++ [o.d]).length ≤ 8
          rw [hl5]; have := HFEW.out; have := H8.out; omega
        · rcases List.mem_append.1 hr with hr | hr
          · exact HINR.out r hr
          · rw [List.mem_singleton.1 hr]
            exact ⟨HREG.out.2.2.2.2.2 HLP.out, HREG.out.1⟩
        · show ChkAt w5 b _ _ _ _ (.slice A5 (s.loops ++ [o.d]).length c5)
          rw [hl5]; exact HC5.out
        · show w5.ownsRow _ _ _ (.slice A5 (s.loops ++ [o.d]).length c5) (s.loops ++ [o.d]).length (intV (s.loops ++ [o.d]))
          rw [hl5]; exact HOWN5.out
        · show (Value.slice A5 (s.loops ++ [o.d]).length c5).ownBlock ≠ _
          rw [hl5]; exact HNB5.out

end Go.Proofs.YtppoiahhaclleaaDoor
