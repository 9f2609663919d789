/- ref12.fields, at the kinds over memory; at any. -/
import Derived.Test.YtppoiahhaclleaaDoorRLimbD
namespace Go.Proofs.YtppoiahhaclleaaDoor
open Go.RowKit


set_option maxRecDepth 100000 in
set_option maxHeartbeats 8000000 in
theorem Rfields_14 (p : LP) (Ab Ao : Option Addr) (nb cb no co : Nat) (o : LOp) (w : World) (hp : ProgAt w (fun k => k < w.heap.size) [.int .i64 p.regs, .slice Ab nb cb, .slice Ao no co] p) (hs : ∀ b ∈ p.bufs, 0 ≤ b.size) (hk : o.kind = 14) :
    Calls Tryd.prog 27 #[.agg #[.int .i64 p.regs, .slice Ab nb cb, .slice Ao no co], .agg (opRow o).toArray] w fun e w' => e = .returned (.bool (fieldsF p o)) ∧ Below w.heap.size w w' := by
  obtain ⟨W, hW, hbW, hzW, kp, ko⟩ := two_rows w [.int .i64 p.regs, .slice Ab nb cb, .slice Ao no co] o 25 47
  have HW := Lib.hid hW
  have HB := Lib.hid hbW
  have KP := Lib.hid kp
  have KO := Lib.hid ko
  have LW := Lib.hid (show w.heap.size + 1 < W.heap.size by omega)
  have hBuf : BufsAt w (fun k => k < w.heap.size) (.slice Ab nb cb) p.bufs := by
    obtain ⟨vb, vo, h, h1, _⟩ := hp.row
    simp only [List.cons.injEq] at h
    rw [h.2.1]; exact h1
  have hnb := hp.nb
  obtain ⟨A', c', hv, hlen⟩ := rows_form hBuf
  cases hv
  have c0 : W.cell? ⟨w.heap.size + 1, 0, none⟩ = some (.int .i64 o.kind) := by simp only [World.cell?, ko]; rfl
  have c3 : W.cell? ⟨w.heap.size + 1, 3, none⟩ = some (.int .i64 o.a) := by simp only [World.cell?, ko]; rfl
  have c6 : W.cell? ⟨w.heap.size + 1, 6, none⟩ = some (.int .i64 o.buf) := by simp only [World.cell?, ko]; rfl
  have c7 : W.cell? ⟨w.heap.size + 1, 7, none⟩ = some (.int .u64 o.imm) := by simp only [World.cell?, ko]; rfl
  have d1 : W.cell? ⟨w.heap.size, 1, none⟩ = some (.slice Ab p.bufs.length cb) := by simp only [World.cell?, kp]; rfl
  rw [hk] at c0
  obtain ⟨m, hm⟩ : ∃ m, o.imm = m := ⟨_, rfl⟩
  obtain ⟨z, hz⟩ : ∃ z, o.buf = z := ⟨_, rfl⟩
  obtain ⟨a, ha⟩ : ∃ a, o.a = a := ⟨_, rfl⟩
  obtain ⟨X, hX⟩ : ∃ X, (regIs p o.d true && (regIs p o.e false && ((regIs p o.a true || (true && o.a == -1)) && (regIs p o.b false && (regIs p o.c false && !(false && o.d == o.e)))))) = X := ⟨_, rfl⟩
  have hf : fieldsF p o = (X && bufOk p o) := by
    rw [fields_split (by omega) (by omega), ← hX]
    unfold regsB
    rw [hk]
    rfl
  obtain ⟨R, hR⟩ : ∃ R, fieldsF p o = R := ⟨_, rfl⟩
  rw [hR]
  rw [hR] at hf
  have HX := Lib.hid hX
  have hbo : bufOk p o = (decide (0 ≤ z) && (decide (z < p.bufs.length) && match p.bufs[z.toNat]? with
      | some b => !(14 == 15 && b.kind == 1) && (!(a == -1) || decide ((m : Int) < b.size))
      | none => false)) := by
    unfold bufOk kM
    rw [hk, ← hm, ← hz, ← ha]
    rfl
  rw [hbo] at hf
  rw [hm] at c7
  rw [hz] at c6
  rw [ha] at c3
  have CC := Lib.hid (And.intro c3 (And.intro c6 (And.intro c7 d1)))
  have HBUF := Lib.hid hBuf
  have HS := Lib.hid hs
  have HSZ := Lib.hid hp.size
  have HF := Lib.hid hf
  have LW0 := Lib.hid (show w.heap.size < W.heap.size by omega)
  have LWW := Lib.hid hbW.size
  obtain ⟨n, hn⟩ : ∃ n, p.bufs.length = n := ⟨_, rfl⟩
  have HN := Lib.hid hn
  rw [hn] at hnb
  clear hbo hf hm hz ha hX hR hk c3 c6 c7 d1 hp hs hlen hBuf hW hbW hzW kp ko hn
  go_enter Tryd.func27, Tryd.ntmps27
  go_upto_region 1 with fail
  rw [← HW.out]
  go_upto_region 10 with fail
  refine wp_code (c := partR Tryd.f27 10) (by kernel_rfl) ?_
  refine rfields_r10 p Ab Ao p.bufs.length cb no co o _ _ true true false true false false _ _ _ _ _ _ _ _ _ _ _ _ _ _ _ _ _ _ _ _ _ _ _ _ _ _ _ _ _ _ _ _ _ _ _ _ _ _ _ _ _ _ _ _ _ _ _ _ _ _ _ _ _ _ _ _ _ _ _ _ _ _ _ _ _ _ _ _ _ _ _ _ _ _ _ _ _ _ _ _ _ _ _ _ _ _ _ _ _ _ _ _ _ _ _ _ _ _ _ _ _ _ _ _ _ _ _ _ _ _ _ _ _ _ _ _ _ _ _ _ _ _ _ _ _ _ _ _ _ _ _ _ _ _ _ _ _ _ _ _ _ _ _ _ _ _ _ _ _ _ _ _ _ _ _ _ _ _ _ _ _ _ _ _ _ _ _ _ _ _ _ _ _ _ _ _ _ _ _ _ _ _ _ _ _ _ _ _ _ _ _ _ _ _ _ _ _ _ _ _ _ _ _ _ _ _ KP.out KO.out ?_
  intro _ _ _ _ _ _ _ _ _ _ _ _ _ _ _ _ _ _ _ _ _ _ _ _ _ _ _ _ _ _ _ _ _ _ _ _ _ _ _ _ _ _ _ _ _ _ _ _ _ _ _ _ _ _ _ _ w2 hb2
  rw [HX.out]
  have c3 := (hb2.cell (p := ⟨w.heap.size + 1, 3, none⟩) LW.out).trans CC.out.1
  have c6 := (hb2.cell (p := ⟨w.heap.size + 1, 6, none⟩) LW.out).trans CC.out.2.1
  have c7 := (hb2.cell (p := ⟨w.heap.size + 1, 7, none⟩) LW.out).trans CC.out.2.2.1
  have d1 := (hb2.cell (p := ⟨w.heap.size, 1, none⟩) LW0.out).trans CC.out.2.2.2
  rw [HN.out] at d1
  have HB2 := Lib.hid hb2
  clear hb2 c0
  cases X
  · have HR := Lib.hid (show R = false by rw [HF.out]; rfl)
    go_wp2
    go_ret
    refine ⟨ret_bool ?_, HB.out.trans (HB2.out.mono HB.out.size)⟩
    rw [HR.out]
  by_cases z0 : z < 0
  · have g0 : decide (z < 0) = true := decide_eq_true z0
    have HR := Lib.hid (show R = false by rw [HF.out, decide_eq_false (by omega : ¬ 0 ≤ z)]; rfl)
    clear z0
    go_wp2
    go_ret
    refine ⟨ret_bool ?_, HB.out.trans (HB2.out.mono HB.out.size)⟩
    rw [HR.out]
  have g0 : decide (z < 0) = false := decide_eq_false z0
  by_cases z1 : (n : Int) ≤ z
  · have g1 : decide ((n : Int) ≤ z) = true := decide_eq_true z1
    have HR := Lib.hid (show R = false by rw [HF.out, HN.out, decide_eq_false (by omega : ¬ z < (n : Int))]; simp)
    clear z0 z1
    go_wp2
    go_ret
    refine ⟨ret_bool ?_, HB.out.trans (HB2.out.mono HB.out.size)⟩
    rw [HR.out]
  have g1 : decide ((n : Int) ≤ z) = false := decide_eq_false z1
  obtain ⟨q, hq⟩ : ∃ q : Nat, z = q := ⟨z.toNat, by omega⟩
  subst hq
  have hqn : q < p.bufs.length := by rw [HN.out]; omega
  obtain ⟨bf, hbf⟩ : ∃ bf, p.bufs[q]? = some bf := ⟨_, List.getElem?_eq_getElem hqn⟩
  have hsz := HS.out bf (List.mem_of_getElem? hbf)
  have hsy := (HSZ.out bf (List.mem_of_getElem? hbf)).2
  have hr := HF.out
  rw [HN.out, decide_eq_true (by omega : (0 : Int) ≤ (q : Int)), decide_eq_true (by omega : (q : Int) < (n : Int)), Int.toNat_natCast, hbf] at hr
  simp only [Bool.true_and] at hr
  have HR0 := Lib.hid hr
  obtain ⟨b, off, hA, hF, x0, x1, _⟩ := HBUF.out.at_ hbf
  subst hA
  have lb : b < W.heap.size := by have := LWW.out; omega
  have y0 := (HB2.out.cell (p := ⟨b, off + q * 3, none⟩) lb).trans ((HB.out.cell (p := ⟨b, off + q * 3, none⟩) hF).trans x0)
  have y1 := (HB2.out.cell (p := ⟨b, off + q * 3 + 1, none⟩) lb).trans ((HB.out.cell (p := ⟨b, off + q * 3 + 1, none⟩) hF).trans x1)
  have q0 : (0 : Int) ≤ (q : Int) := by omega
  have q1 : (q : Int) < (n : Int) := by omega
  have l2 : b < w2.heap.size := Nat.lt_of_lt_of_le lb HB2.out.size
  have l3 : w.heap.size < w2.heap.size := Nat.lt_of_lt_of_le LW0.out HB2.out.size
  have l4 : w.heap.size + 1 < w2.heap.size := Nat.lt_of_lt_of_le LW.out HB2.out.size
  obtain ⟨r, hrr⟩ : ∃ r, bf.size = r := ⟨_, rfl⟩
  obtain ⟨kb, hkb⟩ : ∃ kb, bf.kind = kb := ⟨_, rfl⟩
  rw [hrr] at y0 hsz hsy
  rw [hkb] at y1
  have HRR := Lib.hid hrr
  have HKB := Lib.hid hkb
  clear hr hbf hqn x0 x1 hF lb z0 z1 hrr hkb
  have e64 : IntKind.u64.wrap r = r := by simp [IntKind.wrap, IntKind.bits, IntKind.signed]; omega
  by_cases a1 : a = -1
  · subst a1
    have g2 : ((-1 : Int) != -1) = false := rfl
    have HR := Lib.hid (show R = decide ((m : Int) < r) by rw [HR0.out, HRR.out]; rfl)
    obtain ⟨W3, rfl⟩ : ∃ q : World, q = w2 := ⟨_, rfl⟩
    go_wp2
    (refine wp_region_lines (Below W3.heap.size W3) (by kernel_rfl) (by kernel_rfl) (Below.refl _ _).drew ?_)
    have hS := (Below.refl W3.heap.size W3).drew
    (try simp only [])
    repeat (first | (refine runL_no (by rfl) ?_; (try simp only [Act.put, List.setIfInBounds_toArray, List.set_cons_zero, List.set_cons_succ])) | (refine runL_val (v := ?_) (by rfl) ?_ ?_; rotate_left; (focus (intro w_ hw_; have hc_ := bcell hw_; go_simp; (try with_reducible rfl); done)); (try simp only [Act.put, List.setIfInBounds_toArray, List.set_cons_zero, List.set_cons_succ])))
    (refine runL_nil ?_)
    go_wp2
    go_ret
    refine ⟨ret_bool ?_, HB.out.trans ((HB2.out.trans (hS.mono HB2.out.size)).mono HB.out.size)⟩
    rw [HR.out]
  · have g2 : (a != -1) = true := by simpa using a1
    have HR := Lib.hid (show R = true by rw [HR0.out, show (a == -1) = false by simpa using a1]; rfl)
    clear a1
    obtain ⟨W3, rfl⟩ : ∃ q : World, q = w2 := ⟨_, rfl⟩
    go_wp2
    (refine wp_region_lines (Below W3.heap.size W3) (by kernel_rfl) (by kernel_rfl) (Below.refl _ _).drew ?_)
    have hS := (Below.refl W3.heap.size W3).drew
    (try simp only [])
    repeat (first | (refine runL_no (by rfl) ?_; (try simp only [Act.put, List.setIfInBounds_toArray, List.set_cons_zero, List.set_cons_succ])) | (refine runL_val (v := ?_) (by rfl) ?_ ?_; rotate_left; (focus (intro w_ hw_; have hc_ := bcell hw_; go_simp; (try with_reducible rfl); done)); (try simp only [Act.put, List.setIfInBounds_toArray, List.set_cons_zero, List.set_cons_succ])))
    (refine runL_nil ?_)
    go_wp2
    go_ret
    refine ⟨ret_bool ?_, HB.out.trans ((HB2.out.trans (hS.mono HB2.out.size)).mono HB.out.size)⟩
    rw [HR.out]

set_option maxRecDepth 100000 in
set_option maxHeartbeats 8000000 in
theorem Rfields_15 (p : LP) (Ab Ao : Option Addr) (nb cb no co : Nat) (o : LOp) (w : World) (hp : ProgAt w (fun k => k < w.heap.size) [.int .i64 p.regs, .slice Ab nb cb, .slice Ao no co] p) (hs : ∀ b ∈ p.bufs, 0 ≤ b.size) (hk : o.kind = 15) :
    Calls Tryd.prog 27 #[.agg #[.int .i64 p.regs, .slice Ab nb cb, .slice Ao no co], .agg (opRow o).toArray] w fun e w' => e = .returned (.bool (fieldsF p o)) ∧ Below w.heap.size w w' := by
  obtain ⟨W, hW, hbW, hzW, kp, ko⟩ := two_rows w [.int .i64 p.regs, .slice Ab nb cb, .slice Ao no co] o 25 47
  have HW := Lib.hid hW
  have HB := Lib.hid hbW
  have KP := Lib.hid kp
  have KO := Lib.hid ko
  have LW := Lib.hid (show w.heap.size + 1 < W.heap.size by omega)
  have hBuf : BufsAt w (fun k => k < w.heap.size) (.slice Ab nb cb) p.bufs := by
    obtain ⟨vb, vo, h, h1, _⟩ := hp.row
    simp only [List.cons.injEq] at h
    rw [h.2.1]; exact h1
  have hnb := hp.nb
  obtain ⟨A', c', hv, hlen⟩ := rows_form hBuf
  cases hv
  have c0 : W.cell? ⟨w.heap.size + 1, 0, none⟩ = some (.int .i64 o.kind) := by simp only [World.cell?, ko]; rfl
  have c3 : W.cell? ⟨w.heap.size + 1, 3, none⟩ = some (.int .i64 o.a) := by simp only [World.cell?, ko]; rfl
  have c6 : W.cell? ⟨w.heap.size + 1, 6, none⟩ = some (.int .i64 o.buf) := by simp only [World.cell?, ko]; rfl
  have c7 : W.cell? ⟨w.heap.size + 1, 7, none⟩ = some (.int .u64 o.imm) := by simp only [World.cell?, ko]; rfl
  have d1 : W.cell? ⟨w.heap.size, 1, none⟩ = some (.slice Ab p.bufs.length cb) := by simp only [World.cell?, kp]; rfl
  rw [hk] at c0
  obtain ⟨m, hm⟩ : ∃ m, o.imm = m := ⟨_, rfl⟩
  obtain ⟨z, hz⟩ : ∃ z, o.buf = z := ⟨_, rfl⟩
  obtain ⟨a, ha⟩ : ∃ a, o.a = a := ⟨_, rfl⟩
  obtain ⟨X, hX⟩ : ∃ X, (regIs p o.d false && (regIs p o.e false && ((regIs p o.a true || (true && o.a == -1)) && (regIs p o.b true && (regIs p o.c false && !(false && o.d == o.e)))))) = X := ⟨_, rfl⟩
  have hf : fieldsF p o = (X && bufOk p o) := by
    rw [fields_split (by omega) (by omega), ← hX]
    unfold regsB
    rw [hk]
    rfl
  obtain ⟨R, hR⟩ : ∃ R, fieldsF p o = R := ⟨_, rfl⟩
  rw [hR]
  rw [hR] at hf
  have HX := Lib.hid hX
  have hbo : bufOk p o = (decide (0 ≤ z) && (decide (z < p.bufs.length) && match p.bufs[z.toNat]? with
      | some b => !(15 == 15 && b.kind == 1) && (!(a == -1) || decide ((m : Int) < b.size))
      | none => false)) := by
    unfold bufOk kM
    rw [hk, ← hm, ← hz, ← ha]
    rfl
  rw [hbo] at hf
  rw [hm] at c7
  rw [hz] at c6
  rw [ha] at c3
  have CC := Lib.hid (And.intro c3 (And.intro c6 (And.intro c7 d1)))
  have HBUF := Lib.hid hBuf
  have HS := Lib.hid hs
  have HSZ := Lib.hid hp.size
  have HF := Lib.hid hf
  have LW0 := Lib.hid (show w.heap.size < W.heap.size by omega)
  have LWW := Lib.hid hbW.size
  obtain ⟨n, hn⟩ : ∃ n, p.bufs.length = n := ⟨_, rfl⟩
  have HN := Lib.hid hn
  rw [hn] at hnb
  clear hbo hf hm hz ha hX hR hk c3 c6 c7 d1 hp hs hlen hBuf hW hbW hzW kp ko hn
  go_enter Tryd.func27, Tryd.ntmps27
  go_upto_region 1 with fail
  rw [← HW.out]
  go_upto_region 10 with fail
  refine wp_code (c := partR Tryd.f27 10) (by kernel_rfl) ?_
  refine rfields_r10 p Ab Ao p.bufs.length cb no co o _ _ true false false true true false _ _ _ _ _ _ _ _ _ _ _ _ _ _ _ _ _ _ _ _ _ _ _ _ _ _ _ _ _ _ _ _ _ _ _ _ _ _ _ _ _ _ _ _ _ _ _ _ _ _ _ _ _ _ _ _ _ _ _ _ _ _ _ _ _ _ _ _ _ _ _ _ _ _ _ _ _ _ _ _ _ _ _ _ _ _ _ _ _ _ _ _ _ _ _ _ _ _ _ _ _ _ _ _ _ _ _ _ _ _ _ _ _ _ _ _ _ _ _ _ _ _ _ _ _ _ _ _ _ _ _ _ _ _ _ _ _ _ _ _ _ _ _ _ _ _ _ _ _ _ _ _ _ _ _ _ _ _ _ _ _ _ _ _ _ _ _ _ _ _ _ _ _ _ _ _ _ _ _ _ _ _ _ _ _ _ _ _ _ _ _ _ _ _ _ _ _ _ _ _ _ _ _ _ _ _ KP.out KO.out ?_
  intro _ _ _ _ _ _ _ _ _ _ _ _ _ _ _ _ _ _ _ _ _ _ _ _ _ _ _ _ _ _ _ _ _ _ _ _ _ _ _ _ _ _ _ _ _ _ _ _ _ _ _ _ _ _ _ _ w2 hb2
  rw [HX.out]
  have c3 := (hb2.cell (p := ⟨w.heap.size + 1, 3, none⟩) LW.out).trans CC.out.1
  have c6 := (hb2.cell (p := ⟨w.heap.size + 1, 6, none⟩) LW.out).trans CC.out.2.1
  have c7 := (hb2.cell (p := ⟨w.heap.size + 1, 7, none⟩) LW.out).trans CC.out.2.2.1
  have d1 := (hb2.cell (p := ⟨w.heap.size, 1, none⟩) LW0.out).trans CC.out.2.2.2
  rw [HN.out] at d1
  have HB2 := Lib.hid hb2
  clear hb2 c0
  cases X
  · have HR := Lib.hid (show R = false by rw [HF.out]; rfl)
    go_wp2
    go_ret
    refine ⟨ret_bool ?_, HB.out.trans (HB2.out.mono HB.out.size)⟩
    rw [HR.out]
  by_cases z0 : z < 0
  · have g0 : decide (z < 0) = true := decide_eq_true z0
    have HR := Lib.hid (show R = false by rw [HF.out, decide_eq_false (by omega : ¬ 0 ≤ z)]; rfl)
    clear z0
    go_wp2
    go_ret
    refine ⟨ret_bool ?_, HB.out.trans (HB2.out.mono HB.out.size)⟩
    rw [HR.out]
  have g0 : decide (z < 0) = false := decide_eq_false z0
  by_cases z1 : (n : Int) ≤ z
  · have g1 : decide ((n : Int) ≤ z) = true := decide_eq_true z1
    have HR := Lib.hid (show R = false by rw [HF.out, HN.out, decide_eq_false (by omega : ¬ z < (n : Int))]; simp)
    clear z0 z1
    go_wp2
    go_ret
    refine ⟨ret_bool ?_, HB.out.trans (HB2.out.mono HB.out.size)⟩
    rw [HR.out]
  have g1 : decide ((n : Int) ≤ z) = false := decide_eq_false z1
  obtain ⟨q, hq⟩ : ∃ q : Nat, z = q := ⟨z.toNat, by omega⟩
  subst hq
  have hqn : q < p.bufs.length := by rw [HN.out]; omega
  obtain ⟨bf, hbf⟩ : ∃ bf, p.bufs[q]? = some bf := ⟨_, List.getElem?_eq_getElem hqn⟩
  have hsz := HS.out bf (List.mem_of_getElem? hbf)
  have hsy := (HSZ.out bf (List.mem_of_getElem? hbf)).2
  have hr := HF.out
  rw [HN.out, decide_eq_true (by omega : (0 : Int) ≤ (q : Int)), decide_eq_true (by omega : (q : Int) < (n : Int)), Int.toNat_natCast, hbf] at hr
  simp only [Bool.true_and] at hr
  have HR0 := Lib.hid hr
  obtain ⟨b, off, hA, hF, x0, x1, _⟩ := HBUF.out.at_ hbf
  subst hA
  have lb : b < W.heap.size := by have := LWW.out; omega
  have y0 := (HB2.out.cell (p := ⟨b, off + q * 3, none⟩) lb).trans ((HB.out.cell (p := ⟨b, off + q * 3, none⟩) hF).trans x0)
  have y1 := (HB2.out.cell (p := ⟨b, off + q * 3 + 1, none⟩) lb).trans ((HB.out.cell (p := ⟨b, off + q * 3 + 1, none⟩) hF).trans x1)
  have q0 : (0 : Int) ≤ (q : Int) := by omega
  have q1 : (q : Int) < (n : Int) := by omega
  have l2 : b < w2.heap.size := Nat.lt_of_lt_of_le lb HB2.out.size
  have l3 : w.heap.size < w2.heap.size := Nat.lt_of_lt_of_le LW0.out HB2.out.size
  have l4 : w.heap.size + 1 < w2.heap.size := Nat.lt_of_lt_of_le LW.out HB2.out.size
  obtain ⟨r, hrr⟩ : ∃ r, bf.size = r := ⟨_, rfl⟩
  obtain ⟨kb, hkb⟩ : ∃ kb, bf.kind = kb := ⟨_, rfl⟩
  rw [hrr] at y0 hsz hsy
  rw [hkb] at y1
  have HRR := Lib.hid hrr
  have HKB := Lib.hid hkb
  clear hr hbf hqn x0 x1 hF lb z0 z1 hrr hkb
  have e64 : IntKind.u64.wrap r = r := by simp [IntKind.wrap, IntKind.bits, IntKind.signed]; omega
  cases k1 : (kb == 1)
  · have K1 := Lib.hid k1
    by_cases a1 : a = -1
    · subst a1
      have g2 : ((-1 : Int) != -1) = false := rfl
      have HR := Lib.hid (show R = decide ((m : Int) < r) by rw [HR0.out, HRR.out, HKB.out, K1.out]; rfl)
      obtain ⟨W3, rfl⟩ : ∃ q : World, q = w2 := ⟨_, rfl⟩
      go_wp2
      (refine wp_region_lines (Below W3.heap.size W3) (by kernel_rfl) (by kernel_rfl) (Below.refl _ _).drew ?_)
      have hS := (Below.refl W3.heap.size W3).drew
      (try simp only [])
      repeat (first | (refine runL_no (by rfl) ?_; (try simp only [Act.put, List.setIfInBounds_toArray, List.set_cons_zero, List.set_cons_succ])) | (refine runL_val (v := ?_) (by rfl) ?_ ?_; rotate_left; (focus (intro w_ hw_; have hc_ := bcell hw_; go_simp; (try with_reducible rfl); done)); (try simp only [Act.put, List.setIfInBounds_toArray, List.set_cons_zero, List.set_cons_succ])))
      (refine runL_nil ?_)
      go_wp2
      go_ret
      refine ⟨ret_bool ?_, HB.out.trans ((HB2.out.trans (hS.mono HB2.out.size)).mono HB.out.size)⟩
      rw [HR.out]
    · have g2 : (a != -1) = true := by simpa using a1
      have HR := Lib.hid (show R = true by rw [HR0.out, HKB.out, K1.out, show (a == -1) = false by simpa using a1]; rfl)
      clear a1
      obtain ⟨W3, rfl⟩ : ∃ q : World, q = w2 := ⟨_, rfl⟩
      go_wp2
      (refine wp_region_lines (Below W3.heap.size W3) (by kernel_rfl) (by kernel_rfl) (Below.refl _ _).drew ?_)
      have hS := (Below.refl W3.heap.size W3).drew
      (try simp only [])
      repeat (first | (refine runL_no (by rfl) ?_; (try simp only [Act.put, List.setIfInBounds_toArray, List.set_cons_zero, List.set_cons_succ])) | (refine runL_val (v := ?_) (by rfl) ?_ ?_; rotate_left; (focus (intro w_ hw_; have hc_ := bcell hw_; go_simp; (try with_reducible rfl); done)); (try simp only [Act.put, List.setIfInBounds_toArray, List.set_cons_zero, List.set_cons_succ])))
      (refine runL_nil ?_)
      go_wp2
      go_ret
      refine ⟨ret_bool ?_, HB.out.trans ((HB2.out.trans (hS.mono HB2.out.size)).mono HB.out.size)⟩
      rw [HR.out]
  · have HR := Lib.hid (show R = false by rw [HR0.out, HKB.out, k1]; rfl)
    go_wp2
    go_ret
    refine ⟨ret_bool ?_, HB.out.trans (HB2.out.mono HB.out.size)⟩
    rw [HR.out]

theorem Rfields_any (p : LP) (Ab Ao : Option Addr) (nb cb no co : Nat) (o : LOp) (w : World) (hp : ProgAt w (fun k => k < w.heap.size) [.int .i64 p.regs, .slice Ab nb cb, .slice Ao no co] p) (hs : ∀ b ∈ p.bufs, 0 ≤ b.size) :
    Calls Tryd.prog 27 #[.agg #[.int .i64 p.regs, .slice Ab nb cb, .slice Ao no co], .agg (opRow o).toArray] w fun e w' => e = .returned (.bool (fieldsF p o)) ∧ Below w.heap.size w w' := by
  rcases kind_cases o.kind with h | h | h | h | h | h | h | h | h | h | h | h | h | h | h | h | h | h
  · exact Rfields_1 p Ab Ao nb cb no co o w h
  · exact Rfields_2 p Ab Ao nb cb no co o w h
  · exact Rfields_3 p Ab Ao nb cb no co o w h
  · exact Rfields_4 p Ab Ao nb cb no co o w h
  · exact Rfields_5 p Ab Ao nb cb no co o w h
  · exact Rfields_6 p Ab Ao nb cb no co o w h
  · exact Rfields_7 p Ab Ao nb cb no co o w h
  · exact Rfields_8 p Ab Ao nb cb no co o w h
  · exact Rfields_9 p Ab Ao nb cb no co o w h
  · exact Rfields_10 p Ab Ao nb cb no co o w h
  · exact Rfields_11 p Ab Ao nb cb no co o w h
  · exact Rfields_12 p Ab Ao nb cb no co o w h
  · exact Rfields_13 p Ab Ao nb cb no co o w h
  · exact Rfields_14 p Ab Ao nb cb no co o w hp hs h
  · exact Rfields_15 p Ab Ao nb cb no co o w hp hs h
  · exact Rfields_16 p Ab Ao nb cb no co o w h
  · exact Rfields_17 p Ab Ao nb cb no co o w h
  · exact Rfields_bad p Ab Ao nb cb no co o w h

end Go.Proofs.YtppoiahhaclleaaDoor
