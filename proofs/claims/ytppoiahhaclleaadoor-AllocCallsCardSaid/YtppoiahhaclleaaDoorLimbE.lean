/- limb.fields: whether an operation has what it must: the walk. -/
import Derived.Test.YtppoiahhaclleaaDoorLimbD
namespace Go.Proofs.YtppoiahhaclleaaDoor
open Go.RowKit

theorem all_true {l : List Bool} {k : Nat} {x : Bool} (h : (l.take k).all id = true) (hx : l[k]? = some x) (ht : x = true) : (l.take (k + 1)).all id = true := by
  subst ht
  rw [List.take_add_one, hx]
  simp [h]
theorem all_false {l : List Bool} {k : Nat} (hx : l[k]? = some false) : l.all id = false := by
  rw [List.all_eq_false]
  exact ⟨false, List.mem_of_getElem? hx, by simp⟩
theorem all_whole {l : List Bool} {k : Nat} (h : (l.take k).all id = true) (hk : l.length = k) : l.all id = true := by
  rwa [List.take_of_length_le (by omega)] at h
def okL (k d e a b c n : Int) : List Bool := [okP (zV k 1) d n, okP (zV k 2) e n, okP (zV k 68) a n, okP (zV k 8) b n, okP (zV k 16) c n]

set_option maxRecDepth 100000 in
set_option maxHeartbeats 8000000 in
theorem fields_any (p : LP) (Ab Ao : Option Addr) (nb cb no co : Nat) (o : LOp) (w : World) (hp : ProgAt w (fun k => k < w.heap.size) [.int .i64 p.regs, .slice Ab nb cb, .slice Ao no co] p) (hs : ∀ b ∈ p.bufs, 0 ≤ b.size) :
    Calls Tryd.prog 66 #[.agg #[.int .i64 p.regs, .slice Ab nb cb, .slice Ao no co], .agg (opRow o).toArray] w fun e w' => e = .returned (.bool (fieldsF p o)) ∧ Below w.heap.size w w' := by
  obtain ⟨W, hW, hbW, hzW, kp, ko⟩ := two_rows w [.int .i64 p.regs, .slice Ab nb cb, .slice Ao no co] o 25 47
  have HLAW := Lib.hid (fields_law p o fun b hb => ⟨hs b hb, (hp.size b hb).2⟩)
  have HP := Lib.hid hp
  have HW := Lib.hid hW
  have HB := Lib.hid hbW
  have KP := Lib.hid kp
  have KO := Lib.hid ko
  have hBuf : BufsAt w (fun k => k < w.heap.size) (.slice Ab nb cb) p.bufs := by
    obtain ⟨vb, vo, h, h1, _⟩ := hp.row
    simp only [List.cons.injEq] at h
    rw [h.2.1]; exact h1
  have hnb : p.bufs.length = nb := by
    obtain ⟨A, c, hv, _⟩ := rows_form hBuf
    cases hv; rfl
  have HNB := Lib.hid hnb
  clear hnb
  have HBUF := Lib.hid hBuf
  obtain ⟨kk, hk⟩ : ∃ k, o.kind = k := ⟨_, rfl⟩
  obtain ⟨d, hd⟩ : ∃ k, o.d = k := ⟨_, rfl⟩
  obtain ⟨e, he⟩ : ∃ k, o.e = k := ⟨_, rfl⟩
  obtain ⟨a, ha⟩ : ∃ k, o.a = k := ⟨_, rfl⟩
  obtain ⟨b, hb⟩ : ∃ k, o.b = k := ⟨_, rfl⟩
  obtain ⟨c, hc⟩ : ∃ k, o.c = k := ⟨_, rfl⟩
  obtain ⟨bu, hbu⟩ : ∃ k, o.buf = k := ⟨_, rfl⟩
  obtain ⟨n, hn⟩ : ∃ k, p.regs = k := ⟨_, rfl⟩
  have c0 : W.cell? ⟨w.heap.size + 1, 0, none⟩ = some (.int .i64 kk) := by rw [← hk]; simp only [World.cell?, ko]; rfl
  have c1 : W.cell? ⟨w.heap.size + 1, 1, none⟩ = some (.int .i64 d) := by rw [← hd]; simp only [World.cell?, ko]; rfl
  have c2 : W.cell? ⟨w.heap.size + 1, 2, none⟩ = some (.int .i64 e) := by rw [← he]; simp only [World.cell?, ko]; rfl
  have c3 : W.cell? ⟨w.heap.size + 1, 3, none⟩ = some (.int .i64 a) := by rw [← ha]; simp only [World.cell?, ko]; rfl
  have c4 : W.cell? ⟨w.heap.size + 1, 4, none⟩ = some (.int .i64 b) := by rw [← hb]; simp only [World.cell?, ko]; rfl
  have c5 : W.cell? ⟨w.heap.size + 1, 5, none⟩ = some (.int .i64 c) := by rw [← hc]; simp only [World.cell?, ko]; rfl
  have c6 : W.cell? ⟨w.heap.size + 1, 6, none⟩ = some (.int .i64 bu) := by rw [← hbu]; simp only [World.cell?, ko]; rfl
  have CO := Lib.hid (And.intro c0 (And.intro c1 (And.intro c2 c6)))
  have CP := Lib.hid (show W.cell? ⟨w.heap.size, 0, none⟩ = some (.int .i64 n) ∧ W.cell? ⟨w.heap.size, 1, none⟩ = some (.slice Ab nb cb) ∧ W.cell? ⟨w.heap.size, 2, none⟩ = some (.slice Ao no co) from by simp only [World.cell?, kp, ← hn]; exact ⟨rfl, rfl, rfl⟩)
  have LW := Lib.hid (show w.heap.size + 1 < W.heap.size by omega)
  obtain ⟨h, hh⟩ : ∃ h, (hasV kk).1 = h := ⟨_, rfl⟩
  have HH := Lib.hid hh
  have HAS := Lib.hid (has_any kk)
  have EQ := Lib.hid (And.intro hk (And.intro hd (And.intro he (And.intro ha (And.intro hb (And.intro hc (And.intro hbu hn)))))))
  cases his : (hasV kk).2
  · have HI := Lib.hid his
    have hf : fieldsF p o = false := by rw [HLAW.out, hk, HI.out]; rfl
    rw [hf]
    clear hf his hW hbW hzW kp ko hp hs hBuf hk hd he ha hb hc hbu hn c1 c2 c3 c4 c5 c6 hh
    go_enter Tryd.func66, Tryd.ntmps66
    go_upto_region 1 with fail
    rw [← HW.out]
    go_wp2_with ((with_reducible refine (HAS.out _).mono ?_); rintro e1 w1 ⟨rfl, rfl⟩; rw [HI.out])
    go_ret
    exact ⟨rfl, HB.out⟩
  · have HI := Lib.hid his
    have hf : fieldsF p o = ((okL kk d e a b c n).all id && (!fail11 (zV kk 2) (zV kk 32) d e bu && (!fail13 (zV kk 32) bu kk nb (xB p o) && numP p o))) := by
      rw [HLAW.out, HNB.out, hk, hd, he, ha, hb, hc, hbu, hn, HI.out]
      unfold okL
      simp only [List.all_cons, List.all_nil, Bool.and_true, Bool.true_and, id]
    have HF := Lib.hid hf
    clear hf his hW hbW hzW kp ko hp hs hBuf hk hd he ha hb hc hbu hn hh
    go_enter Tryd.func66, Tryd.ntmps66
    go_upto_region 1 with fail
    rw [← HW.out]
    go_upto_region 5 with ((with_reducible refine (HAS.out _).mono ?_); rintro e1 w1 ⟨rfl, rfl⟩; rw [HI.out, HH.out])
    clear c0 c1 c2 c3 c4 c5 c6
    have BW := Lib.hid (Below.refl W.heap.size W)
    go_loopw [34] (fun i wr => ∃ k : Nat, k ≤ 5 ∧ i = .int .i64 k ∧ Below W.heap.size W wr ∧ Hid (((okL kk d e a b c n).take k).all id = true)) (fun i _ => 5 - (intOf i).toNat)
    case atStart => exact ⟨0, by omega, rfl, BW.out, Lib.hid rfl⟩
    case round =>
      obtain ⟨k, hk5, rfl, hbr, HT⟩ := hrel
      have HBR := Lib.hid hbr
      have p0 := (hbr.cell (p := ⟨w.heap.size, 0, none⟩) (Nat.lt_trans (Nat.lt_succ_self _) LW.out)).trans CP.out.1
      have lr : w.heap.size < wr.heap.size := Nat.lt_of_lt_of_le (Nat.lt_trans (Nat.lt_succ_self _) LW.out) hbr.size
      clear hbr
      obtain rfl | rfl | rfl | rfl | rfl | rfl : k = 0 ∨ k = 1 ∨ k = 2 ∨ k = 3 ∨ k = 4 ∨ k = 5 := by omega
      · clear hk5
        obtain ⟨z, hz⟩ : ∃ z, bits .and .i64 h 1 = z := ⟨_, rfl⟩
        have hl : (okL kk d e a b c n)[0]? = some (!failB (noneB z d) d n) := by rw [← hz, ← HH.out]; rfl
        have HL := Lib.hid hl
        clear hl
        have hi : ∀ w_, (Instr.index 125 (.agg #[.int .i64 1, .int .i64 d, .int .i64 2, .int .i64 e, .int .i64 68, .int .i64 a, .int .i64 8, .int .i64 b, .int .i64 16, .int .i64 c]) (.int .i64 0)).run Tryd.prog w_ = .ok (.agg #[.int .i64 1, .int .i64 d]) w_ := fun w_ => by kernel_rfl
        go_upto_region 7 with fail
        refine wp_code (c := partR Tryd.f66 7) (by kernel_rfl) ?_
        refine fields_r7 (what := 1) (r := d) _ _ (by go_simp) (by go_simp) hz ?_
        intro v37 v38 v39 v40 v41 v42 v43 v44 v45 v46 v47 v48 v49 v50 v51 v52 v53
        obtain ⟨nn, hnn⟩ : ∃ x, noneB z d = x := ⟨_, rfl⟩
        rw [hnn]
        go_upto_region 8 with fail
        refine wp_code (c := partR Tryd.f66 8) (by kernel_rfl) ?_
        refine fields_r8 (n := n) (r := d) _ _ ((((Below.refl _ _).alloc (Nat.le_refl _) _).cell (p := ⟨w.heap.size, 0, none⟩) lr).trans p0) (by go_simp) ?_
        intro v54 v55 v56 v57 v58 v59 v60 v61 v62 v63 v64 v65 v66 v67 v68 v69 v70 v71 v72 v73 v74
        cases hq : failB nn d n
        · have HN := Lib.hid (all_true HT.out HL.out (by rw [hnn, hq]; rfl))
          go_wp2
          go_roundw
          case rel => exact ⟨0 + 1, by omega, rfl, HBR.out.trans ((Below.refl _ _).alloc HBR.out.size _), HN⟩
          case measure => simp [intOf]
        · have HN := Lib.hid (all_false (by rw [HL.out, hnn, hq]; rfl))
          go_wp2
          go_ret
          refine ⟨ret_bool ?_, HB.out.trans ((HBR.out.trans ((Below.refl _ _).alloc HBR.out.size _)).mono HB.out.size)⟩
          rw [HF.out, HN.out]
          rfl
      · clear hk5
        obtain ⟨z, hz⟩ : ∃ z, bits .and .i64 h 2 = z := ⟨_, rfl⟩
        have hl : (okL kk d e a b c n)[1]? = some (!failB (noneB z e) e n) := by rw [← hz, ← HH.out]; rfl
        have HL := Lib.hid hl
        clear hl
        have hi : ∀ w_, (Instr.index 125 (.agg #[.int .i64 1, .int .i64 d, .int .i64 2, .int .i64 e, .int .i64 68, .int .i64 a, .int .i64 8, .int .i64 b, .int .i64 16, .int .i64 c]) (.int .i64 1)).run Tryd.prog w_ = .ok (.agg #[.int .i64 2, .int .i64 e]) w_ := fun w_ => by kernel_rfl
        go_upto_region 7 with fail
        refine wp_code (c := partR Tryd.f66 7) (by kernel_rfl) ?_
        refine fields_r7 (what := 2) (r := e) _ _ (by go_simp) (by go_simp) hz ?_
        intro v37 v38 v39 v40 v41 v42 v43 v44 v45 v46 v47 v48 v49 v50 v51 v52 v53
        obtain ⟨nn, hnn⟩ : ∃ x, noneB z e = x := ⟨_, rfl⟩
        rw [hnn]
        go_upto_region 8 with fail
        refine wp_code (c := partR Tryd.f66 8) (by kernel_rfl) ?_
        refine fields_r8 (n := n) (r := e) _ _ ((((Below.refl _ _).alloc (Nat.le_refl _) _).cell (p := ⟨w.heap.size, 0, none⟩) lr).trans p0) (by go_simp) ?_
        intro v54 v55 v56 v57 v58 v59 v60 v61 v62 v63 v64 v65 v66 v67 v68 v69 v70 v71 v72 v73 v74
        cases hq : failB nn e n
        · have HN := Lib.hid (all_true HT.out HL.out (by rw [hnn, hq]; rfl))
          go_wp2
          go_roundw
          case rel => exact ⟨1 + 1, by omega, rfl, HBR.out.trans ((Below.refl _ _).alloc HBR.out.size _), HN⟩
          case measure => simp [intOf]
        · have HN := Lib.hid (all_false (by rw [HL.out, hnn, hq]; rfl))
          go_wp2
          go_ret
          refine ⟨ret_bool ?_, HB.out.trans ((HBR.out.trans ((Below.refl _ _).alloc HBR.out.size _)).mono HB.out.size)⟩
          rw [HF.out, HN.out]
          rfl
      · clear hk5
        obtain ⟨z, hz⟩ : ∃ z, bits .and .i64 h 68 = z := ⟨_, rfl⟩
        have hl : (okL kk d e a b c n)[2]? = some (!failB (noneB z a) a n) := by rw [← hz, ← HH.out]; rfl
        have HL := Lib.hid hl
        clear hl
        have hi : ∀ w_, (Instr.index 125 (.agg #[.int .i64 1, .int .i64 d, .int .i64 2, .int .i64 e, .int .i64 68, .int .i64 a, .int .i64 8, .int .i64 b, .int .i64 16, .int .i64 c]) (.int .i64 2)).run Tryd.prog w_ = .ok (.agg #[.int .i64 68, .int .i64 a]) w_ := fun w_ => by kernel_rfl
        go_upto_region 7 with fail
        refine wp_code (c := partR Tryd.f66 7) (by kernel_rfl) ?_
        refine fields_r7 (what := 68) (r := a) _ _ (by go_simp) (by go_simp) hz ?_
        intro v37 v38 v39 v40 v41 v42 v43 v44 v45 v46 v47 v48 v49 v50 v51 v52 v53
        obtain ⟨nn, hnn⟩ : ∃ x, noneB z a = x := ⟨_, rfl⟩
        rw [hnn]
        go_upto_region 8 with fail
        refine wp_code (c := partR Tryd.f66 8) (by kernel_rfl) ?_
        refine fields_r8 (n := n) (r := a) _ _ ((((Below.refl _ _).alloc (Nat.le_refl _) _).cell (p := ⟨w.heap.size, 0, none⟩) lr).trans p0) (by go_simp) ?_
        intro v54 v55 v56 v57 v58 v59 v60 v61 v62 v63 v64 v65 v66 v67 v68 v69 v70 v71 v72 v73 v74
        cases hq : failB nn a n
        · have HN := Lib.hid (all_true HT.out HL.out (by rw [hnn, hq]; rfl))
          go_wp2
          go_roundw
          case rel => exact ⟨2 + 1, by omega, rfl, HBR.out.trans ((Below.refl _ _).alloc HBR.out.size _), HN⟩
          case measure => simp [intOf]
        · have HN := Lib.hid (all_false (by rw [HL.out, hnn, hq]; rfl))
          go_wp2
          go_ret
          refine ⟨ret_bool ?_, HB.out.trans ((HBR.out.trans ((Below.refl _ _).alloc HBR.out.size _)).mono HB.out.size)⟩
          rw [HF.out, HN.out]
          rfl
      · clear hk5
        obtain ⟨z, hz⟩ : ∃ z, bits .and .i64 h 8 = z := ⟨_, rfl⟩
        have hl : (okL kk d e a b c n)[3]? = some (!failB (noneB z b) b n) := by rw [← hz, ← HH.out]; rfl
        have HL := Lib.hid hl
        clear hl
        have hi : ∀ w_, (Instr.index 125 (.agg #[.int .i64 1, .int .i64 d, .int .i64 2, .int .i64 e, .int .i64 68, .int .i64 a, .int .i64 8, .int .i64 b, .int .i64 16, .int .i64 c]) (.int .i64 3)).run Tryd.prog w_ = .ok (.agg #[.int .i64 8, .int .i64 b]) w_ := fun w_ => by kernel_rfl
        go_upto_region 7 with fail
        refine wp_code (c := partR Tryd.f66 7) (by kernel_rfl) ?_
        refine fields_r7 (what := 8) (r := b) _ _ (by go_simp) (by go_simp) hz ?_
        intro v37 v38 v39 v40 v41 v42 v43 v44 v45 v46 v47 v48 v49 v50 v51 v52 v53
        obtain ⟨nn, hnn⟩ : ∃ x, noneB z b = x := ⟨_, rfl⟩
        rw [hnn]
        go_upto_region 8 with fail
        refine wp_code (c := partR Tryd.f66 8) (by kernel_rfl) ?_
        refine fields_r8 (n := n) (r := b) _ _ ((((Below.refl _ _).alloc (Nat.le_refl _) _).cell (p := ⟨w.heap.size, 0, none⟩) lr).trans p0) (by go_simp) ?_
        intro v54 v55 v56 v57 v58 v59 v60 v61 v62 v63 v64 v65 v66 v67 v68 v69 v70 v71 v72 v73 v74
        cases hq : failB nn b n
        · have HN := Lib.hid (all_true HT.out HL.out (by rw [hnn, hq]; rfl))
          go_wp2
          go_roundw
          case rel => exact ⟨3 + 1, by omega, rfl, HBR.out.trans ((Below.refl _ _).alloc HBR.out.size _), HN⟩
          case measure => simp [intOf]
        · have HN := Lib.hid (all_false (by rw [HL.out, hnn, hq]; rfl))
          go_wp2
          go_ret
          refine ⟨ret_bool ?_, HB.out.trans ((HBR.out.trans ((Below.refl _ _).alloc HBR.out.size _)).mono HB.out.size)⟩
          rw [HF.out, HN.out]
          rfl
      · clear hk5
        obtain ⟨z, hz⟩ : ∃ z, bits .and .i64 h 16 = z := ⟨_, rfl⟩
        have hl : (okL kk d e a b c n)[4]? = some (!failB (noneB z c) c n) := by rw [← hz, ← HH.out]; rfl
        have HL := Lib.hid hl
        clear hl
        have hi : ∀ w_, (Instr.index 125 (.agg #[.int .i64 1, .int .i64 d, .int .i64 2, .int .i64 e, .int .i64 68, .int .i64 a, .int .i64 8, .int .i64 b, .int .i64 16, .int .i64 c]) (.int .i64 4)).run Tryd.prog w_ = .ok (.agg #[.int .i64 16, .int .i64 c]) w_ := fun w_ => by kernel_rfl
        go_upto_region 7 with fail
        refine wp_code (c := partR Tryd.f66 7) (by kernel_rfl) ?_
        refine fields_r7 (what := 16) (r := c) _ _ (by go_simp) (by go_simp) hz ?_
        intro v37 v38 v39 v40 v41 v42 v43 v44 v45 v46 v47 v48 v49 v50 v51 v52 v53
        obtain ⟨nn, hnn⟩ : ∃ x, noneB z c = x := ⟨_, rfl⟩
        rw [hnn]
        go_upto_region 8 with fail
        refine wp_code (c := partR Tryd.f66 8) (by kernel_rfl) ?_
        refine fields_r8 (n := n) (r := c) _ _ ((((Below.refl _ _).alloc (Nat.le_refl _) _).cell (p := ⟨w.heap.size, 0, none⟩) lr).trans p0) (by go_simp) ?_
        intro v54 v55 v56 v57 v58 v59 v60 v61 v62 v63 v64 v65 v66 v67 v68 v69 v70 v71 v72 v73 v74
        cases hq : failB nn c n
        · have HN := Lib.hid (all_true HT.out HL.out (by rw [hnn, hq]; rfl))
          go_wp2
          go_roundw
          case rel => exact ⟨4 + 1, by omega, rfl, HBR.out.trans ((Below.refl _ _).alloc HBR.out.size _), HN⟩
          case measure => simp [intOf]
        · have HN := Lib.hid (all_false (by rw [HL.out, hnn, hq]; rfl))
          go_wp2
          go_ret
          refine ⟨ret_bool ?_, HB.out.trans ((HBR.out.trans ((Below.refl _ _).alloc HBR.out.size _)).mono HB.out.size)⟩
          rw [HF.out, HN.out]
          rfl
      · clear hk5
        have q1 := (HBR.out.cell (p := ⟨w.heap.size + 1, 1, none⟩) LW.out).trans CO.out.2.1
        have q2 := (HBR.out.cell (p := ⟨w.heap.size + 1, 2, none⟩) LW.out).trans CO.out.2.2.1
        have q6 := (HBR.out.cell (p := ⟨w.heap.size + 1, 6, none⟩) LW.out).trans CO.out.2.2.2
        have q0 := (HBR.out.cell (p := ⟨w.heap.size + 1, 0, none⟩) LW.out).trans CO.out.1
        have p1 := (HBR.out.cell (p := ⟨w.heap.size, 1, none⟩) (Nat.lt_trans (Nat.lt_succ_self _) LW.out)).trans CP.out.2.1
        have HC := Lib.hid (And.intro q0 (And.intro q6 p1))
        obtain ⟨z2, hz2⟩ : ∃ z, bits .and .i64 h 2 = z := ⟨_, rfl⟩
        obtain ⟨z32, hz32⟩ : ∃ z, bits .and .i64 h 32 = z := ⟨_, rfl⟩
        have HZ := Lib.hid (And.intro hz2 hz32)
        clear hz2 hz32 q0 p1
        go_upto_region 11 with fail
        refine wp_code (c := partR Tryd.f66 11) (by kernel_rfl) ?_
        refine fields_r11 (h := h) (z2 := z2) (z32 := z32) (d := d) (e := e) (bu := bu) _ _ q1 q2 q6 HZ.out.1 HZ.out.2 ?_
        intro v77 v78 v79 v80 v81 v82 v83 v84 v85 v86 v87 v88 v89 v90 v91 v92 v93 v94 v95
        clear q1 q2 q6
        have E11 : fail11 (zV kk 2) (zV kk 32) d e bu = fail11 z2 z32 d e bu := by unfold zV; rw [HH.out, HZ.out.1, HZ.out.2]
        have E13 : fail13 (zV kk 32) bu kk nb (xB p o) = fail13 z32 bu kk nb (xB p o) := by unfold zV; rw [HH.out, HZ.out.2]
        have HF2 := HF.out
        rw [E11, E13] at HF2
        clear E11 E13
        have HF2 := Lib.hid HF2
        obtain ⟨b11, hb11⟩ : ∃ x, fail11 z2 z32 d e bu = x := ⟨_, rfl⟩
        have H11 := Lib.hid hb11
        rw [hb11]
        clear hb11
        cases b11
        · go_upto_region 13 with fail
          refine wp_code (c := partR Tryd.f66 13) (by kernel_rfl) ?_
          refine fields_r13 (h := h) (z32 := z32) (bu := bu) (kk := kk) (x := xB p o) _ _ HC.out.1 HC.out.2.1 HC.out.2.2 HZ.out.2 ?_ ?_
          · intro h0 h1
            obtain ⟨bf, hbf⟩ : ∃ b, p.bufs[bu.toNat]? = some b := ⟨_, List.getElem?_eq_getElem (by have := HNB.out; omega)⟩
            obtain ⟨b', off, hA, hF, _, x1, _⟩ := HBUF.out.at_ hbf
            exact ⟨b', off, bu.toNat, bf.kind, hA, by omega, (HBR.out.cell (p := ⟨b', off + bu.toNat * 3 + 1, none⟩) (Nat.lt_of_lt_of_le hF HB.out.size)).trans ((HB.out.cell (p := ⟨b', off + bu.toNat * 3 + 1, none⟩) hF).trans x1), by unfold xB; rw [EQ.out.2.2.2.2.2.2.1, hbf]⟩
          intro v97 v98 v99 v100 v101 v102 v103 v104 v105 v106 v107 v108 v109 v110 v111 v112 v113 v114 v115 v116 v117 v118 v119 v120 v121 v122 v123 v124 v125 v126
          obtain ⟨b13, hb13⟩ : ∃ x, fail13 z32 bu kk nb (xB p o) = x := ⟨_, rfl⟩
          have H13 := Lib.hid hb13
          rw [hb13]
          clear hb13
          cases b13
          · have HNUM : Calls Tryd.prog 78 #[.agg #[.int .i64 p.regs, .slice Ab nb cb, .slice Ao no co], .agg #[.int .i64 o.kind, .int .i64 o.d, .int .i64 o.e, .int .i64 o.a, .int .i64 o.b, .int .i64 o.c, .int .i64 o.buf, .int .u64 o.imm]] wr fun e w' => e = .returned (.bool (numP p o)) ∧ Below wr.heap.size wr w' := by
              cases hM : kM o.kind
              · exact number_plain p o _ wr hM
              · have hk2 : o.kind = 14 ∨ o.kind = 15 := by unfold kM at hM; simpa using hM
                have hz : z32 = 32 := by
                  rw [← HZ.out.2, ← HH.out, ← EQ.out.1]
                  rcases hk2 with h | h <;> rw [h] <;> rfl
                have hb0 := H13.out
                unfold fail13 at hb0
                rw [hz] at hb0
                simp only [show ((32 : Int) != 0) = true from rfl, Bool.true_and, Bool.or_eq_false_iff, decide_eq_false_iff_not] at hb0
                exact number_mem p o _ wr (prog_next (prog_next HP.out HB.out) HBR.out) hk2 (by rw [EQ.out.2.2.2.2.2.2.1, HNB.out]; omega)
            have HNUM := Lib.hid HNUM
            have kpr := (HBR.out.block _ (Nat.lt_trans (Nat.lt_succ_self _) LW.out)).trans KP.out
            have kor := (HBR.out.block _ LW.out).trans KO.out
            clear p0
            have m0 : wr.cell? ⟨w.heap.size, 0, none⟩ = some (.int .i64 p.regs) := by simp only [World.cell?, kpr]; rfl
            have m1 : wr.cell? ⟨w.heap.size, 1, none⟩ = some (.slice Ab nb cb) := by simp only [World.cell?, kpr]; rfl
            have m2 : wr.cell? ⟨w.heap.size, 2, none⟩ = some (.slice Ao no co) := by simp only [World.cell?, kpr]; rfl
            have n0 : wr.cell? ⟨w.heap.size + 1, 0, none⟩ = some (.int .i64 o.kind) := by simp only [World.cell?, kor]; rfl
            have n1 : wr.cell? ⟨w.heap.size + 1, 1, none⟩ = some (.int .i64 o.d) := by simp only [World.cell?, kor]; rfl
            have n2 : wr.cell? ⟨w.heap.size + 1, 2, none⟩ = some (.int .i64 o.e) := by simp only [World.cell?, kor]; rfl
            have n3 : wr.cell? ⟨w.heap.size + 1, 3, none⟩ = some (.int .i64 o.a) := by simp only [World.cell?, kor]; rfl
            have n4 : wr.cell? ⟨w.heap.size + 1, 4, none⟩ = some (.int .i64 o.b) := by simp only [World.cell?, kor]; rfl
            have n5 : wr.cell? ⟨w.heap.size + 1, 5, none⟩ = some (.int .i64 o.c) := by simp only [World.cell?, kor]; rfl
            have n6 : wr.cell? ⟨w.heap.size + 1, 6, none⟩ = some (.int .i64 o.buf) := by simp only [World.cell?, kor]; rfl
            have n7 : wr.cell? ⟨w.heap.size + 1, 7, none⟩ = some (.int .u64 o.imm) := by simp only [World.cell?, kor]; rfl
            clear kpr kor
            go_wp2_with ((with_reducible refine (HNUM.out).mono ?_); rintro e1 w1 ⟨rfl, hb1⟩)
            go_ret
            refine ⟨ret_bool ?_, HB.out.trans ((HBR.out.trans (hb1.mono HBR.out.size)).mono HB.out.size)⟩
            rw [HF2.out, H11.out, H13.out, all_whole HT.out rfl]
            rfl
          · go_wp2
            go_ret
            refine ⟨ret_bool ?_, HB.out.trans (HBR.out.mono HB.out.size)⟩
            rw [HF2.out, H13.out]
            simp
        · go_wp2
          go_ret
          refine ⟨ret_bool ?_, HB.out.trans (HBR.out.mono HB.out.size)⟩
          rw [HF2.out, H11.out]
          simp

end Go.Proofs.YtppoiahhaclleaaDoor
