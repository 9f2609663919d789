/- The stepper's over, part 1. -/
import Derived.Test.YtmanhikpccnfaaaGreatStepV
import Derived.Test.YtmanhikpccnfaaaGreatStepD
namespace Go.Proofs.YtmanhikpccnfaaaGreat
open Go.RowKit

variable {w : World} {base b : Nat} {x : Stp} {evs : List Ev}

theorem values2 (w : World) : Calls Tryz.prog 65 #[.int .i64 2] w fun e w' => e = .returned (.tuple #[.func (.func 84) #[] #[], .bool true]) ∧ w = w' := by
  go_enter Tryz.func65, Tryz.ntmps65
  go_wp2
  go_ret2
  exact ⟨rfl, rfl⟩
theorem hasS2 (w : World) : Calls Tryz.prog 66 #[.int .i64 2] w fun e w' => e = .returned (.bool false) ∧ w = w' := by
  go_enter Tryz.func66, Tryz.ntmps66
  go_wp2
  go_ret
  exact ⟨rfl, rfl⟩
set_option linter.unusedVariables false in
set_option maxRecDepth 100000 in
set_option maxHeartbeats 1600000 in
theorem over2 (h : Run w base b x evs) (hop : x.i.op = 2) (D : Nat) (hD : x.i.d = D) (d : Nat) (hd : x.st.regs[D]? = some d) (bb : Nat) (hb : bb = u64 x.i.imm) :
    Calls Tryz.prog 38 #[.pointer (some ⟨b, 0, none⟩)] w fun e w' => e = .returned (.bool true) ∧ Below base w w' ∧ Run w' base b { x with st := { ((x.st, bb)).1 with regs := ((x.st, bb)).1.regs.set D ((x.st, bb)).2 } } evs := by
  have hd64 : d < 18446744073709551616 := h.ok.regs _ (List.mem_of_getElem? hd)
  have hDl : D < 16 := by have := (List.getElem?_eq_some_iff.1 hd).1; rw [h.ok.len] at this; exact this
  have hb64 : bb < 18446744073709551616 := by rw [hb]; exact u64_lt _
  obtain ⟨_, _, _, _, c20, c21, c22, _, _, _, _, _, c28, _⟩ := h.cells
  rw [hop] at c20
  rw [hD] at c21
  have u1 := wrap_u64 x.i.imm
  rw [← hb] at u1
  have cD := h.reg hd
  have i0 : (0 : Int) ≤ (D : Int) := by omega
  have i1 : (D : Int) < 16 := by omega
  have H := Lib.hid h
  have HD := Lib.hid hd
  have HDD := Lib.hid hD
  have HOP := Lib.hid hop
  have HLT := Lib.hid (And.intro hd64 hb64)
  have HDL := Lib.hid hDl
  clear h hop hD hd hb hd64 hb64 hDl
  go_enter Tryz.func38, Tryz.ntmps38
  go_wp2_with fail
  refine (values2 w).mono ?_
  rintro e w1 ⟨rfl, rfl⟩
  go_wp2_with fail
  refine (hasS2 w).mono ?_
  rintro e w1 ⟨rfl, rfl⟩
  go_wp2
  have H2 := H
  have HB0 := Lib.hid (Below.refl base w)
  clear H c22 c28
  obtain ⟨w0, rfl⟩ : ∃ w0 : World, w0 = w := ⟨_, rfl⟩
  (refine wp_region_lines (fun w_ => w_.cell? ⟨b, 21, none⟩ = some (.int .i64 D) ∧ w_.cell? ⟨b, D, none⟩ = some (.int .u64 d)) (by kernel_rfl) (by kernel_rfl) ⟨c21, cD⟩ ?_)
  (try simp only [])
  repeat (first | (refine runL_no (by rfl) ?_; (try simp only [Act.put, List.setIfInBounds_toArray, List.set_cons_zero, List.set_cons_succ])) | (refine runL_val (v := ?_) (by rfl) ?_ ?_; rotate_left; (focus (intro w_ hw_; obtain ⟨f1, f2⟩ := hw_; go_simp; (try with_reducible rfl); done)); (try simp only [Act.put, List.setIfInBounds_toArray, List.set_cons_zero, List.set_cons_succ])) | (refine runL_call (f := ?_) (args := ?_) (w1 := ?_) (by rfl) (by rfl) ?_ ?_; rotate_left 3; (focus (go_simp; refine ⟨⟨?_, ?_⟩, ?_⟩ <;> with_reducible rfl)); refine (val1 (H2.out.next ((Below.refl _ _).drew)) d bb HLT.out.1 HLT.out.2).mono ?_; rintro e w1 ⟨rfl, hb1, hr1⟩; have HR := Lib.hid hr1; have HB := Lib.hid (HB0.out.trans ((show Below base w0 w0.drew from (Below.refl _ _).drew).trans hb1)); have c21' : w1.cell? ⟨b, 21, none⟩ = some (.int .i64 D) := (hr1.cells.2.2.2.2.2.1).trans (by rw [HDD.out]); have cD' := hr1.reg (k := D) (r := d) HD.out; have c20' : w1.cell? ⟨b, 20, none⟩ = _ := hr1.cells.2.2.2.2.1; clear hb1 hr1; refine ⟨_, rfl, .inr ⟨c21', cD'⟩, ?_⟩; (try simp only [Act.put, List.setIfInBounds_toArray, List.set_cons_zero, List.set_cons_succ])))
  (refine runL_nil ?_)
  clear c21 cD c20
  have c20 := c20'
  have f0 := HR.out.frozen D
  rw [show (_ : Int) = 2 from HOP.out] at c20
  clear c20'
  go_wp2
  go_region
  go_wp2
  go_ret
  exact ⟨rfl, (HB.out.setCell HR.out.le _).drew, (HR.out.setReg HDL.out (HLT.out.2)).next ((Below.refl _ _).drew)⟩

theorem values8 (w : World) : Calls Tryz.prog 65 #[.int .i64 8] w fun e w' => e = .returned (.tuple #[.func (.func 88) #[] #[], .bool true]) ∧ w = w' := by
  go_enter Tryz.func65, Tryz.ntmps65
  go_wp2
  go_ret2
  exact ⟨rfl, rfl⟩
theorem hasS8 (w : World) : Calls Tryz.prog 66 #[.int .i64 8] w fun e w' => e = .returned (.bool true) ∧ w = w' := by
  go_enter Tryz.func66, Tryz.ntmps66
  go_wp2
  go_ret
  exact ⟨rfl, rfl⟩
set_option linter.unusedVariables false in
set_option maxRecDepth 100000 in
set_option maxHeartbeats 1600000 in
theorem over8 (h : Run w base b x evs) (hop : x.i.op = 8) (D : Nat) (hD : x.i.d = D) (d : Nat) (hd : x.st.regs[D]? = some d) (S : Nat) (hS : x.i.s = S) (bb : Nat) (hb : x.st.regs[S]? = some bb) :
    Calls Tryz.prog 38 #[.pointer (some ⟨b, 0, none⟩)] w fun e w' => e = .returned (.bool true) ∧ Below base w w' ∧ Run w' base b { x with st := { (valueF.restS x.st d bb false).1 with regs := (valueF.restS x.st d bb false).1.regs.set D (valueF.restS x.st d bb false).2 } } evs := by
  have hd64 : d < 18446744073709551616 := h.ok.regs _ (List.mem_of_getElem? hd)
  have hDl : D < 16 := by have := (List.getElem?_eq_some_iff.1 hd).1; rw [h.ok.len] at this; exact this
  have hb64 : bb < 18446744073709551616 := h.ok.regs _ (List.mem_of_getElem? hb)
  have hSl : S < 16 := by have := (List.getElem?_eq_some_iff.1 hb).1; rw [h.ok.len] at this; exact this
  obtain ⟨_, _, _, _, c20, c21, c22, _, _, _, _, _, c28, _⟩ := h.cells
  rw [hop] at c20
  rw [hD] at c21
  rw [hS] at c22
  have cS := h.reg hb
  have j0 : (0 : Int) ≤ (S : Int) := by omega
  have j1 : (S : Int) < 16 := by omega
  have cD := h.reg hd
  have i0 : (0 : Int) ≤ (D : Int) := by omega
  have i1 : (D : Int) < 16 := by omega
  have H := Lib.hid h
  have HD := Lib.hid hd
  have HDD := Lib.hid hD
  have HOP := Lib.hid hop
  have HLT := Lib.hid (And.intro hd64 hb64)
  have HDL := Lib.hid hDl
  clear h hop hD hd hb hd64 hb64 hDl hS
  go_enter Tryz.func38, Tryz.ntmps38
  go_wp2_with fail
  refine (values8 w).mono ?_
  rintro e w1 ⟨rfl, rfl⟩
  go_wp2_with fail
  refine (hasS8 w).mono ?_
  rintro e w1 ⟨rfl, rfl⟩
  go_wp2
  go_region
  have H2 := Lib.hid (H.out.next ((Below.refl _ _).drew))
  have e0 : Below base w w.drew := (Below.refl _ _).drew
  have HB0 := Lib.hid e0
  replace c20 : w.drew.cell? ⟨b, 20, none⟩ = _ := c20
  replace c21 : w.drew.cell? ⟨b, 21, none⟩ = _ := c21
  replace cD : w.drew.cell? ⟨b, D, none⟩ = _ := cD
  clear e0 cS c22 c28 H
  generalize w.drew = w0 at *
  go_wp2
  (refine wp_region_lines (fun w_ => w_.cell? ⟨b, 21, none⟩ = some (.int .i64 D) ∧ w_.cell? ⟨b, D, none⟩ = some (.int .u64 d)) (by kernel_rfl) (by kernel_rfl) ⟨c21, cD⟩ ?_)
  (try simp only [])
  repeat (first | (refine runL_no (by rfl) ?_; (try simp only [Act.put, List.setIfInBounds_toArray, List.set_cons_zero, List.set_cons_succ])) | (refine runL_val (v := ?_) (by rfl) ?_ ?_; rotate_left; (focus (intro w_ hw_; obtain ⟨f1, f2⟩ := hw_; go_simp; (try with_reducible rfl); done)); (try simp only [Act.put, List.setIfInBounds_toArray, List.set_cons_zero, List.set_cons_succ])) | (refine runL_call (f := ?_) (args := ?_) (w1 := ?_) (by rfl) (by rfl) ?_ ?_; rotate_left 3; (focus (go_simp; refine ⟨⟨?_, ?_⟩, ?_⟩ <;> with_reducible rfl)); refine (val4 (H2.out.next ((Below.refl _ _).drew)) d bb HLT.out.1 HLT.out.2).mono ?_; rintro e w1 ⟨rfl, hb1, hr1⟩; have HR := Lib.hid hr1; have HB := Lib.hid (HB0.out.trans ((show Below base w0 w0.drew from (Below.refl _ _).drew).trans hb1)); have c21' : w1.cell? ⟨b, 21, none⟩ = some (.int .i64 D) := (hr1.cells.2.2.2.2.2.1).trans (by rw [HDD.out]); have cD' := hr1.reg (k := D) (r := d) HD.out; have c20' : w1.cell? ⟨b, 20, none⟩ = _ := hr1.cells.2.2.2.2.1; clear hb1 hr1; refine ⟨_, rfl, .inr ⟨c21', cD'⟩, ?_⟩; (try simp only [Act.put, List.setIfInBounds_toArray, List.set_cons_zero, List.set_cons_succ])))
  (refine runL_nil ?_)
  clear c21 cD c20
  have c20 := c20'
  have f0 := HR.out.frozen D
  rw [show (_ : Int) = 8 from HOP.out] at c20
  clear c20'
  go_wp2
  go_region
  go_wp2
  go_ret
  exact ⟨rfl, (HB.out.setCell HR.out.le _).drew, (HR.out.setReg HDL.out (subF_lt _ _ _)).next ((Below.refl _ _).drew)⟩

theorem values11 (w : World) : Calls Tryz.prog 65 #[.int .i64 11] w fun e w' => e = .returned (.tuple #[.func (.func 93) #[] #[], .bool true]) ∧ w = w' := by
  go_enter Tryz.func65, Tryz.ntmps65
  go_wp2
  go_ret2
  exact ⟨rfl, rfl⟩
theorem hasS11 (w : World) : Calls Tryz.prog 66 #[.int .i64 11] w fun e w' => e = .returned (.bool true) ∧ w = w' := by
  go_enter Tryz.func66, Tryz.ntmps66
  go_wp2
  go_ret
  exact ⟨rfl, rfl⟩
set_option linter.unusedVariables false in
set_option maxRecDepth 100000 in
set_option maxHeartbeats 1600000 in
theorem over11 (h : Run w base b x evs) (hop : x.i.op = 11) (D : Nat) (hD : x.i.d = D) (d : Nat) (hd : x.st.regs[D]? = some d) (S : Nat) (hS : x.i.s = S) (bb : Nat) (hb : x.st.regs[S]? = some bb) :
    Calls Tryz.prog 38 #[.pointer (some ⟨b, 0, none⟩)] w fun e w' => e = .returned (.bool true) ∧ Below base w w' ∧ Run w' base b { x with st := { (valueF.plainS x.st (d ||| bb)).1 with regs := (valueF.plainS x.st (d ||| bb)).1.regs.set D (valueF.plainS x.st (d ||| bb)).2 } } evs := by
  have hd64 : d < 18446744073709551616 := h.ok.regs _ (List.mem_of_getElem? hd)
  have hDl : D < 16 := by have := (List.getElem?_eq_some_iff.1 hd).1; rw [h.ok.len] at this; exact this
  have hb64 : bb < 18446744073709551616 := h.ok.regs _ (List.mem_of_getElem? hb)
  have hSl : S < 16 := by have := (List.getElem?_eq_some_iff.1 hb).1; rw [h.ok.len] at this; exact this
  obtain ⟨_, _, _, _, c20, c21, c22, _, _, _, _, _, c28, _⟩ := h.cells
  rw [hop] at c20
  rw [hD] at c21
  rw [hS] at c22
  have cS := h.reg hb
  have j0 : (0 : Int) ≤ (S : Int) := by omega
  have j1 : (S : Int) < 16 := by omega
  have cD := h.reg hd
  have i0 : (0 : Int) ≤ (D : Int) := by omega
  have i1 : (D : Int) < 16 := by omega
  have H := Lib.hid h
  have HD := Lib.hid hd
  have HDD := Lib.hid hD
  have HOP := Lib.hid hop
  have HLT := Lib.hid (And.intro hd64 hb64)
  have HDL := Lib.hid hDl
  clear h hop hD hd hb hd64 hb64 hDl hS
  go_enter Tryz.func38, Tryz.ntmps38
  go_wp2_with fail
  refine (values11 w).mono ?_
  rintro e w1 ⟨rfl, rfl⟩
  go_wp2_with fail
  refine (hasS11 w).mono ?_
  rintro e w1 ⟨rfl, rfl⟩
  go_wp2
  go_region
  have H2 := Lib.hid (H.out.next ((Below.refl _ _).drew))
  have e0 : Below base w w.drew := (Below.refl _ _).drew
  have HB0 := Lib.hid e0
  replace c20 : w.drew.cell? ⟨b, 20, none⟩ = _ := c20
  replace c21 : w.drew.cell? ⟨b, 21, none⟩ = _ := c21
  replace cD : w.drew.cell? ⟨b, D, none⟩ = _ := cD
  clear e0 cS c22 c28 H
  generalize w.drew = w0 at *
  go_wp2
  (refine wp_region_lines (fun w_ => w_.cell? ⟨b, 21, none⟩ = some (.int .i64 D) ∧ w_.cell? ⟨b, D, none⟩ = some (.int .u64 d)) (by kernel_rfl) (by kernel_rfl) ⟨c21, cD⟩ ?_)
  (try simp only [])
  repeat (first | (refine runL_no (by rfl) ?_; (try simp only [Act.put, List.setIfInBounds_toArray, List.set_cons_zero, List.set_cons_succ])) | (refine runL_val (v := ?_) (by rfl) ?_ ?_; rotate_left; (focus (intro w_ hw_; obtain ⟨f1, f2⟩ := hw_; go_simp; (try with_reducible rfl); done)); (try simp only [Act.put, List.setIfInBounds_toArray, List.set_cons_zero, List.set_cons_succ])) | (refine runL_call (f := ?_) (args := ?_) (w1 := ?_) (by rfl) (by rfl) ?_ ?_; rotate_left 3; (focus (go_simp; refine ⟨⟨?_, ?_⟩, ?_⟩ <;> with_reducible rfl)); refine (val7 (H2.out.next ((Below.refl _ _).drew)) d bb HLT.out.1 HLT.out.2).mono ?_; rintro e w1 ⟨rfl, hb1, hr1⟩; have HR := Lib.hid hr1; have HB := Lib.hid (HB0.out.trans ((show Below base w0 w0.drew from (Below.refl _ _).drew).trans hb1)); have c21' : w1.cell? ⟨b, 21, none⟩ = some (.int .i64 D) := (hr1.cells.2.2.2.2.2.1).trans (by rw [HDD.out]); have cD' := hr1.reg (k := D) (r := d) HD.out; have c20' : w1.cell? ⟨b, 20, none⟩ = _ := hr1.cells.2.2.2.2.1; clear hb1 hr1; refine ⟨_, rfl, .inr ⟨c21', cD'⟩, ?_⟩; (try simp only [Act.put, List.setIfInBounds_toArray, List.set_cons_zero, List.set_cons_succ])))
  (refine runL_nil ?_)
  clear c21 cD c20
  have c20 := c20'
  have f0 := HR.out.frozen D
  rw [show (_ : Int) = 11 from HOP.out] at c20
  clear c20'
  go_wp2
  go_region
  go_wp2
  go_ret
  exact ⟨rfl, (HB.out.setCell HR.out.le _).drew, (HR.out.setReg HDL.out (or_lt HLT.out.1 HLT.out.2)).next ((Below.refl _ _).drew)⟩

theorem values14 (w : World) : Calls Tryz.prog 65 #[.int .i64 14] w fun e w' => e = .returned (.tuple #[.func (.func 91) #[] #[], .bool true]) ∧ w = w' := by
  go_enter Tryz.func65, Tryz.ntmps65
  go_wp2
  go_ret2
  exact ⟨rfl, rfl⟩
theorem hasS14 (w : World) : Calls Tryz.prog 66 #[.int .i64 14] w fun e w' => e = .returned (.bool true) ∧ w = w' := by
  go_enter Tryz.func66, Tryz.ntmps66
  go_wp2
  go_ret
  exact ⟨rfl, rfl⟩
set_option linter.unusedVariables false in
set_option maxRecDepth 100000 in
set_option maxHeartbeats 1600000 in
theorem over14 (h : Run w base b x evs) (hop : x.i.op = 14) (D : Nat) (hD : x.i.d = D) (d : Nat) (hd : x.st.regs[D]? = some d) (S : Nat) (hS : x.i.s = S) (bb : Nat) (hb : x.st.regs[S]? = some bb) :
    Calls Tryz.prog 38 #[.pointer (some ⟨b, 0, none⟩)] w fun e w' => e = .returned (.bool true) ∧ Below base w w' ∧ Run w' base b { x with st := (valueF.plainS x.st (d &&& bb)).1 } evs := by
  have hd64 : d < 18446744073709551616 := h.ok.regs _ (List.mem_of_getElem? hd)
  have hDl : D < 16 := by have := (List.getElem?_eq_some_iff.1 hd).1; rw [h.ok.len] at this; exact this
  have hb64 : bb < 18446744073709551616 := h.ok.regs _ (List.mem_of_getElem? hb)
  have hSl : S < 16 := by have := (List.getElem?_eq_some_iff.1 hb).1; rw [h.ok.len] at this; exact this
  obtain ⟨_, _, _, _, c20, c21, c22, _, _, _, _, _, c28, _⟩ := h.cells
  rw [hop] at c20
  rw [hD] at c21
  rw [hS] at c22
  have cS := h.reg hb
  have j0 : (0 : Int) ≤ (S : Int) := by omega
  have j1 : (S : Int) < 16 := by omega
  have cD := h.reg hd
  have i0 : (0 : Int) ≤ (D : Int) := by omega
  have i1 : (D : Int) < 16 := by omega
  have H := Lib.hid h
  have HD := Lib.hid hd
  have HDD := Lib.hid hD
  have HOP := Lib.hid hop
  have HLT := Lib.hid (And.intro hd64 hb64)
  have HDL := Lib.hid hDl
  clear h hop hD hd hb hd64 hb64 hDl hS
  go_enter Tryz.func38, Tryz.ntmps38
  go_wp2_with fail
  refine (values14 w).mono ?_
  rintro e w1 ⟨rfl, rfl⟩
  go_wp2_with fail
  refine (hasS14 w).mono ?_
  rintro e w1 ⟨rfl, rfl⟩
  go_wp2
  go_region
  have H2 := Lib.hid (H.out.next ((Below.refl _ _).drew))
  have e0 : Below base w w.drew := (Below.refl _ _).drew
  have HB0 := Lib.hid e0
  replace c20 : w.drew.cell? ⟨b, 20, none⟩ = _ := c20
  replace c21 : w.drew.cell? ⟨b, 21, none⟩ = _ := c21
  replace cD : w.drew.cell? ⟨b, D, none⟩ = _ := cD
  clear e0 cS c22 c28 H
  generalize w.drew = w0 at *
  go_wp2
  (refine wp_region_lines (fun w_ => w_.cell? ⟨b, 21, none⟩ = some (.int .i64 D) ∧ w_.cell? ⟨b, D, none⟩ = some (.int .u64 d)) (by kernel_rfl) (by kernel_rfl) ⟨c21, cD⟩ ?_)
  (try simp only [])
  repeat (first | (refine runL_no (by rfl) ?_; (try simp only [Act.put, List.setIfInBounds_toArray, List.set_cons_zero, List.set_cons_succ])) | (refine runL_val (v := ?_) (by rfl) ?_ ?_; rotate_left; (focus (intro w_ hw_; obtain ⟨f1, f2⟩ := hw_; go_simp; (try with_reducible rfl); done)); (try simp only [Act.put, List.setIfInBounds_toArray, List.set_cons_zero, List.set_cons_succ])) | (refine runL_call (f := ?_) (args := ?_) (w1 := ?_) (by rfl) (by rfl) ?_ ?_; rotate_left 3; (focus (go_simp; refine ⟨⟨?_, ?_⟩, ?_⟩ <;> with_reducible rfl)); refine (val6 (H2.out.next ((Below.refl _ _).drew)) d bb HLT.out.1 HLT.out.2).mono ?_; rintro e w1 ⟨rfl, hb1, hr1⟩; have HR := Lib.hid hr1; have HB := Lib.hid (HB0.out.trans ((show Below base w0 w0.drew from (Below.refl _ _).drew).trans hb1)); have c21' : w1.cell? ⟨b, 21, none⟩ = some (.int .i64 D) := (hr1.cells.2.2.2.2.2.1).trans (by rw [HDD.out]); have cD' := hr1.reg (k := D) (r := d) HD.out; have c20' : w1.cell? ⟨b, 20, none⟩ = _ := hr1.cells.2.2.2.2.1; clear hb1 hr1; refine ⟨_, rfl, .inr ⟨c21', cD'⟩, ?_⟩; (try simp only [Act.put, List.setIfInBounds_toArray, List.set_cons_zero, List.set_cons_succ])))
  (refine runL_nil ?_)
  clear c21 cD c20
  have c20 := c20'
  have f0 := HR.out.frozen D
  rw [show (_ : Int) = 14 from HOP.out] at c20
  clear c20'
  go_wp2
  go_ret
  exact ⟨rfl, HB.out, HR.out⟩

theorem values17 (w : World) : Calls Tryz.prog 65 #[.int .i64 17] w fun e w' => e = .returned (.tuple #[.func (.func 88) #[] #[], .bool true]) ∧ w = w' := by
  go_enter Tryz.func65, Tryz.ntmps65
  go_wp2
  go_ret2
  exact ⟨rfl, rfl⟩
theorem hasS17 (w : World) : Calls Tryz.prog 66 #[.int .i64 17] w fun e w' => e = .returned (.bool false) ∧ w = w' := by
  go_enter Tryz.func66, Tryz.ntmps66
  go_wp2
  go_ret
  exact ⟨rfl, rfl⟩
set_option linter.unusedVariables false in
set_option maxRecDepth 100000 in
set_option maxHeartbeats 1600000 in
theorem over17 (h : Run w base b x evs) (hop : x.i.op = 17) (D : Nat) (hD : x.i.d = D) (d : Nat) (hd : x.st.regs[D]? = some d) (bb : Nat) (hb : bb = u64 x.i.imm) :
    Calls Tryz.prog 38 #[.pointer (some ⟨b, 0, none⟩)] w fun e w' => e = .returned (.bool true) ∧ Below base w w' ∧ Run w' base b { x with st := { (valueF.restS x.st d bb false).1 with regs := (valueF.restS x.st d bb false).1.regs.set D (valueF.restS x.st d bb false).2 } } evs := by
  have hd64 : d < 18446744073709551616 := h.ok.regs _ (List.mem_of_getElem? hd)
  have hDl : D < 16 := by have := (List.getElem?_eq_some_iff.1 hd).1; rw [h.ok.len] at this; exact this
  have hb64 : bb < 18446744073709551616 := by rw [hb]; exact u64_lt _
  obtain ⟨_, _, _, _, c20, c21, c22, _, _, _, _, _, c28, _⟩ := h.cells
  rw [hop] at c20
  rw [hD] at c21
  have u1 := wrap_u64 x.i.imm
  rw [← hb] at u1
  have cD := h.reg hd
  have i0 : (0 : Int) ≤ (D : Int) := by omega
  have i1 : (D : Int) < 16 := by omega
  have H := Lib.hid h
  have HD := Lib.hid hd
  have HDD := Lib.hid hD
  have HOP := Lib.hid hop
  have HLT := Lib.hid (And.intro hd64 hb64)
  have HDL := Lib.hid hDl
  clear h hop hD hd hb hd64 hb64 hDl
  go_enter Tryz.func38, Tryz.ntmps38
  go_wp2_with fail
  refine (values17 w).mono ?_
  rintro e w1 ⟨rfl, rfl⟩
  go_wp2_with fail
  refine (hasS17 w).mono ?_
  rintro e w1 ⟨rfl, rfl⟩
  go_wp2
  have H2 := H
  have HB0 := Lib.hid (Below.refl base w)
  clear H c22 c28
  obtain ⟨w0, rfl⟩ : ∃ w0 : World, w0 = w := ⟨_, rfl⟩
  (refine wp_region_lines (fun w_ => w_.cell? ⟨b, 21, none⟩ = some (.int .i64 D) ∧ w_.cell? ⟨b, D, none⟩ = some (.int .u64 d)) (by kernel_rfl) (by kernel_rfl) ⟨c21, cD⟩ ?_)
  (try simp only [])
  repeat (first | (refine runL_no (by rfl) ?_; (try simp only [Act.put, List.setIfInBounds_toArray, List.set_cons_zero, List.set_cons_succ])) | (refine runL_val (v := ?_) (by rfl) ?_ ?_; rotate_left; (focus (intro w_ hw_; obtain ⟨f1, f2⟩ := hw_; go_simp; (try with_reducible rfl); done)); (try simp only [Act.put, List.setIfInBounds_toArray, List.set_cons_zero, List.set_cons_succ])) | (refine runL_call (f := ?_) (args := ?_) (w1 := ?_) (by rfl) (by rfl) ?_ ?_; rotate_left 3; (focus (go_simp; refine ⟨⟨?_, ?_⟩, ?_⟩ <;> with_reducible rfl)); refine (val4 (H2.out.next ((Below.refl _ _).drew)) d bb HLT.out.1 HLT.out.2).mono ?_; rintro e w1 ⟨rfl, hb1, hr1⟩; have HR := Lib.hid hr1; have HB := Lib.hid (HB0.out.trans ((show Below base w0 w0.drew from (Below.refl _ _).drew).trans hb1)); have c21' : w1.cell? ⟨b, 21, none⟩ = some (.int .i64 D) := (hr1.cells.2.2.2.2.2.1).trans (by rw [HDD.out]); have cD' := hr1.reg (k := D) (r := d) HD.out; have c20' : w1.cell? ⟨b, 20, none⟩ = _ := hr1.cells.2.2.2.2.1; clear hb1 hr1; refine ⟨_, rfl, .inr ⟨c21', cD'⟩, ?_⟩; (try simp only [Act.put, List.setIfInBounds_toArray, List.set_cons_zero, List.set_cons_succ])))
  (refine runL_nil ?_)
  clear c21 cD c20
  have c20 := c20'
  have f0 := HR.out.frozen D
  rw [show (_ : Int) = 17 from HOP.out] at c20
  clear c20'
  go_wp2
  go_region
  go_wp2
  go_ret
  exact ⟨rfl, (HB.out.setCell HR.out.le _).drew, (HR.out.setReg HDL.out (subF_lt _ _ _)).next ((Below.refl _ _).drew)⟩

theorem values21 (w : World) : Calls Tryz.prog 65 #[.int .i64 21] w fun e w' => e = .returned (.tuple #[.func (.func 102) #[] #[], .bool true]) ∧ w = w' := by
  go_enter Tryz.func65, Tryz.ntmps65
  go_wp2
  go_ret2
  exact ⟨rfl, rfl⟩
theorem hasS21 (w : World) : Calls Tryz.prog 66 #[.int .i64 21] w fun e w' => e = .returned (.bool true) ∧ w = w' := by
  go_enter Tryz.func66, Tryz.ntmps66
  go_wp2
  go_ret
  exact ⟨rfl, rfl⟩
set_option linter.unusedVariables false in
set_option maxRecDepth 100000 in
set_option maxHeartbeats 1600000 in
theorem over21 (h : Run w base b x evs) (hop : x.i.op = 21) (D : Nat) (hD : x.i.d = D) (d : Nat) (hd : x.st.regs[D]? = some d) (S : Nat) (hS : x.i.s = S) (bb : Nat) (hb : x.st.regs[S]? = some bb) :
    Calls Tryz.prog 38 #[.pointer (some ⟨b, 0, none⟩)] w fun e w' => e = .returned (.bool true) ∧ Below base w w' ∧ Run w' base b { x with st := { (({ x.st with of_ := (addF d bb x.st.of_).2 }, (addF d bb x.st.of_).1)).1 with regs := (({ x.st with of_ := (addF d bb x.st.of_).2 }, (addF d bb x.st.of_).1)).1.regs.set D (({ x.st with of_ := (addF d bb x.st.of_).2 }, (addF d bb x.st.of_).1)).2 } } evs := by
  have hd64 : d < 18446744073709551616 := h.ok.regs _ (List.mem_of_getElem? hd)
  have hDl : D < 16 := by have := (List.getElem?_eq_some_iff.1 hd).1; rw [h.ok.len] at this; exact this
  have hb64 : bb < 18446744073709551616 := h.ok.regs _ (List.mem_of_getElem? hb)
  have hSl : S < 16 := by have := (List.getElem?_eq_some_iff.1 hb).1; rw [h.ok.len] at this; exact this
  obtain ⟨_, _, _, _, c20, c21, c22, _, _, _, _, _, c28, _⟩ := h.cells
  rw [hop] at c20
  rw [hD] at c21
  rw [hS] at c22
  have cS := h.reg hb
  have j0 : (0 : Int) ≤ (S : Int) := by omega
  have j1 : (S : Int) < 16 := by omega
  have cD := h.reg hd
  have i0 : (0 : Int) ≤ (D : Int) := by omega
  have i1 : (D : Int) < 16 := by omega
  have H := Lib.hid h
  have HD := Lib.hid hd
  have HDD := Lib.hid hD
  have HOP := Lib.hid hop
  have HLT := Lib.hid (And.intro hd64 hb64)
  have HDL := Lib.hid hDl
  clear h hop hD hd hb hd64 hb64 hDl hS
  go_enter Tryz.func38, Tryz.ntmps38
  go_wp2_with fail
  refine (values21 w).mono ?_
  rintro e w1 ⟨rfl, rfl⟩
  go_wp2_with fail
  refine (hasS21 w).mono ?_
  rintro e w1 ⟨rfl, rfl⟩
  go_wp2
  go_region
  have H2 := Lib.hid (H.out.next ((Below.refl _ _).drew))
  have e0 : Below base w w.drew := (Below.refl _ _).drew
  have HB0 := Lib.hid e0
  replace c20 : w.drew.cell? ⟨b, 20, none⟩ = _ := c20
  replace c21 : w.drew.cell? ⟨b, 21, none⟩ = _ := c21
  replace cD : w.drew.cell? ⟨b, D, none⟩ = _ := cD
  clear e0 cS c22 c28 H
  generalize w.drew = w0 at *
  go_wp2
  (refine wp_region_lines (fun w_ => w_.cell? ⟨b, 21, none⟩ = some (.int .i64 D) ∧ w_.cell? ⟨b, D, none⟩ = some (.int .u64 d)) (by kernel_rfl) (by kernel_rfl) ⟨c21, cD⟩ ?_)
  (try simp only [])
  repeat (first | (refine runL_no (by rfl) ?_; (try simp only [Act.put, List.setIfInBounds_toArray, List.set_cons_zero, List.set_cons_succ])) | (refine runL_val (v := ?_) (by rfl) ?_ ?_; rotate_left; (focus (intro w_ hw_; obtain ⟨f1, f2⟩ := hw_; go_simp; (try with_reducible rfl); done)); (try simp only [Act.put, List.setIfInBounds_toArray, List.set_cons_zero, List.set_cons_succ])) | (refine runL_call (f := ?_) (args := ?_) (w1 := ?_) (by rfl) (by rfl) ?_ ?_; rotate_left 3; (focus (go_simp; refine ⟨⟨?_, ?_⟩, ?_⟩ <;> with_reducible rfl)); refine (val14 (H2.out.next ((Below.refl _ _).drew)) d bb HLT.out.1 HLT.out.2).mono ?_; rintro e w1 ⟨rfl, hb1, hr1⟩; have HR := Lib.hid hr1; have HB := Lib.hid (HB0.out.trans ((show Below base w0 w0.drew from (Below.refl _ _).drew).trans hb1)); have c21' : w1.cell? ⟨b, 21, none⟩ = some (.int .i64 D) := (hr1.cells.2.2.2.2.2.1).trans (by rw [HDD.out]); have cD' := hr1.reg (k := D) (r := d) HD.out; have c20' : w1.cell? ⟨b, 20, none⟩ = _ := hr1.cells.2.2.2.2.1; clear hb1 hr1; refine ⟨_, rfl, .inr ⟨c21', cD'⟩, ?_⟩; (try simp only [Act.put, List.setIfInBounds_toArray, List.set_cons_zero, List.set_cons_succ])))
  (refine runL_nil ?_)
  clear c21 cD c20
  have c20 := c20'
  have f0 := HR.out.frozen D
  rw [show (_ : Int) = 21 from HOP.out] at c20
  clear c20'
  go_wp2
  go_region
  go_wp2
  go_ret
  exact ⟨rfl, (HB.out.setCell HR.out.le _).drew, (HR.out.setReg HDL.out (addF_lt _ _ _)).next ((Below.refl _ _).drew)⟩

theorem values24 (w : World) : Calls Tryz.prog 65 #[.int .i64 24] w fun e w' => e = .returned (.tuple #[.func (.func 97) #[] #[], .bool true]) ∧ w = w' := by
  go_enter Tryz.func65, Tryz.ntmps65
  go_wp2
  go_ret2
  exact ⟨rfl, rfl⟩
theorem hasS24 (w : World) : Calls Tryz.prog 66 #[.int .i64 24] w fun e w' => e = .returned (.bool false) ∧ w = w' := by
  go_enter Tryz.func66, Tryz.ntmps66
  go_wp2
  go_ret
  exact ⟨rfl, rfl⟩
set_option linter.unusedVariables false in
set_option maxRecDepth 100000 in
set_option maxHeartbeats 1600000 in
theorem over24 (h : Run w base b x evs) (hop : x.i.op = 24) (D : Nat) (hD : x.i.d = D) (d : Nat) (hd : x.st.regs[D]? = some d) (bb : Nat) (hb : bb = u64 x.i.imm) (hb1 : 1 ≤ bb) (hb2 : bb ≤ 63) :
    Calls Tryz.prog 38 #[.pointer (some ⟨b, 0, none⟩)] w fun e w' => e = .returned (.bool true) ∧ Below base w w' ∧ Run w' base b { x with st := { (valueF.shiftS x.st (d * 2 ^ bb % 18446744073709551616) (d / 2 ^ (64 - bb))).1 with regs := (valueF.shiftS x.st (d * 2 ^ bb % 18446744073709551616) (d / 2 ^ (64 - bb))).1.regs.set D (valueF.shiftS x.st (d * 2 ^ bb % 18446744073709551616) (d / 2 ^ (64 - bb))).2 } } evs := by
  have hd64 : d < 18446744073709551616 := h.ok.regs _ (List.mem_of_getElem? hd)
  have hDl : D < 16 := by have := (List.getElem?_eq_some_iff.1 hd).1; rw [h.ok.len] at this; exact this
  have hb64 : bb < 18446744073709551616 := by rw [hb]; exact u64_lt _
  obtain ⟨_, _, _, _, c20, c21, c22, _, _, _, _, _, c28, _⟩ := h.cells
  rw [hop] at c20
  rw [hD] at c21
  have u1 := wrap_u64 x.i.imm
  rw [← hb] at u1
  have cD := h.reg hd
  have i0 : (0 : Int) ≤ (D : Int) := by omega
  have i1 : (D : Int) < 16 := by omega
  have H := Lib.hid h
  have HD := Lib.hid hd
  have HDD := Lib.hid hD
  have HOP := Lib.hid hop
  have HLT := Lib.hid (And.intro hd64 hb64)
  have HDL := Lib.hid hDl
  clear h hop hD hd hb hd64 hb64 hDl
  go_enter Tryz.func38, Tryz.ntmps38
  go_wp2_with fail
  refine (values24 w).mono ?_
  rintro e w1 ⟨rfl, rfl⟩
  go_wp2_with fail
  refine (hasS24 w).mono ?_
  rintro e w1 ⟨rfl, rfl⟩
  go_wp2
  have H2 := H
  have HB0 := Lib.hid (Below.refl base w)
  clear H c22 c28
  obtain ⟨w0, rfl⟩ : ∃ w0 : World, w0 = w := ⟨_, rfl⟩
  have hb1' := hb1
  (refine wp_region_lines (fun w_ => w_.cell? ⟨b, 21, none⟩ = some (.int .i64 D) ∧ w_.cell? ⟨b, D, none⟩ = some (.int .u64 d)) (by kernel_rfl) (by kernel_rfl) ⟨c21, cD⟩ ?_)
  (try simp only [])
  repeat (first | (refine runL_no (by rfl) ?_; (try simp only [Act.put, List.setIfInBounds_toArray, List.set_cons_zero, List.set_cons_succ])) | (refine runL_val (v := ?_) (by rfl) ?_ ?_; rotate_left; (focus (intro w_ hw_; obtain ⟨f1, f2⟩ := hw_; go_simp; (try with_reducible rfl); done)); (try simp only [Act.put, List.setIfInBounds_toArray, List.set_cons_zero, List.set_cons_succ])) | (refine runL_call (f := ?_) (args := ?_) (w1 := ?_) (by rfl) (by rfl) ?_ ?_; rotate_left 3; (focus (go_simp; refine ⟨⟨?_, ?_⟩, ?_⟩ <;> with_reducible rfl)); refine (val11 (H2.out.next ((Below.refl _ _).drew)) d bb HLT.out.1 hb1 hb2).mono ?_; rintro e w1 ⟨rfl, hb1, hr1⟩; have HR := Lib.hid hr1; have HB := Lib.hid (HB0.out.trans ((show Below base w0 w0.drew from (Below.refl _ _).drew).trans hb1)); have c21' : w1.cell? ⟨b, 21, none⟩ = some (.int .i64 D) := (hr1.cells.2.2.2.2.2.1).trans (by rw [HDD.out]); have cD' := hr1.reg (k := D) (r := d) HD.out; have c20' : w1.cell? ⟨b, 20, none⟩ = _ := hr1.cells.2.2.2.2.1; clear hb1 hr1; refine ⟨_, rfl, .inr ⟨c21', cD'⟩, ?_⟩; (try simp only [Act.put, List.setIfInBounds_toArray, List.set_cons_zero, List.set_cons_succ])))
  (refine runL_nil ?_)
  clear c21 cD c20
  have c20 := c20'
  have f0 := HR.out.frozen D
  rw [show (_ : Int) = 24 from HOP.out] at c20
  clear c20'
  go_wp2
  go_region
  go_wp2
  go_ret
  exact ⟨rfl, (HB.out.setCell HR.out.le _).drew, (HR.out.setReg HDL.out (Nat.mod_lt _ (by decide))).next ((Below.refl _ _).drew)⟩

theorem values27 (w : World) : Calls Tryz.prog 65 #[.int .i64 27] w fun e w' => e = .returned (.tuple #[.func (.func 105) #[] #[], .bool true]) ∧ w = w' := by
  go_enter Tryz.func65, Tryz.ntmps65
  go_wp2
  go_ret2
  exact ⟨rfl, rfl⟩
theorem hasS27 (w : World) : Calls Tryz.prog 66 #[.int .i64 27] w fun e w' => e = .returned (.bool true) ∧ w = w' := by
  go_enter Tryz.func66, Tryz.ntmps66
  go_wp2
  go_ret
  exact ⟨rfl, rfl⟩
set_option linter.unusedVariables false in
set_option maxRecDepth 100000 in
set_option maxHeartbeats 1600000 in
theorem over27 (h : Run w base b x evs) (hop : x.i.op = 27) (D : Nat) (hD : x.i.d = D) (d : Nat) (hd : x.st.regs[D]? = some d) (S : Nat) (hS : x.i.s = S) (bb : Nat) (hb : x.st.regs[S]? = some bb) (q : Nat) (hq : q = if !x.st.zf then bb else d) :
    Calls Tryz.prog 38 #[.pointer (some ⟨b, 0, none⟩)] w fun e w' => e = .returned (.bool true) ∧ Below base w w' ∧ Run w' base b { x with st := { ((x.st, q)).1 with regs := ((x.st, q)).1.regs.set D ((x.st, q)).2 } } evs := by
  have hd64 : d < 18446744073709551616 := h.ok.regs _ (List.mem_of_getElem? hd)
  have hDl : D < 16 := by have := (List.getElem?_eq_some_iff.1 hd).1; rw [h.ok.len] at this; exact this
  have hb64 : bb < 18446744073709551616 := h.ok.regs _ (List.mem_of_getElem? hb)
  have hSl : S < 16 := by have := (List.getElem?_eq_some_iff.1 hb).1; rw [h.ok.len] at this; exact this
  obtain ⟨_, _, _, _, c20, c21, c22, _, _, _, _, _, c28, _⟩ := h.cells
  rw [hop] at c20
  rw [hD] at c21
  rw [hS] at c22
  have cS := h.reg hb
  have j0 : (0 : Int) ≤ (S : Int) := by omega
  have j1 : (S : Int) < 16 := by omega
  have cD := h.reg hd
  have i0 : (0 : Int) ≤ (D : Int) := by omega
  have i1 : (D : Int) < 16 := by omega
  have H := Lib.hid h
  have HQ := Lib.hid hq
  clear hq
  have HD := Lib.hid hd
  have HDD := Lib.hid hD
  have HOP := Lib.hid hop
  have HLT := Lib.hid (And.intro hd64 hb64)
  have HDL := Lib.hid hDl
  clear h hop hD hd hb hd64 hb64 hDl hS
  go_enter Tryz.func38, Tryz.ntmps38
  go_wp2_with fail
  refine (values27 w).mono ?_
  rintro e w1 ⟨rfl, rfl⟩
  go_wp2_with fail
  refine (hasS27 w).mono ?_
  rintro e w1 ⟨rfl, rfl⟩
  go_wp2
  go_region
  have H2 := Lib.hid (H.out.next ((Below.refl _ _).drew))
  have e0 : Below base w w.drew := (Below.refl _ _).drew
  have HB0 := Lib.hid e0
  replace c20 : w.drew.cell? ⟨b, 20, none⟩ = _ := c20
  replace c21 : w.drew.cell? ⟨b, 21, none⟩ = _ := c21
  replace cD : w.drew.cell? ⟨b, D, none⟩ = _ := cD
  clear e0 cS c22 c28 H
  generalize w.drew = w0 at *
  go_wp2
  (refine wp_region_lines (fun w_ => w_.cell? ⟨b, 21, none⟩ = some (.int .i64 D) ∧ w_.cell? ⟨b, D, none⟩ = some (.int .u64 d)) (by kernel_rfl) (by kernel_rfl) ⟨c21, cD⟩ ?_)
  (try simp only [])
  repeat (first | (refine runL_no (by rfl) ?_; (try simp only [Act.put, List.setIfInBounds_toArray, List.set_cons_zero, List.set_cons_succ])) | (refine runL_val (v := ?_) (by rfl) ?_ ?_; rotate_left; (focus (intro w_ hw_; obtain ⟨f1, f2⟩ := hw_; go_simp; (try with_reducible rfl); done)); (try simp only [Act.put, List.setIfInBounds_toArray, List.set_cons_zero, List.set_cons_succ])) | (refine runL_call (f := ?_) (args := ?_) (w1 := ?_) (by rfl) (by rfl) ?_ ?_; rotate_left 3; (focus (go_simp; refine ⟨⟨?_, ?_⟩, ?_⟩ <;> with_reducible rfl)); refine (val16q (H2.out.next ((Below.refl _ _).drew)) d bb HLT.out.1 HLT.out.2 q HQ.out).mono ?_; rintro e w1 ⟨rfl, hb1, hr1⟩; have HR := Lib.hid hr1; have HB := Lib.hid (HB0.out.trans ((show Below base w0 w0.drew from (Below.refl _ _).drew).trans hb1)); have c21' : w1.cell? ⟨b, 21, none⟩ = some (.int .i64 D) := (hr1.cells.2.2.2.2.2.1).trans (by rw [HDD.out]); have cD' := hr1.reg (k := D) (r := d) HD.out; have c20' : w1.cell? ⟨b, 20, none⟩ = _ := hr1.cells.2.2.2.2.1; clear hb1 hr1; refine ⟨_, rfl, .inr ⟨c21', cD'⟩, ?_⟩; (try simp only [Act.put, List.setIfInBounds_toArray, List.set_cons_zero, List.set_cons_succ])))
  (refine runL_nil ?_)
  clear c21 cD c20
  have c20 := c20'
  have f0 := HR.out.frozen D
  rw [show (_ : Int) = 27 from HOP.out] at c20
  clear c20'
  go_wp2
  go_region
  go_wp2
  go_ret
  exact ⟨rfl, (HB.out.setCell HR.out.le _).drew, (HR.out.setReg HDL.out (by show q < _; rw [HQ.out]; exact ite_lt HLT.out.2 HLT.out.1)).next ((Below.refl _ _).drew)⟩

end Go.Proofs.YtmanhikpccnfaaaGreat
