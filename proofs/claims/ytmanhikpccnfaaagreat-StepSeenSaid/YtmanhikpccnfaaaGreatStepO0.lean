/- The stepper's over, part 0. -/
import Derived.Test.YtmanhikpccnfaaaGreatStepV
import Derived.Test.YtmanhikpccnfaaaGreatStepD
namespace Go.Proofs.YtmanhikpccnfaaaGreat
open Go.RowKit

variable {w : World} {base b : Nat} {x : Stp} {evs : List Ev}

theorem values1 (w : World) : Calls Tryz.prog 65 #[.int .i64 1] w fun e w' => e = .returned (.tuple #[.func (.func 84) #[] #[], .bool true]) ∧ w = w' := by
  go_enter Tryz.func65, Tryz.ntmps65
  go_wp2
  go_ret2
  exact ⟨rfl, rfl⟩
theorem hasS1 (w : World) : Calls Tryz.prog 66 #[.int .i64 1] w fun e w' => e = .returned (.bool true) ∧ w = w' := by
  go_enter Tryz.func66, Tryz.ntmps66
  go_wp2
  go_ret
  exact ⟨rfl, rfl⟩
set_option linter.unusedVariables false in
set_option maxRecDepth 100000 in
set_option maxHeartbeats 1600000 in
theorem over1 (h : Run w base b x evs) (hop : x.i.op = 1) (D : Nat) (hD : x.i.d = D) (d : Nat) (hd : x.st.regs[D]? = some d) (S : Nat) (hS : x.i.s = S) (bb : Nat) (hb : x.st.regs[S]? = some bb) :
    Calls Tryz.prog 38 #[.pointer (some ⟨b, 0, none⟩)] w fun e w' => e = .returned (.bool true) ∧ Below base w w' ∧ Run w' base b { x with st := { ((x.st, bb)).1 with regs := ((x.st, bb)).1.regs.set D ((x.st, bb)).2 } } evs := by
  have hd64 : d < 18446744073709551616 := h.ok.regs _ (List.mem_of_getElem? hd)
  have hDl : D < 16 := by have := (List.getElem?_eq_some_iff.1 hd).1; rw [h.ok.len] at this; exact this
  have hb64 : bb < 18446744073709551616 := h.ok.regs _ (List.mem_of_getElem? hb)
  have hSl : S < 16 := by have := (List.getElem?_eq_some_iff.1 hb).1; rw [h.ok.len] at this; exact this
  obtain ⟨_, _, _, _, c20, c21, c22, _, _, _, _, _, c28, _⟩ := h.cells
  rw [hop] at c20
  rw [hD] at c21
  rw [hS] at c22
  have cS := h.reg hb
  have j0 : (0 : Int) ≤ (S : Int) := by omega
  have j1 : (S : Int) < 16 := by omega
  have cD := h.reg hd
  have i0 : (0 : Int) ≤ (D : Int) := by omega
  have i1 : (D : Int) < 16 := by omega
  have H := Lib.hid h
  have HD := Lib.hid hd
  have HDD := Lib.hid hD
  have HOP := Lib.hid hop
  have HLT := Lib.hid (And.intro hd64 hb64)
  have HDL := Lib.hid hDl
  clear h hop hD hd hb hd64 hb64 hDl hS
  go_enter Tryz.func38, Tryz.ntmps38
  go_wp2_with fail
  refine (values1 w).mono ?_
  rintro e w1 ⟨rfl, rfl⟩
  go_wp2_with fail
  refine (hasS1 w).mono ?_
  rintro e w1 ⟨rfl, rfl⟩
  go_wp2
  go_region
  have H2 := Lib.hid (H.out.next ((Below.refl _ _).drew))
  have e0 : Below base w w.drew := (Below.refl _ _).drew
  have HB0 := Lib.hid e0
  replace c20 : w.drew.cell? ⟨b, 20, none⟩ = _ := c20
  replace c21 : w.drew.cell? ⟨b, 21, none⟩ = _ := c21
  replace cD : w.drew.cell? ⟨b, D, none⟩ = _ := cD
  clear e0 cS c22 c28 H
  generalize w.drew = w0 at *
  go_wp2
  (refine wp_region_lines (fun w_ => w_.cell? ⟨b, 21, none⟩ = some (.int .i64 D) ∧ w_.cell? ⟨b, D, none⟩ = some (.int .u64 d)) (by kernel_rfl) (by kernel_rfl) ⟨c21, cD⟩ ?_)
  (try simp only [])
  repeat (first | (refine runL_no (by rfl) ?_; (try simp only [Act.put, List.setIfInBounds_toArray, List.set_cons_zero, List.set_cons_succ])) | (refine runL_val (v := ?_) (by rfl) ?_ ?_; rotate_left; (focus (intro w_ hw_; obtain ⟨f1, f2⟩ := hw_; go_simp; (try with_reducible rfl); done)); (try simp only [Act.put, List.setIfInBounds_toArray, List.set_cons_zero, List.set_cons_succ])) | (refine runL_call (f := ?_) (args := ?_) (w1 := ?_) (by rfl) (by rfl) ?_ ?_; rotate_left 3; (focus (go_simp; refine ⟨⟨?_, ?_⟩, ?_⟩ <;> with_reducible rfl)); refine (val1 (H2.out.next ((Below.refl _ _).drew)) d bb HLT.out.1 HLT.out.2).mono ?_; rintro e w1 ⟨rfl, hb1, hr1⟩; have HR := Lib.hid hr1; have HB := Lib.hid (HB0.out.trans ((show Below base w0 w0.drew from (Below.refl _ _).drew).trans hb1)); have c21' : w1.cell? ⟨b, 21, none⟩ = some (.int .i64 D) := (hr1.cells.2.2.2.2.2.1).trans (by rw [HDD.out]); have cD' := hr1.reg (k := D) (r := d) HD.out; have c20' : w1.cell? ⟨b, 20, none⟩ = _ := hr1.cells.2.2.2.2.1; clear hb1 hr1; refine ⟨_, rfl, .inr ⟨c21', cD'⟩, ?_⟩; (try simp only [Act.put, List.setIfInBounds_toArray, List.set_cons_zero, List.set_cons_succ])))
  (refine runL_nil ?_)
  clear c21 cD c20
  have c20 := c20'
  have f0 := HR.out.frozen D
  rw [show (_ : Int) = 1 from HOP.out] at c20
  clear c20'
  go_wp2
  go_region
  go_wp2
  go_ret
  exact ⟨rfl, (HB.out.setCell HR.out.le _).drew, (HR.out.setReg HDL.out (HLT.out.2)).next ((Below.refl _ _).drew)⟩

theorem values7 (w : World) : Calls Tryz.prog 65 #[.int .i64 7] w fun e w' => e = .returned (.tuple #[.func (.func 87) #[] #[], .bool true]) ∧ w = w' := by
  go_enter Tryz.func65, Tryz.ntmps65
  go_wp2
  go_ret2
  exact ⟨rfl, rfl⟩
theorem hasS7 (w : World) : Calls Tryz.prog 66 #[.int .i64 7] w fun e w' => e = .returned (.bool true) ∧ w = w' := by
  go_enter Tryz.func66, Tryz.ntmps66
  go_wp2
  go_ret
  exact ⟨rfl, rfl⟩
set_option linter.unusedVariables false in
set_option maxRecDepth 100000 in
set_option maxHeartbeats 1600000 in
theorem over7 (h : Run w base b x evs) (hop : x.i.op = 7) (D : Nat) (hD : x.i.d = D) (d : Nat) (hd : x.st.regs[D]? = some d) (S : Nat) (hS : x.i.s = S) (bb : Nat) (hb : x.st.regs[S]? = some bb) :
    Calls Tryz.prog 38 #[.pointer (some ⟨b, 0, none⟩)] w fun e w' => e = .returned (.bool true) ∧ Below base w w' ∧ Run w' base b { x with st := { (valueF.sumS x.st d bb x.st.cf).1 with regs := (valueF.sumS x.st d bb x.st.cf).1.regs.set D (valueF.sumS x.st d bb x.st.cf).2 } } evs := by
  have hd64 : d < 18446744073709551616 := h.ok.regs _ (List.mem_of_getElem? hd)
  have hDl : D < 16 := by have := (List.getElem?_eq_some_iff.1 hd).1; rw [h.ok.len] at this; exact this
  have hb64 : bb < 18446744073709551616 := h.ok.regs _ (List.mem_of_getElem? hb)
  have hSl : S < 16 := by have := (List.getElem?_eq_some_iff.1 hb).1; rw [h.ok.len] at this; exact this
  obtain ⟨_, _, _, _, c20, c21, c22, _, _, _, _, _, c28, _⟩ := h.cells
  rw [hop] at c20
  rw [hD] at c21
  rw [hS] at c22
  have cS := h.reg hb
  have j0 : (0 : Int) ≤ (S : Int) := by omega
  have j1 : (S : Int) < 16 := by omega
  have cD := h.reg hd
  have i0 : (0 : Int) ≤ (D : Int) := by omega
  have i1 : (D : Int) < 16 := by omega
  have H := Lib.hid h
  have HD := Lib.hid hd
  have HDD := Lib.hid hD
  have HOP := Lib.hid hop
  have HLT := Lib.hid (And.intro hd64 hb64)
  have HDL := Lib.hid hDl
  clear h hop hD hd hb hd64 hb64 hDl hS
  go_enter Tryz.func38, Tryz.ntmps38
  go_wp2_with fail
  refine (values7 w).mono ?_
  rintro e w1 ⟨rfl, rfl⟩
  go_wp2_with fail
  refine (hasS7 w).mono ?_
  rintro e w1 ⟨rfl, rfl⟩
  go_wp2
  go_region
  have H2 := Lib.hid (H.out.next ((Below.refl _ _).drew))
  have e0 : Below base w w.drew := (Below.refl _ _).drew
  have HB0 := Lib.hid e0
  replace c20 : w.drew.cell? ⟨b, 20, none⟩ = _ := c20
  replace c21 : w.drew.cell? ⟨b, 21, none⟩ = _ := c21
  replace cD : w.drew.cell? ⟨b, D, none⟩ = _ := cD
  clear e0 cS c22 c28 H
  generalize w.drew = w0 at *
  go_wp2
  (refine wp_region_lines (fun w_ => w_.cell? ⟨b, 21, none⟩ = some (.int .i64 D) ∧ w_.cell? ⟨b, D, none⟩ = some (.int .u64 d)) (by kernel_rfl) (by kernel_rfl) ⟨c21, cD⟩ ?_)
  (try simp only [])
  repeat (first | (refine runL_no (by rfl) ?_; (try simp only [Act.put, List.setIfInBounds_toArray, List.set_cons_zero, List.set_cons_succ])) | (refine runL_val (v := ?_) (by rfl) ?_ ?_; rotate_left; (focus (intro w_ hw_; obtain ⟨f1, f2⟩ := hw_; go_simp; (try with_reducible rfl); done)); (try simp only [Act.put, List.setIfInBounds_toArray, List.set_cons_zero, List.set_cons_succ])) | (refine runL_call (f := ?_) (args := ?_) (w1 := ?_) (by rfl) (by rfl) ?_ ?_; rotate_left 3; (focus (go_simp; refine ⟨⟨?_, ?_⟩, ?_⟩ <;> with_reducible rfl)); refine (val3 (H2.out.next ((Below.refl _ _).drew)) d bb HLT.out.1 HLT.out.2).mono ?_; rintro e w1 ⟨rfl, hb1, hr1⟩; have HR := Lib.hid hr1; have HB := Lib.hid (HB0.out.trans ((show Below base w0 w0.drew from (Below.refl _ _).drew).trans hb1)); have c21' : w1.cell? ⟨b, 21, none⟩ = some (.int .i64 D) := (hr1.cells.2.2.2.2.2.1).trans (by rw [HDD.out]); have cD' := hr1.reg (k := D) (r := d) HD.out; have c20' : w1.cell? ⟨b, 20, none⟩ = _ := hr1.cells.2.2.2.2.1; clear hb1 hr1; refine ⟨_, rfl, .inr ⟨c21', cD'⟩, ?_⟩; (try simp only [Act.put, List.setIfInBounds_toArray, List.set_cons_zero, List.set_cons_succ])))
  (refine runL_nil ?_)
  clear c21 cD c20
  have c20 := c20'
  have f0 := HR.out.frozen D
  rw [show (_ : Int) = 7 from HOP.out] at c20
  clear c20'
  go_wp2
  go_region
  go_wp2
  go_ret
  exact ⟨rfl, (HB.out.setCell HR.out.le _).drew, (HR.out.setReg HDL.out (addF_lt _ _ _)).next ((Below.refl _ _).drew)⟩

theorem values10 (w : World) : Calls Tryz.prog 65 #[.int .i64 10] w fun e w' => e = .returned (.tuple #[.func (.func 91) #[] #[], .bool true]) ∧ w = w' := by
  go_enter Tryz.func65, Tryz.ntmps65
  go_wp2
  go_ret2
  exact ⟨rfl, rfl⟩
theorem hasS10 (w : World) : Calls Tryz.prog 66 #[.int .i64 10] w fun e w' => e = .returned (.bool true) ∧ w = w' := by
  go_enter Tryz.func66, Tryz.ntmps66
  go_wp2
  go_ret
  exact ⟨rfl, rfl⟩
set_option linter.unusedVariables false in
set_option maxRecDepth 100000 in
set_option maxHeartbeats 1600000 in
theorem over10 (h : Run w base b x evs) (hop : x.i.op = 10) (D : Nat) (hD : x.i.d = D) (d : Nat) (hd : x.st.regs[D]? = some d) (S : Nat) (hS : x.i.s = S) (bb : Nat) (hb : x.st.regs[S]? = some bb) :
    Calls Tryz.prog 38 #[.pointer (some ⟨b, 0, none⟩)] w fun e w' => e = .returned (.bool true) ∧ Below base w w' ∧ Run w' base b { x with st := { (valueF.plainS x.st (d &&& bb)).1 with regs := (valueF.plainS x.st (d &&& bb)).1.regs.set D (valueF.plainS x.st (d &&& bb)).2 } } evs := by
  have hd64 : d < 18446744073709551616 := h.ok.regs _ (List.mem_of_getElem? hd)
  have hDl : D < 16 := by have := (List.getElem?_eq_some_iff.1 hd).1; rw [h.ok.len] at this; exact this
  have hb64 : bb < 18446744073709551616 := h.ok.regs _ (List.mem_of_getElem? hb)
  have hSl : S < 16 := by have := (List.getElem?_eq_some_iff.1 hb).1; rw [h.ok.len] at this; exact this
  obtain ⟨_, _, _, _, c20, c21, c22, _, _, _, _, _, c28, _⟩ := h.cells
  rw [hop] at c20
  rw [hD] at c21
  rw [hS] at c22
  have cS := h.reg hb
  have j0 : (0 : Int) ≤ (S : Int) := by omega
  have j1 : (S : Int) < 16 := by omega
  have cD := h.reg hd
  have i0 : (0 : Int) ≤ (D : Int) := by omega
  have i1 : (D : Int) < 16 := by omega
  have H := Lib.hid h
  have HD := Lib.hid hd
  have HDD := Lib.hid hD
  have HOP := Lib.hid hop
  have HLT := Lib.hid (And.intro hd64 hb64)
  have HDL := Lib.hid hDl
  clear h hop hD hd hb hd64 hb64 hDl hS
  go_enter Tryz.func38, Tryz.ntmps38
  go_wp2_with fail
  refine (values10 w).mono ?_
  rintro e w1 ⟨rfl, rfl⟩
  go_wp2_with fail
  refine (hasS10 w).mono ?_
  rintro e w1 ⟨rfl, rfl⟩
  go_wp2
  go_region
  have H2 := Lib.hid (H.out.next ((Below.refl _ _).drew))
  have e0 : Below base w w.drew := (Below.refl _ _).drew
  have HB0 := Lib.hid e0
  replace c20 : w.drew.cell? ⟨b, 20, none⟩ = _ := c20
  replace c21 : w.drew.cell? ⟨b, 21, none⟩ = _ := c21
  replace cD : w.drew.cell? ⟨b, D, none⟩ = _ := cD
  clear e0 cS c22 c28 H
  generalize w.drew = w0 at *
  go_wp2
  (refine wp_region_lines (fun w_ => w_.cell? ⟨b, 21, none⟩ = some (.int .i64 D) ∧ w_.cell? ⟨b, D, none⟩ = some (.int .u64 d)) (by kernel_rfl) (by kernel_rfl) ⟨c21, cD⟩ ?_)
  (try simp only [])
  repeat (first | (refine runL_no (by rfl) ?_; (try simp only [Act.put, List.setIfInBounds_toArray, List.set_cons_zero, List.set_cons_succ])) | (refine runL_val (v := ?_) (by rfl) ?_ ?_; rotate_left; (focus (intro w_ hw_; obtain ⟨f1, f2⟩ := hw_; go_simp; (try with_reducible rfl); done)); (try simp only [Act.put, List.setIfInBounds_toArray, List.set_cons_zero, List.set_cons_succ])) | (refine runL_call (f := ?_) (args := ?_) (w1 := ?_) (by rfl) (by rfl) ?_ ?_; rotate_left 3; (focus (go_simp; refine ⟨⟨?_, ?_⟩, ?_⟩ <;> with_reducible rfl)); refine (val6 (H2.out.next ((Below.refl _ _).drew)) d bb HLT.out.1 HLT.out.2).mono ?_; rintro e w1 ⟨rfl, hb1, hr1⟩; have HR := Lib.hid hr1; have HB := Lib.hid (HB0.out.trans ((show Below base w0 w0.drew from (Below.refl _ _).drew).trans hb1)); have c21' : w1.cell? ⟨b, 21, none⟩ = some (.int .i64 D) := (hr1.cells.2.2.2.2.2.1).trans (by rw [HDD.out]); have cD' := hr1.reg (k := D) (r := d) HD.out; have c20' : w1.cell? ⟨b, 20, none⟩ = _ := hr1.cells.2.2.2.2.1; clear hb1 hr1; refine ⟨_, rfl, .inr ⟨c21', cD'⟩, ?_⟩; (try simp only [Act.put, List.setIfInBounds_toArray, List.set_cons_zero, List.set_cons_succ])))
  (refine runL_nil ?_)
  clear c21 cD c20
  have c20 := c20'
  have f0 := HR.out.frozen D
  rw [show (_ : Int) = 10 from HOP.out] at c20
  clear c20'
  go_wp2
  go_region
  go_wp2
  go_ret
  exact ⟨rfl, (HB.out.setCell HR.out.le _).drew, (HR.out.setReg HDL.out (and_lt HLT.out.1)).next ((Below.refl _ _).drew)⟩

theorem values13 (w : World) : Calls Tryz.prog 65 #[.int .i64 13] w fun e w' => e = .returned (.tuple #[.func (.func 88) #[] #[], .bool true]) ∧ w = w' := by
  go_enter Tryz.func65, Tryz.ntmps65
  go_wp2
  go_ret2
  exact ⟨rfl, rfl⟩
theorem hasS13 (w : World) : Calls Tryz.prog 66 #[.int .i64 13] w fun e w' => e = .returned (.bool true) ∧ w = w' := by
  go_enter Tryz.func66, Tryz.ntmps66
  go_wp2
  go_ret
  exact ⟨rfl, rfl⟩
set_option linter.unusedVariables false in
set_option maxRecDepth 100000 in
set_option maxHeartbeats 1600000 in
theorem over13 (h : Run w base b x evs) (hop : x.i.op = 13) (D : Nat) (hD : x.i.d = D) (d : Nat) (hd : x.st.regs[D]? = some d) (S : Nat) (hS : x.i.s = S) (bb : Nat) (hb : x.st.regs[S]? = some bb) :
    Calls Tryz.prog 38 #[.pointer (some ⟨b, 0, none⟩)] w fun e w' => e = .returned (.bool true) ∧ Below base w w' ∧ Run w' base b { x with st := (valueF.restS x.st d bb false).1 } evs := by
  have hd64 : d < 18446744073709551616 := h.ok.regs _ (List.mem_of_getElem? hd)
  have hDl : D < 16 := by have := (List.getElem?_eq_some_iff.1 hd).1; rw [h.ok.len] at this; exact this
  have hb64 : bb < 18446744073709551616 := h.ok.regs _ (List.mem_of_getElem? hb)
  have hSl : S < 16 := by have := (List.getElem?_eq_some_iff.1 hb).1; rw [h.ok.len] at this; exact this
  obtain ⟨_, _, _, _, c20, c21, c22, _, _, _, _, _, c28, _⟩ := h.cells
  rw [hop] at c20
  rw [hD] at c21
  rw [hS] at c22
  have cS := h.reg hb
  have j0 : (0 : Int) ≤ (S : Int) := by omega
  have j1 : (S : Int) < 16 := by omega
  have cD := h.reg hd
  have i0 : (0 : Int) ≤ (D : Int) := by omega
  have i1 : (D : Int) < 16 := by omega
  have H := Lib.hid h
  have HD := Lib.hid hd
  have HDD := Lib.hid hD
  have HOP := Lib.hid hop
  have HLT := Lib.hid (And.intro hd64 hb64)
  have HDL := Lib.hid hDl
  clear h hop hD hd hb hd64 hb64 hDl hS
  go_enter Tryz.func38, Tryz.ntmps38
  go_wp2_with fail
  refine (values13 w).mono ?_
  rintro e w1 ⟨rfl, rfl⟩
  go_wp2_with fail
  refine (hasS13 w).mono ?_
  rintro e w1 ⟨rfl, rfl⟩
  go_wp2
  go_region
  have H2 := Lib.hid (H.out.next ((Below.refl _ _).drew))
  have e0 : Below base w w.drew := (Below.refl _ _).drew
  have HB0 := Lib.hid e0
  replace c20 : w.drew.cell? ⟨b, 20, none⟩ = _ := c20
  replace c21 : w.drew.cell? ⟨b, 21, none⟩ = _ := c21
  replace cD : w.drew.cell? ⟨b, D, none⟩ = _ := cD
  clear e0 cS c22 c28 H
  generalize w.drew = w0 at *
  go_wp2
  (refine wp_region_lines (fun w_ => w_.cell? ⟨b, 21, none⟩ = some (.int .i64 D) ∧ w_.cell? ⟨b, D, none⟩ = some (.int .u64 d)) (by kernel_rfl) (by kernel_rfl) ⟨c21, cD⟩ ?_)
  (try simp only [])
  repeat (first | (refine runL_no (by rfl) ?_; (try simp only [Act.put, List.setIfInBounds_toArray, List.set_cons_zero, List.set_cons_succ])) | (refine runL_val (v := ?_) (by rfl) ?_ ?_; rotate_left; (focus (intro w_ hw_; obtain ⟨f1, f2⟩ := hw_; go_simp; (try with_reducible rfl); done)); (try simp only [Act.put, List.setIfInBounds_toArray, List.set_cons_zero, List.set_cons_succ])) | (refine runL_call (f := ?_) (args := ?_) (w1 := ?_) (by rfl) (by rfl) ?_ ?_; rotate_left 3; (focus (go_simp; refine ⟨⟨?_, ?_⟩, ?_⟩ <;> with_reducible rfl)); refine (val4 (H2.out.next ((Below.refl _ _).drew)) d bb HLT.out.1 HLT.out.2).mono ?_; rintro e w1 ⟨rfl, hb1, hr1⟩; have HR := Lib.hid hr1; have HB := Lib.hid (HB0.out.trans ((show Below base w0 w0.drew from (Below.refl _ _).drew).trans hb1)); have c21' : w1.cell? ⟨b, 21, none⟩ = some (.int .i64 D) := (hr1.cells.2.2.2.2.2.1).trans (by rw [HDD.out]); have cD' := hr1.reg (k := D) (r := d) HD.out; have c20' : w1.cell? ⟨b, 20, none⟩ = _ := hr1.cells.2.2.2.2.1; clear hb1 hr1; refine ⟨_, rfl, .inr ⟨c21', cD'⟩, ?_⟩; (try simp only [Act.put, List.setIfInBounds_toArray, List.set_cons_zero, List.set_cons_succ])))
  (refine runL_nil ?_)
  clear c21 cD c20
  have c20 := c20'
  have f0 := HR.out.frozen D
  rw [show (_ : Int) = 13 from HOP.out] at c20
  clear c20'
  go_wp2
  go_ret
  exact ⟨rfl, HB.out, HR.out⟩

theorem values16 (w : World) : Calls Tryz.prog 65 #[.int .i64 16] w fun e w' => e = .returned (.tuple #[.func (.func 91) #[] #[], .bool true]) ∧ w = w' := by
  go_enter Tryz.func65, Tryz.ntmps65
  go_wp2
  go_ret2
  exact ⟨rfl, rfl⟩
theorem hasS16 (w : World) : Calls Tryz.prog 66 #[.int .i64 16] w fun e w' => e = .returned (.bool false) ∧ w = w' := by
  go_enter Tryz.func66, Tryz.ntmps66
  go_wp2
  go_ret
  exact ⟨rfl, rfl⟩
set_option linter.unusedVariables false in
set_option maxRecDepth 100000 in
set_option maxHeartbeats 1600000 in
theorem over16 (h : Run w base b x evs) (hop : x.i.op = 16) (D : Nat) (hD : x.i.d = D) (d : Nat) (hd : x.st.regs[D]? = some d) (bb : Nat) (hb : bb = u64 x.i.imm) :
    Calls Tryz.prog 38 #[.pointer (some ⟨b, 0, none⟩)] w fun e w' => e = .returned (.bool true) ∧ Below base w w' ∧ Run w' base b { x with st := { (valueF.plainS x.st (d &&& bb)).1 with regs := (valueF.plainS x.st (d &&& bb)).1.regs.set D (valueF.plainS x.st (d &&& bb)).2 } } evs := by
  have hd64 : d < 18446744073709551616 := h.ok.regs _ (List.mem_of_getElem? hd)
  have hDl : D < 16 := by have := (List.getElem?_eq_some_iff.1 hd).1; rw [h.ok.len] at this; exact this
  have hb64 : bb < 18446744073709551616 := by rw [hb]; exact u64_lt _
  obtain ⟨_, _, _, _, c20, c21, c22, _, _, _, _, _, c28, _⟩ := h.cells
  rw [hop] at c20
  rw [hD] at c21
  have u1 := wrap_u64 x.i.imm
  rw [← hb] at u1
  have cD := h.reg hd
  have i0 : (0 : Int) ≤ (D : Int) := by omega
  have i1 : (D : Int) < 16 := by omega
  have H := Lib.hid h
  have HD := Lib.hid hd
  have HDD := Lib.hid hD
  have HOP := Lib.hid hop
  have HLT := Lib.hid (And.intro hd64 hb64)
  have HDL := Lib.hid hDl
  clear h hop hD hd hb hd64 hb64 hDl
  go_enter Tryz.func38, Tryz.ntmps38
  go_wp2_with fail
  refine (values16 w).mono ?_
  rintro e w1 ⟨rfl, rfl⟩
  go_wp2_with fail
  refine (hasS16 w).mono ?_
  rintro e w1 ⟨rfl, rfl⟩
  go_wp2
  have H2 := H
  have HB0 := Lib.hid (Below.refl base w)
  clear H c22 c28
  obtain ⟨w0, rfl⟩ : ∃ w0 : World, w0 = w := ⟨_, rfl⟩
  (refine wp_region_lines (fun w_ => w_.cell? ⟨b, 21, none⟩ = some (.int .i64 D) ∧ w_.cell? ⟨b, D, none⟩ = some (.int .u64 d)) (by kernel_rfl) (by kernel_rfl) ⟨c21, cD⟩ ?_)
  (try simp only [])
  repeat (first | (refine runL_no (by rfl) ?_; (try simp only [Act.put, List.setIfInBounds_toArray, List.set_cons_zero, List.set_cons_succ])) | (refine runL_val (v := ?_) (by rfl) ?_ ?_; rotate_left; (focus (intro w_ hw_; obtain ⟨f1, f2⟩ := hw_; go_simp; (try with_reducible rfl); done)); (try simp only [Act.put, List.setIfInBounds_toArray, List.set_cons_zero, List.set_cons_succ])) | (refine runL_call (f := ?_) (args := ?_) (w1 := ?_) (by rfl) (by rfl) ?_ ?_; rotate_left 3; (focus (go_simp; refine ⟨⟨?_, ?_⟩, ?_⟩ <;> with_reducible rfl)); refine (val6 (H2.out.next ((Below.refl _ _).drew)) d bb HLT.out.1 HLT.out.2).mono ?_; rintro e w1 ⟨rfl, hb1, hr1⟩; have HR := Lib.hid hr1; have HB := Lib.hid (HB0.out.trans ((show Below base w0 w0.drew from (Below.refl _ _).drew).trans hb1)); have c21' : w1.cell? ⟨b, 21, none⟩ = some (.int .i64 D) := (hr1.cells.2.2.2.2.2.1).trans (by rw [HDD.out]); have cD' := hr1.reg (k := D) (r := d) HD.out; have c20' : w1.cell? ⟨b, 20, none⟩ = _ := hr1.cells.2.2.2.2.1; clear hb1 hr1; refine ⟨_, rfl, .inr ⟨c21', cD'⟩, ?_⟩; (try simp only [Act.put, List.setIfInBounds_toArray, List.set_cons_zero, List.set_cons_succ])))
  (refine runL_nil ?_)
  clear c21 cD c20
  have c20 := c20'
  have f0 := HR.out.frozen D
  rw [show (_ : Int) = 16 from HOP.out] at c20
  clear c20'
  go_wp2
  go_region
  go_wp2
  go_ret
  exact ⟨rfl, (HB.out.setCell HR.out.le _).drew, (HR.out.setReg HDL.out (and_lt HLT.out.1)).next ((Below.refl _ _).drew)⟩

theorem values20 (w : World) : Calls Tryz.prog 65 #[.int .i64 20] w fun e w' => e = .returned (.tuple #[.func (.func 100) #[] #[], .bool true]) ∧ w = w' := by
  go_enter Tryz.func65, Tryz.ntmps65
  go_wp2
  go_ret2
  exact ⟨rfl, rfl⟩
theorem hasS20 (w : World) : Calls Tryz.prog 66 #[.int .i64 20] w fun e w' => e = .returned (.bool true) ∧ w = w' := by
  go_enter Tryz.func66, Tryz.ntmps66
  go_wp2
  go_ret
  exact ⟨rfl, rfl⟩
set_option linter.unusedVariables false in
set_option maxRecDepth 100000 in
set_option maxHeartbeats 1600000 in
theorem over20 (h : Run w base b x evs) (hop : x.i.op = 20) (D : Nat) (hD : x.i.d = D) (d : Nat) (hd : x.st.regs[D]? = some d) (S : Nat) (hS : x.i.s = S) (bb : Nat) (hb : x.st.regs[S]? = some bb) :
    Calls Tryz.prog 38 #[.pointer (some ⟨b, 0, none⟩)] w fun e w' => e = .returned (.bool true) ∧ Below base w w' ∧ Run w' base b { x with st := { (({ x.st with cf := (addF d bb x.st.cf).2 }, (addF d bb x.st.cf).1)).1 with regs := (({ x.st with cf := (addF d bb x.st.cf).2 }, (addF d bb x.st.cf).1)).1.regs.set D (({ x.st with cf := (addF d bb x.st.cf).2 }, (addF d bb x.st.cf).1)).2 } } evs := by
  have hd64 : d < 18446744073709551616 := h.ok.regs _ (List.mem_of_getElem? hd)
  have hDl : D < 16 := by have := (List.getElem?_eq_some_iff.1 hd).1; rw [h.ok.len] at this; exact this
  have hb64 : bb < 18446744073709551616 := h.ok.regs _ (List.mem_of_getElem? hb)
  have hSl : S < 16 := by have := (List.getElem?_eq_some_iff.1 hb).1; rw [h.ok.len] at this; exact this
  obtain ⟨_, _, _, _, c20, c21, c22, _, _, _, _, _, c28, _⟩ := h.cells
  rw [hop] at c20
  rw [hD] at c21
  rw [hS] at c22
  have cS := h.reg hb
  have j0 : (0 : Int) ≤ (S : Int) := by omega
  have j1 : (S : Int) < 16 := by omega
  have cD := h.reg hd
  have i0 : (0 : Int) ≤ (D : Int) := by omega
  have i1 : (D : Int) < 16 := by omega
  have H := Lib.hid h
  have HD := Lib.hid hd
  have HDD := Lib.hid hD
  have HOP := Lib.hid hop
  have HLT := Lib.hid (And.intro hd64 hb64)
  have HDL := Lib.hid hDl
  clear h hop hD hd hb hd64 hb64 hDl hS
  go_enter Tryz.func38, Tryz.ntmps38
  go_wp2_with fail
  refine (values20 w).mono ?_
  rintro e w1 ⟨rfl, rfl⟩
  go_wp2_with fail
  refine (hasS20 w).mono ?_
  rintro e w1 ⟨rfl, rfl⟩
  go_wp2
  go_region
  have H2 := Lib.hid (H.out.next ((Below.refl _ _).drew))
  have e0 : Below base w w.drew := (Below.refl _ _).drew
  have HB0 := Lib.hid e0
  replace c20 : w.drew.cell? ⟨b, 20, none⟩ = _ := c20
  replace c21 : w.drew.cell? ⟨b, 21, none⟩ = _ := c21
  replace cD : w.drew.cell? ⟨b, D, none⟩ = _ := cD
  clear e0 cS c22 c28 H
  generalize w.drew = w0 at *
  go_wp2
  (refine wp_region_lines (fun w_ => w_.cell? ⟨b, 21, none⟩ = some (.int .i64 D) ∧ w_.cell? ⟨b, D, none⟩ = some (.int .u64 d)) (by kernel_rfl) (by kernel_rfl) ⟨c21, cD⟩ ?_)
  (try simp only [])
  repeat (first | (refine runL_no (by rfl) ?_; (try simp only [Act.put, List.setIfInBounds_toArray, List.set_cons_zero, List.set_cons_succ])) | (refine runL_val (v := ?_) (by rfl) ?_ ?_; rotate_left; (focus (intro w_ hw_; obtain ⟨f1, f2⟩ := hw_; go_simp; (try with_reducible rfl); done)); (try simp only [Act.put, List.setIfInBounds_toArray, List.set_cons_zero, List.set_cons_succ])) | (refine runL_call (f := ?_) (args := ?_) (w1 := ?_) (by rfl) (by rfl) ?_ ?_; rotate_left 3; (focus (go_simp; refine ⟨⟨?_, ?_⟩, ?_⟩ <;> with_reducible rfl)); refine (val13 (H2.out.next ((Below.refl _ _).drew)) d bb HLT.out.1 HLT.out.2).mono ?_; rintro e w1 ⟨rfl, hb1, hr1⟩; have HR := Lib.hid hr1; have HB := Lib.hid (HB0.out.trans ((show Below base w0 w0.drew from (Below.refl _ _).drew).trans hb1)); have c21' : w1.cell? ⟨b, 21, none⟩ = some (.int .i64 D) := (hr1.cells.2.2.2.2.2.1).trans (by rw [HDD.out]); have cD' := hr1.reg (k := D) (r := d) HD.out; have c20' : w1.cell? ⟨b, 20, none⟩ = _ := hr1.cells.2.2.2.2.1; clear hb1 hr1; refine ⟨_, rfl, .inr ⟨c21', cD'⟩, ?_⟩; (try simp only [Act.put, List.setIfInBounds_toArray, List.set_cons_zero, List.set_cons_succ])))
  (refine runL_nil ?_)
  clear c21 cD c20
  have c20 := c20'
  have f0 := HR.out.frozen D
  rw [show (_ : Int) = 20 from HOP.out] at c20
  clear c20'
  go_wp2
  go_region
  go_wp2
  go_ret
  exact ⟨rfl, (HB.out.setCell HR.out.le _).drew, (HR.out.setReg HDL.out (addF_lt _ _ _)).next ((Below.refl _ _).drew)⟩

theorem values23 (w : World) : Calls Tryz.prog 65 #[.int .i64 23] w fun e w' => e = .returned (.tuple #[.func (.func 96) #[] #[], .bool true]) ∧ w = w' := by
  go_enter Tryz.func65, Tryz.ntmps65
  go_wp2
  go_ret2
  exact ⟨rfl, rfl⟩
theorem hasS23 (w : World) : Calls Tryz.prog 66 #[.int .i64 23] w fun e w' => e = .returned (.bool false) ∧ w = w' := by
  go_enter Tryz.func66, Tryz.ntmps66
  go_wp2
  go_ret
  exact ⟨rfl, rfl⟩
set_option linter.unusedVariables false in
set_option maxRecDepth 100000 in
set_option maxHeartbeats 1600000 in
theorem over23 (h : Run w base b x evs) (hop : x.i.op = 23) (D : Nat) (hD : x.i.d = D) (d : Nat) (hd : x.st.regs[D]? = some d) (bb : Nat) (hb : bb = u64 x.i.imm) :
    Calls Tryz.prog 38 #[.pointer (some ⟨b, 0, none⟩)] w fun e w' => e = .returned (.bool true) ∧ Below base w w' ∧ Run w' base b { x with st := { ((x.st, 18446744073709551615 - d)).1 with regs := ((x.st, 18446744073709551615 - d)).1.regs.set D ((x.st, 18446744073709551615 - d)).2 } } evs := by
  have hd64 : d < 18446744073709551616 := h.ok.regs _ (List.mem_of_getElem? hd)
  have hDl : D < 16 := by have := (List.getElem?_eq_some_iff.1 hd).1; rw [h.ok.len] at this; exact this
  have hb64 : bb < 18446744073709551616 := by rw [hb]; exact u64_lt _
  obtain ⟨_, _, _, _, c20, c21, c22, _, _, _, _, _, c28, _⟩ := h.cells
  rw [hop] at c20
  rw [hD] at c21
  have u1 := wrap_u64 x.i.imm
  rw [← hb] at u1
  have cD := h.reg hd
  have i0 : (0 : Int) ≤ (D : Int) := by omega
  have i1 : (D : Int) < 16 := by omega
  have H := Lib.hid h
  have HD := Lib.hid hd
  have HDD := Lib.hid hD
  have HOP := Lib.hid hop
  have HLT := Lib.hid (And.intro hd64 hb64)
  have HDL := Lib.hid hDl
  clear h hop hD hd hb hd64 hb64 hDl
  go_enter Tryz.func38, Tryz.ntmps38
  go_wp2_with fail
  refine (values23 w).mono ?_
  rintro e w1 ⟨rfl, rfl⟩
  go_wp2_with fail
  refine (hasS23 w).mono ?_
  rintro e w1 ⟨rfl, rfl⟩
  go_wp2
  have H2 := H
  have HB0 := Lib.hid (Below.refl base w)
  clear H c22 c28
  obtain ⟨w0, rfl⟩ : ∃ w0 : World, w0 = w := ⟨_, rfl⟩
  (refine wp_region_lines (fun w_ => w_.cell? ⟨b, 21, none⟩ = some (.int .i64 D) ∧ w_.cell? ⟨b, D, none⟩ = some (.int .u64 d)) (by kernel_rfl) (by kernel_rfl) ⟨c21, cD⟩ ?_)
  (try simp only [])
  repeat (first | (refine runL_no (by rfl) ?_; (try simp only [Act.put, List.setIfInBounds_toArray, List.set_cons_zero, List.set_cons_succ])) | (refine runL_val (v := ?_) (by rfl) ?_ ?_; rotate_left; (focus (intro w_ hw_; obtain ⟨f1, f2⟩ := hw_; go_simp; (try with_reducible rfl); done)); (try simp only [Act.put, List.setIfInBounds_toArray, List.set_cons_zero, List.set_cons_succ])) | (refine runL_call (f := ?_) (args := ?_) (w1 := ?_) (by rfl) (by rfl) ?_ ?_; rotate_left 3; (focus (go_simp; refine ⟨⟨?_, ?_⟩, ?_⟩ <;> with_reducible rfl)); refine (val10 (H2.out.next ((Below.refl _ _).drew)) d bb HLT.out.1 HLT.out.2).mono ?_; rintro e w1 ⟨rfl, hb1, hr1⟩; have HR := Lib.hid hr1; have HB := Lib.hid (HB0.out.trans ((show Below base w0 w0.drew from (Below.refl _ _).drew).trans hb1)); have c21' : w1.cell? ⟨b, 21, none⟩ = some (.int .i64 D) := (hr1.cells.2.2.2.2.2.1).trans (by rw [HDD.out]); have cD' := hr1.reg (k := D) (r := d) HD.out; have c20' : w1.cell? ⟨b, 20, none⟩ = _ := hr1.cells.2.2.2.2.1; clear hb1 hr1; refine ⟨_, rfl, .inr ⟨c21', cD'⟩, ?_⟩; (try simp only [Act.put, List.setIfInBounds_toArray, List.set_cons_zero, List.set_cons_succ])))
  (refine runL_nil ?_)
  clear c21 cD c20
  have c20 := c20'
  have f0 := HR.out.frozen D
  rw [show (_ : Int) = 23 from HOP.out] at c20
  clear c20'
  go_wp2
  go_region
  go_wp2
  go_ret
  exact ⟨rfl, (HB.out.setCell HR.out.le _).drew, (HR.out.setReg HDL.out (by show 18446744073709551615 - d < _; omega)).next ((Below.refl _ _).drew)⟩

theorem values26 (w : World) : Calls Tryz.prog 65 #[.int .i64 26] w fun e w' => e = .returned (.tuple #[.func (.func 103) #[] #[], .bool true]) ∧ w = w' := by
  go_enter Tryz.func65, Tryz.ntmps65
  go_wp2
  go_ret2
  exact ⟨rfl, rfl⟩
theorem hasS26 (w : World) : Calls Tryz.prog 66 #[.int .i64 26] w fun e w' => e = .returned (.bool true) ∧ w = w' := by
  go_enter Tryz.func66, Tryz.ntmps66
  go_wp2
  go_ret
  exact ⟨rfl, rfl⟩
set_option linter.unusedVariables false in
set_option maxRecDepth 100000 in
set_option maxHeartbeats 1600000 in
theorem over26 (h : Run w base b x evs) (hop : x.i.op = 26) (D : Nat) (hD : x.i.d = D) (d : Nat) (hd : x.st.regs[D]? = some d) (S : Nat) (hS : x.i.s = S) (bb : Nat) (hb : x.st.regs[S]? = some bb) (q : Nat) (hq : q = if x.st.cf then bb else d) :
    Calls Tryz.prog 38 #[.pointer (some ⟨b, 0, none⟩)] w fun e w' => e = .returned (.bool true) ∧ Below base w w' ∧ Run w' base b { x with st := { ((x.st, q)).1 with regs := ((x.st, q)).1.regs.set D ((x.st, q)).2 } } evs := by
  have hd64 : d < 18446744073709551616 := h.ok.regs _ (List.mem_of_getElem? hd)
  have hDl : D < 16 := by have := (List.getElem?_eq_some_iff.1 hd).1; rw [h.ok.len] at this; exact this
  have hb64 : bb < 18446744073709551616 := h.ok.regs _ (List.mem_of_getElem? hb)
  have hSl : S < 16 := by have := (List.getElem?_eq_some_iff.1 hb).1; rw [h.ok.len] at this; exact this
  obtain ⟨_, _, _, _, c20, c21, c22, _, _, _, _, _, c28, _⟩ := h.cells
  rw [hop] at c20
  rw [hD] at c21
  rw [hS] at c22
  have cS := h.reg hb
  have j0 : (0 : Int) ≤ (S : Int) := by omega
  have j1 : (S : Int) < 16 := by omega
  have cD := h.reg hd
  have i0 : (0 : Int) ≤ (D : Int) := by omega
  have i1 : (D : Int) < 16 := by omega
  have H := Lib.hid h
  have HQ := Lib.hid hq
  clear hq
  have HD := Lib.hid hd
  have HDD := Lib.hid hD
  have HOP := Lib.hid hop
  have HLT := Lib.hid (And.intro hd64 hb64)
  have HDL := Lib.hid hDl
  clear h hop hD hd hb hd64 hb64 hDl hS
  go_enter Tryz.func38, Tryz.ntmps38
  go_wp2_with fail
  refine (values26 w).mono ?_
  rintro e w1 ⟨rfl, rfl⟩
  go_wp2_with fail
  refine (hasS26 w).mono ?_
  rintro e w1 ⟨rfl, rfl⟩
  go_wp2
  go_region
  have H2 := Lib.hid (H.out.next ((Below.refl _ _).drew))
  have e0 : Below base w w.drew := (Below.refl _ _).drew
  have HB0 := Lib.hid e0
  replace c20 : w.drew.cell? ⟨b, 20, none⟩ = _ := c20
  replace c21 : w.drew.cell? ⟨b, 21, none⟩ = _ := c21
  replace cD : w.drew.cell? ⟨b, D, none⟩ = _ := cD
  clear e0 cS c22 c28 H
  generalize w.drew = w0 at *
  go_wp2
  (refine wp_region_lines (fun w_ => w_.cell? ⟨b, 21, none⟩ = some (.int .i64 D) ∧ w_.cell? ⟨b, D, none⟩ = some (.int .u64 d)) (by kernel_rfl) (by kernel_rfl) ⟨c21, cD⟩ ?_)
  (try simp only [])
  repeat (first | (refine runL_no (by rfl) ?_; (try simp only [Act.put, List.setIfInBounds_toArray, List.set_cons_zero, List.set_cons_succ])) | (refine runL_val (v := ?_) (by rfl) ?_ ?_; rotate_left; (focus (intro w_ hw_; obtain ⟨f1, f2⟩ := hw_; go_simp; (try with_reducible rfl); done)); (try simp only [Act.put, List.setIfInBounds_toArray, List.set_cons_zero, List.set_cons_succ])) | (refine runL_call (f := ?_) (args := ?_) (w1 := ?_) (by rfl) (by rfl) ?_ ?_; rotate_left 3; (focus (go_simp; refine ⟨⟨?_, ?_⟩, ?_⟩ <;> with_reducible rfl)); refine (val15q (H2.out.next ((Below.refl _ _).drew)) d bb HLT.out.1 HLT.out.2 q HQ.out).mono ?_; rintro e w1 ⟨rfl, hb1, hr1⟩; have HR := Lib.hid hr1; have HB := Lib.hid (HB0.out.trans ((show Below base w0 w0.drew from (Below.refl _ _).drew).trans hb1)); have c21' : w1.cell? ⟨b, 21, none⟩ = some (.int .i64 D) := (hr1.cells.2.2.2.2.2.1).trans (by rw [HDD.out]); have cD' := hr1.reg (k := D) (r := d) HD.out; have c20' : w1.cell? ⟨b, 20, none⟩ = _ := hr1.cells.2.2.2.2.1; clear hb1 hr1; refine ⟨_, rfl, .inr ⟨c21', cD'⟩, ?_⟩; (try simp only [Act.put, List.setIfInBounds_toArray, List.set_cons_zero, List.set_cons_succ])))
  (refine runL_nil ?_)
  clear c21 cD c20
  have c20 := c20'
  have f0 := HR.out.frozen D
  rw [show (_ : Int) = 26 from HOP.out] at c20
  clear c20'
  go_wp2
  go_region
  go_wp2
  go_ret
  exact ⟨rfl, (HB.out.setCell HR.out.le _).drew, (HR.out.setReg HDL.out (by show q < _; rw [HQ.out]; exact ite_lt HLT.out.2 HLT.out.1)).next ((Below.refl _ _).drew)⟩

end Go.Proofs.YtmanhikpccnfaaaGreat
