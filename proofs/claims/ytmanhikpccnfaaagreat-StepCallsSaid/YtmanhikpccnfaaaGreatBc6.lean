/- The stepper's over, part 2. -/
import Derived.Test.YtmanhikpccnfaaaGreatBc4
import Derived.Laws.Rows
import Derived.Deep.RegionWith
import Derived.Test.YtmanhikpccnfaaaGreatBc1
import Derived.Deep.WholeRow
import Derived.Deep.DeepCutAuto
import Derived.Outline
namespace Go.Proofs.YtmanhikpccnfaaaGreat
open Go.RowKit

variable {w : World} {base b : Nat} {x : Stp} {evs : List Ev}

theorem values6 (w : World) : Calls Tryz.prog 65 #[.int .i64 6] w fun e w' => e = .returned (.tuple #[.func (.func 85) #[] #[], .bool true]) ∧ w = w' := by
  go_enter Tryz.func65, Tryz.ntmps65
  go_wp2
  go_ret2
  exact ⟨rfl, rfl⟩
theorem hasS6 (w : World) : Calls Tryz.prog 66 #[.int .i64 6] w fun e w' => e = .returned (.bool true) ∧ w = w' := by
  go_enter Tryz.func66, Tryz.ntmps66
  go_wp2
  go_ret
  exact ⟨rfl, rfl⟩
set_option linter.unusedVariables false in
set_option maxRecDepth 100000 in
set_option maxHeartbeats 1600000 in
theorem over6 (h : Run w base b x evs) (hop : x.i.op = 6) (D : Nat) (hD : x.i.d = D) (d : Nat) (hd : x.st.regs[D]? = some d) (S : Nat) (hS : x.i.s = S) (bb : Nat) (hb : x.st.regs[S]? = some bb) :
    Calls Tryz.prog 38 #[.pointer (some ⟨b, 0, none⟩)] w fun e w' => e = .returned (.bool true) ∧ Below base w w' ∧ Run w' base b { x with st := { (valueF.sumS x.st d bb false).1 with regs := (valueF.sumS x.st d bb false).1.regs.set D (valueF.sumS x.st d bb false).2 } } evs := by
  have hd64 : d < 18446744073709551616 := h.ok.regs _ (List.mem_of_getElem? hd)
  have hDl : D < 16 := by have := (List.getElem?_eq_some_iff.1 hd).1; rw [h.ok.len] at this; exact this
  have hb64 : bb < 18446744073709551616 := h.ok.regs _ (List.mem_of_getElem? hb)
  have hSl : S < 16 := by have := (List.getElem?_eq_some_iff.1 hb).1; rw [h.ok.len] at this; exact this
  obtain ⟨_, _, _, _, c20, c21, c22, _, _, _, _, _, c28, _⟩ := h.cells
  rw [hop] at c20
  rw [hD] at c21
  rw [hS] at c22
  have cS := h.reg hb
  have j0 : (0 : Int) ≤ (S : Int) := by omega
  have j1 : (S : Int) < 16 := by omega
  have cD := h.reg hd
  have i0 : (0 : Int) ≤ (D : Int) := by omega
  have i1 : (D : Int) < 16 := by omega
  have H := Lib.hid h
  have HD := Lib.hid hd
  have HDD := Lib.hid hD
  have HOP := Lib.hid hop
  have HLT := Lib.hid (And.intro hd64 hb64)
  have HDL := Lib.hid hDl
  clear h hop hD hd hb hd64 hb64 hDl hS
  go_enter Tryz.func38, Tryz.ntmps38
  go_wp2_with fail
  refine (values6 w).mono ?_
  rintro e w1 ⟨rfl, rfl⟩
  go_wp2_with fail
  refine (hasS6 w).mono ?_
  rintro e w1 ⟨rfl, rfl⟩
  go_wp2
  go_region
  have H2 := Lib.hid (H.out.next ((Below.refl _ _).drew))
  have e0 : Below base w w.drew := (Below.refl _ _).drew
  have HB0 := Lib.hid e0
  replace c20 : w.drew.cell? ⟨b, 20, none⟩ = _ := c20
  replace c21 : w.drew.cell? ⟨b, 21, none⟩ = _ := c21
  replace cD : w.drew.cell? ⟨b, D, none⟩ = _ := cD
  clear e0 cS c22 c28 H
  generalize w.drew = w0 at *
  go_wp2
  (refine wp_region_lines (fun w_ => w_.cell? ⟨b, 21, none⟩ = some (.int .i64 D) ∧ w_.cell? ⟨b, D, none⟩ = some (.int .u64 d)) (by kernel_rfl) (by kernel_rfl) ⟨c21, cD⟩ ?_)
  (try simp only [])
  repeat (first | (refine runL_no (by rfl) ?_; (try simp only [Act.put, List.setIfInBounds_toArray, List.set_cons_zero, List.set_cons_succ])) | (refine runL_val (v := ?_) (by rfl) ?_ ?_; rotate_left; (focus (intro w_ hw_; obtain ⟨f1, f2⟩ := hw_; go_simp; (try with_reducible rfl); done)); (try simp only [Act.put, List.setIfInBounds_toArray, List.set_cons_zero, List.set_cons_succ])) | (refine runL_call (f := ?_) (args := ?_) (w1 := ?_) (by rfl) (by rfl) ?_ ?_; rotate_left 3; (focus (go_simp; refine ⟨⟨?_, ?_⟩, ?_⟩ <;> with_reducible rfl)); refine (val2 (H2.out.next ((Below.refl _ _).drew)) d bb HLT.out.1 HLT.out.2).mono ?_; rintro e w1 ⟨rfl, hb1, hr1⟩; have HR := Lib.hid hr1; have HB := Lib.hid (HB0.out.trans ((show Below base w0 w0.drew from (Below.refl _ _).drew).trans hb1)); have c21' : w1.cell? ⟨b, 21, none⟩ = some (.int .i64 D) := (hr1.cells.2.2.2.2.2.1).trans (by rw [HDD.out]); have cD' := hr1.reg (k := D) (r := d) HD.out; have c20' : w1.cell? ⟨b, 20, none⟩ = _ := hr1.cells.2.2.2.2.1; clear hb1 hr1; refine ⟨_, rfl, .inr ⟨c21', cD'⟩, ?_⟩; (try simp only [Act.put, List.setIfInBounds_toArray, List.set_cons_zero, List.set_cons_succ])))
  (refine runL_nil ?_)
  clear c21 cD c20
  have c20 := c20'
  have f0 := HR.out.frozen D
  rw [show (_ : Int) = 6 from HOP.out] at c20
  clear c20'
  go_wp2
  go_region
  go_wp2
  go_ret
  exact ⟨rfl, (HB.out.setCell HR.out.le _).drew, (HR.out.setReg HDL.out (addF_lt _ _ _)).next ((Below.refl _ _).drew)⟩

theorem values9 (w : World) : Calls Tryz.prog 65 #[.int .i64 9] w fun e w' => e = .returned (.tuple #[.func (.func 90) #[] #[], .bool true]) ∧ w = w' := by
  go_enter Tryz.func65, Tryz.ntmps65
  go_wp2
  go_ret2
  exact ⟨rfl, rfl⟩
theorem hasS9 (w : World) : Calls Tryz.prog 66 #[.int .i64 9] w fun e w' => e = .returned (.bool true) ∧ w = w' := by
  go_enter Tryz.func66, Tryz.ntmps66
  go_wp2
  go_ret
  exact ⟨rfl, rfl⟩
set_option linter.unusedVariables false in
set_option maxRecDepth 100000 in
set_option maxHeartbeats 1600000 in
theorem over9 (h : Run w base b x evs) (hop : x.i.op = 9) (D : Nat) (hD : x.i.d = D) (d : Nat) (hd : x.st.regs[D]? = some d) (S : Nat) (hS : x.i.s = S) (bb : Nat) (hb : x.st.regs[S]? = some bb) :
    Calls Tryz.prog 38 #[.pointer (some ⟨b, 0, none⟩)] w fun e w' => e = .returned (.bool true) ∧ Below base w w' ∧ Run w' base b { x with st := { (valueF.restS x.st d bb x.st.cf).1 with regs := (valueF.restS x.st d bb x.st.cf).1.regs.set D (valueF.restS x.st d bb x.st.cf).2 } } evs := by
  have hd64 : d < 18446744073709551616 := h.ok.regs _ (List.mem_of_getElem? hd)
  have hDl : D < 16 := by have := (List.getElem?_eq_some_iff.1 hd).1; rw [h.ok.len] at this; exact this
  have hb64 : bb < 18446744073709551616 := h.ok.regs _ (List.mem_of_getElem? hb)
  have hSl : S < 16 := by have := (List.getElem?_eq_some_iff.1 hb).1; rw [h.ok.len] at this; exact this
  obtain ⟨_, _, _, _, c20, c21, c22, _, _, _, _, _, c28, _⟩ := h.cells
  rw [hop] at c20
  rw [hD] at c21
  rw [hS] at c22
  have cS := h.reg hb
  have j0 : (0 : Int) ≤ (S : Int) := by omega
  have j1 : (S : Int) < 16 := by omega
  have cD := h.reg hd
  have i0 : (0 : Int) ≤ (D : Int) := by omega
  have i1 : (D : Int) < 16 := by omega
  have H := Lib.hid h
  have HD := Lib.hid hd
  have HDD := Lib.hid hD
  have HOP := Lib.hid hop
  have HLT := Lib.hid (And.intro hd64 hb64)
  have HDL := Lib.hid hDl
  clear h hop hD hd hb hd64 hb64 hDl hS
  go_enter Tryz.func38, Tryz.ntmps38
  go_wp2_with fail
  refine (values9 w).mono ?_
  rintro e w1 ⟨rfl, rfl⟩
  go_wp2_with fail
  refine (hasS9 w).mono ?_
  rintro e w1 ⟨rfl, rfl⟩
  go_wp2
  go_region
  have H2 := Lib.hid (H.out.next ((Below.refl _ _).drew))
  have e0 : Below base w w.drew := (Below.refl _ _).drew
  have HB0 := Lib.hid e0
  replace c20 : w.drew.cell? ⟨b, 20, none⟩ = _ := c20
  replace c21 : w.drew.cell? ⟨b, 21, none⟩ = _ := c21
  replace cD : w.drew.cell? ⟨b, D, none⟩ = _ := cD
  clear e0 cS c22 c28 H
  generalize w.drew = w0 at *
  go_wp2
  (refine wp_region_lines (fun w_ => w_.cell? ⟨b, 21, none⟩ = some (.int .i64 D) ∧ w_.cell? ⟨b, D, none⟩ = some (.int .u64 d)) (by kernel_rfl) (by kernel_rfl) ⟨c21, cD⟩ ?_)
  (try simp only [])
  repeat (first | (refine runL_no (by rfl) ?_; (try simp only [Act.put, List.setIfInBounds_toArray, List.set_cons_zero, List.set_cons_succ])) | (refine runL_val (v := ?_) (by rfl) ?_ ?_; rotate_left; (focus (intro w_ hw_; obtain ⟨f1, f2⟩ := hw_; go_simp; (try with_reducible rfl); done)); (try simp only [Act.put, List.setIfInBounds_toArray, List.set_cons_zero, List.set_cons_succ])) | (refine runL_call (f := ?_) (args := ?_) (w1 := ?_) (by rfl) (by rfl) ?_ ?_; rotate_left 3; (focus (go_simp; refine ⟨⟨?_, ?_⟩, ?_⟩ <;> with_reducible rfl)); refine (val5 (H2.out.next ((Below.refl _ _).drew)) d bb HLT.out.1 HLT.out.2).mono ?_; rintro e w1 ⟨rfl, hb1, hr1⟩; have HR := Lib.hid hr1; have HB := Lib.hid (HB0.out.trans ((show Below base w0 w0.drew from (Below.refl _ _).drew).trans hb1)); have c21' : w1.cell? ⟨b, 21, none⟩ = some (.int .i64 D) := (hr1.cells.2.2.2.2.2.1).trans (by rw [HDD.out]); have cD' := hr1.reg (k := D) (r := d) HD.out; have c20' : w1.cell? ⟨b, 20, none⟩ = _ := hr1.cells.2.2.2.2.1; clear hb1 hr1; refine ⟨_, rfl, .inr ⟨c21', cD'⟩, ?_⟩; (try simp only [Act.put, List.setIfInBounds_toArray, List.set_cons_zero, List.set_cons_succ])))
  (refine runL_nil ?_)
  clear c21 cD c20
  have c20 := c20'
  have f0 := HR.out.frozen D
  rw [show (_ : Int) = 9 from HOP.out] at c20
  clear c20'
  go_wp2
  go_region
  go_wp2
  go_ret
  exact ⟨rfl, (HB.out.setCell HR.out.le _).drew, (HR.out.setReg HDL.out (subF_lt _ _ _)).next ((Below.refl _ _).drew)⟩

theorem values12 (w : World) : Calls Tryz.prog 65 #[.int .i64 12] w fun e w' => e = .returned (.tuple #[.func (.func 94) #[] #[], .bool true]) ∧ w = w' := by
  go_enter Tryz.func65, Tryz.ntmps65
  go_wp2
  go_ret2
  exact ⟨rfl, rfl⟩
theorem hasS12 (w : World) : Calls Tryz.prog 66 #[.int .i64 12] w fun e w' => e = .returned (.bool true) ∧ w = w' := by
  go_enter Tryz.func66, Tryz.ntmps66
  go_wp2
  go_ret
  exact ⟨rfl, rfl⟩
set_option linter.unusedVariables false in
set_option maxRecDepth 100000 in
set_option maxHeartbeats 1600000 in
theorem over12 (h : Run w base b x evs) (hop : x.i.op = 12) (D : Nat) (hD : x.i.d = D) (d : Nat) (hd : x.st.regs[D]? = some d) (S : Nat) (hS : x.i.s = S) (bb : Nat) (hb : x.st.regs[S]? = some bb) :
    Calls Tryz.prog 38 #[.pointer (some ⟨b, 0, none⟩)] w fun e w' => e = .returned (.bool true) ∧ Below base w w' ∧ Run w' base b { x with st := { (valueF.plainS x.st (d ^^^ bb)).1 with regs := (valueF.plainS x.st (d ^^^ bb)).1.regs.set D (valueF.plainS x.st (d ^^^ bb)).2 } } evs := by
  have hd64 : d < 18446744073709551616 := h.ok.regs _ (List.mem_of_getElem? hd)
  have hDl : D < 16 := by have := (List.getElem?_eq_some_iff.1 hd).1; rw [h.ok.len] at this; exact this
  have hb64 : bb < 18446744073709551616 := h.ok.regs _ (List.mem_of_getElem? hb)
  have hSl : S < 16 := by have := (List.getElem?_eq_some_iff.1 hb).1; rw [h.ok.len] at this; exact this
  obtain ⟨_, _, _, _, c20, c21, c22, _, _, _, _, _, c28, _⟩ := h.cells
  rw [hop] at c20
  rw [hD] at c21
  rw [hS] at c22
  have cS := h.reg hb
  have j0 : (0 : Int) ≤ (S : Int) := by omega
  have j1 : (S : Int) < 16 := by omega
  have cD := h.reg hd
  have i0 : (0 : Int) ≤ (D : Int) := by omega
  have i1 : (D : Int) < 16 := by omega
  have H := Lib.hid h
  have HD := Lib.hid hd
  have HDD := Lib.hid hD
  have HOP := Lib.hid hop
  have HLT := Lib.hid (And.intro hd64 hb64)
  have HDL := Lib.hid hDl
  clear h hop hD hd hb hd64 hb64 hDl hS
  go_enter Tryz.func38, Tryz.ntmps38
  go_wp2_with fail
  refine (values12 w).mono ?_
  rintro e w1 ⟨rfl, rfl⟩
  go_wp2_with fail
  refine (hasS12 w).mono ?_
  rintro e w1 ⟨rfl, rfl⟩
  go_wp2
  go_region
  have H2 := Lib.hid (H.out.next ((Below.refl _ _).drew))
  have e0 : Below base w w.drew := (Below.refl _ _).drew
  have HB0 := Lib.hid e0
  replace c20 : w.drew.cell? ⟨b, 20, none⟩ = _ := c20
  replace c21 : w.drew.cell? ⟨b, 21, none⟩ = _ := c21
  replace cD : w.drew.cell? ⟨b, D, none⟩ = _ := cD
  clear e0 cS c22 c28 H
  generalize w.drew = w0 at *
  go_wp2
  (refine wp_region_lines (fun w_ => w_.cell? ⟨b, 21, none⟩ = some (.int .i64 D) ∧ w_.cell? ⟨b, D, none⟩ = some (.int .u64 d)) (by kernel_rfl) (by kernel_rfl) ⟨c21, cD⟩ ?_)
  (try simp only [])
  repeat (first | (refine runL_no (by rfl) ?_; (try simp only [Act.put, List.setIfInBounds_toArray, List.set_cons_zero, List.set_cons_succ])) | (refine runL_val (v := ?_) (by rfl) ?_ ?_; rotate_left; (focus (intro w_ hw_; obtain ⟨f1, f2⟩ := hw_; go_simp; (try with_reducible rfl); done)); (try simp only [Act.put, List.setIfInBounds_toArray, List.set_cons_zero, List.set_cons_succ])) | (refine runL_call (f := ?_) (args := ?_) (w1 := ?_) (by rfl) (by rfl) ?_ ?_; rotate_left 3; (focus (go_simp; refine ⟨⟨?_, ?_⟩, ?_⟩ <;> with_reducible rfl)); refine (val8 (H2.out.next ((Below.refl _ _).drew)) d bb HLT.out.1 HLT.out.2).mono ?_; rintro e w1 ⟨rfl, hb1, hr1⟩; have HR := Lib.hid hr1; have HB := Lib.hid (HB0.out.trans ((show Below base w0 w0.drew from (Below.refl _ _).drew).trans hb1)); have c21' : w1.cell? ⟨b, 21, none⟩ = some (.int .i64 D) := (hr1.cells.2.2.2.2.2.1).trans (by rw [HDD.out]); have cD' := hr1.reg (k := D) (r := d) HD.out; have c20' : w1.cell? ⟨b, 20, none⟩ = _ := hr1.cells.2.2.2.2.1; clear hb1 hr1; refine ⟨_, rfl, .inr ⟨c21', cD'⟩, ?_⟩; (try simp only [Act.put, List.setIfInBounds_toArray, List.set_cons_zero, List.set_cons_succ])))
  (refine runL_nil ?_)
  clear c21 cD c20
  have c20 := c20'
  have f0 := HR.out.frozen D
  rw [show (_ : Int) = 12 from HOP.out] at c20
  clear c20'
  go_wp2
  go_region
  go_wp2
  go_ret
  exact ⟨rfl, (HB.out.setCell HR.out.le _).drew, (HR.out.setReg HDL.out (xor_lt HLT.out.1 HLT.out.2)).next ((Below.refl _ _).drew)⟩

theorem values15 (w : World) : Calls Tryz.prog 65 #[.int .i64 15] w fun e w' => e = .returned (.tuple #[.func (.func 85) #[] #[], .bool true]) ∧ w = w' := by
  go_enter Tryz.func65, Tryz.ntmps65
  go_wp2
  go_ret2
  exact ⟨rfl, rfl⟩
theorem hasS15 (w : World) : Calls Tryz.prog 66 #[.int .i64 15] w fun e w' => e = .returned (.bool false) ∧ w = w' := by
  go_enter Tryz.func66, Tryz.ntmps66
  go_wp2
  go_ret
  exact ⟨rfl, rfl⟩
set_option linter.unusedVariables false in
set_option maxRecDepth 100000 in
set_option maxHeartbeats 1600000 in
theorem over15 (h : Run w base b x evs) (hop : x.i.op = 15) (D : Nat) (hD : x.i.d = D) (d : Nat) (hd : x.st.regs[D]? = some d) (bb : Nat) (hb : bb = u64 x.i.imm) :
    Calls Tryz.prog 38 #[.pointer (some ⟨b, 0, none⟩)] w fun e w' => e = .returned (.bool true) ∧ Below base w w' ∧ Run w' base b { x with st := { (valueF.sumS x.st d bb false).1 with regs := (valueF.sumS x.st d bb false).1.regs.set D (valueF.sumS x.st d bb false).2 } } evs := by
  have hd64 : d < 18446744073709551616 := h.ok.regs _ (List.mem_of_getElem? hd)
  have hDl : D < 16 := by have := (List.getElem?_eq_some_iff.1 hd).1; rw [h.ok.len] at this; exact this
  have hb64 : bb < 18446744073709551616 := by rw [hb]; exact u64_lt _
  obtain ⟨_, _, _, _, c20, c21, c22, _, _, _, _, _, c28, _⟩ := h.cells
  rw [hop] at c20
  rw [hD] at c21
  have u1 := wrap_u64 x.i.imm
  rw [← hb] at u1
  have cD := h.reg hd
  have i0 : (0 : Int) ≤ (D : Int) := by omega
  have i1 : (D : Int) < 16 := by omega
  have H := Lib.hid h
  have HD := Lib.hid hd
  have HDD := Lib.hid hD
  have HOP := Lib.hid hop
  have HLT := Lib.hid (And.intro hd64 hb64)
  have HDL := Lib.hid hDl
  clear h hop hD hd hb hd64 hb64 hDl
  go_enter Tryz.func38, Tryz.ntmps38
  go_wp2_with fail
  refine (values15 w).mono ?_
  rintro e w1 ⟨rfl, rfl⟩
  go_wp2_with fail
  refine (hasS15 w).mono ?_
  rintro e w1 ⟨rfl, rfl⟩
  go_wp2
  have H2 := H
  have HB0 := Lib.hid (Below.refl base w)
  clear H c22 c28
  obtain ⟨w0, rfl⟩ : ∃ w0 : World, w0 = w := ⟨_, rfl⟩
  (refine wp_region_lines (fun w_ => w_.cell? ⟨b, 21, none⟩ = some (.int .i64 D) ∧ w_.cell? ⟨b, D, none⟩ = some (.int .u64 d)) (by kernel_rfl) (by kernel_rfl) ⟨c21, cD⟩ ?_)
  (try simp only [])
  repeat (first | (refine runL_no (by rfl) ?_; (try simp only [Act.put, List.setIfInBounds_toArray, List.set_cons_zero, List.set_cons_succ])) | (refine runL_val (v := ?_) (by rfl) ?_ ?_; rotate_left; (focus (intro w_ hw_; obtain ⟨f1, f2⟩ := hw_; go_simp; (try with_reducible rfl); done)); (try simp only [Act.put, List.setIfInBounds_toArray, List.set_cons_zero, List.set_cons_succ])) | (refine runL_call (f := ?_) (args := ?_) (w1 := ?_) (by rfl) (by rfl) ?_ ?_; rotate_left 3; (focus (go_simp; refine ⟨⟨?_, ?_⟩, ?_⟩ <;> with_reducible rfl)); refine (val2 (H2.out.next ((Below.refl _ _).drew)) d bb HLT.out.1 HLT.out.2).mono ?_; rintro e w1 ⟨rfl, hb1, hr1⟩; have HR := Lib.hid hr1; have HB := Lib.hid (HB0.out.trans ((show Below base w0 w0.drew from (Below.refl _ _).drew).trans hb1)); have c21' : w1.cell? ⟨b, 21, none⟩ = some (.int .i64 D) := (hr1.cells.2.2.2.2.2.1).trans (by rw [HDD.out]); have cD' := hr1.reg (k := D) (r := d) HD.out; have c20' : w1.cell? ⟨b, 20, none⟩ = _ := hr1.cells.2.2.2.2.1; clear hb1 hr1; refine ⟨_, rfl, .inr ⟨c21', cD'⟩, ?_⟩; (try simp only [Act.put, List.setIfInBounds_toArray, List.set_cons_zero, List.set_cons_succ])))
  (refine runL_nil ?_)
  clear c21 cD c20
  have c20 := c20'
  have f0 := HR.out.frozen D
  rw [show (_ : Int) = 15 from HOP.out] at c20
  clear c20'
  go_wp2
  go_region
  go_wp2
  go_ret
  exact ⟨rfl, (HB.out.setCell HR.out.le _).drew, (HR.out.setReg HDL.out (addF_lt _ _ _)).next ((Below.refl _ _).drew)⟩

theorem values18 (w : World) : Calls Tryz.prog 65 #[.int .i64 18] w fun e w' => e = .returned (.tuple #[.func (.func 88) #[] #[], .bool true]) ∧ w = w' := by
  go_enter Tryz.func65, Tryz.ntmps65
  go_wp2
  go_ret2
  exact ⟨rfl, rfl⟩
theorem hasS18 (w : World) : Calls Tryz.prog 66 #[.int .i64 18] w fun e w' => e = .returned (.bool false) ∧ w = w' := by
  go_enter Tryz.func66, Tryz.ntmps66
  go_wp2
  go_ret
  exact ⟨rfl, rfl⟩
set_option linter.unusedVariables false in
set_option maxRecDepth 100000 in
set_option maxHeartbeats 1600000 in
theorem over18 (h : Run w base b x evs) (hop : x.i.op = 18) (D : Nat) (hD : x.i.d = D) (d : Nat) (hd : x.st.regs[D]? = some d) (bb : Nat) (hb : bb = u64 x.i.imm) :
    Calls Tryz.prog 38 #[.pointer (some ⟨b, 0, none⟩)] w fun e w' => e = .returned (.bool true) ∧ Below base w w' ∧ Run w' base b { x with st := (valueF.restS x.st d bb false).1 } evs := by
  have hd64 : d < 18446744073709551616 := h.ok.regs _ (List.mem_of_getElem? hd)
  have hDl : D < 16 := by have := (List.getElem?_eq_some_iff.1 hd).1; rw [h.ok.len] at this; exact this
  have hb64 : bb < 18446744073709551616 := by rw [hb]; exact u64_lt _
  obtain ⟨_, _, _, _, c20, c21, c22, _, _, _, _, _, c28, _⟩ := h.cells
  rw [hop] at c20
  rw [hD] at c21
  have u1 := wrap_u64 x.i.imm
  rw [← hb] at u1
  have cD := h.reg hd
  have i0 : (0 : Int) ≤ (D : Int) := by omega
  have i1 : (D : Int) < 16 := by omega
  have H := Lib.hid h
  have HD := Lib.hid hd
  have HDD := Lib.hid hD
  have HOP := Lib.hid hop
  have HLT := Lib.hid (And.intro hd64 hb64)
  have HDL := Lib.hid hDl
  clear h hop hD hd hb hd64 hb64 hDl
  go_enter Tryz.func38, Tryz.ntmps38
  go_wp2_with fail
  refine (values18 w).mono ?_
  rintro e w1 ⟨rfl, rfl⟩
  go_wp2_with fail
  refine (hasS18 w).mono ?_
  rintro e w1 ⟨rfl, rfl⟩
  go_wp2
  have H2 := H
  have HB0 := Lib.hid (Below.refl base w)
  clear H c22 c28
  obtain ⟨w0, rfl⟩ : ∃ w0 : World, w0 = w := ⟨_, rfl⟩
  (refine wp_region_lines (fun w_ => w_.cell? ⟨b, 21, none⟩ = some (.int .i64 D) ∧ w_.cell? ⟨b, D, none⟩ = some (.int .u64 d)) (by kernel_rfl) (by kernel_rfl) ⟨c21, cD⟩ ?_)
  (try simp only [])
  repeat (first | (refine runL_no (by rfl) ?_; (try simp only [Act.put, List.setIfInBounds_toArray, List.set_cons_zero, List.set_cons_succ])) | (refine runL_val (v := ?_) (by rfl) ?_ ?_; rotate_left; (focus (intro w_ hw_; obtain ⟨f1, f2⟩ := hw_; go_simp; (try with_reducible rfl); done)); (try simp only [Act.put, List.setIfInBounds_toArray, List.set_cons_zero, List.set_cons_succ])) | (refine runL_call (f := ?_) (args := ?_) (w1 := ?_) (by rfl) (by rfl) ?_ ?_; rotate_left 3; (focus (go_simp; refine ⟨⟨?_, ?_⟩, ?_⟩ <;> with_reducible rfl)); refine (val4 (H2.out.next ((Below.refl _ _).drew)) d bb HLT.out.1 HLT.out.2).mono ?_; rintro e w1 ⟨rfl, hb1, hr1⟩; have HR := Lib.hid hr1; have HB := Lib.hid (HB0.out.trans ((show Below base w0 w0.drew from (Below.refl _ _).drew).trans hb1)); have c21' : w1.cell? ⟨b, 21, none⟩ = some (.int .i64 D) := (hr1.cells.2.2.2.2.2.1).trans (by rw [HDD.out]); have cD' := hr1.reg (k := D) (r := d) HD.out; have c20' : w1.cell? ⟨b, 20, none⟩ = _ := hr1.cells.2.2.2.2.1; clear hb1 hr1; refine ⟨_, rfl, .inr ⟨c21', cD'⟩, ?_⟩; (try simp only [Act.put, List.setIfInBounds_toArray, List.set_cons_zero, List.set_cons_succ])))
  (refine runL_nil ?_)
  clear c21 cD c20
  have c20 := c20'
  have f0 := HR.out.frozen D
  rw [show (_ : Int) = 18 from HOP.out] at c20
  clear c20'
  go_wp2
  go_ret
  exact ⟨rfl, HB.out, HR.out⟩

theorem values22 (w : World) : Calls Tryz.prog 65 #[.int .i64 22] w fun e w' => e = .returned (.tuple #[.func (.func 95) #[] #[], .bool true]) ∧ w = w' := by
  go_enter Tryz.func65, Tryz.ntmps65
  go_wp2
  go_ret2
  exact ⟨rfl, rfl⟩
theorem hasS22 (w : World) : Calls Tryz.prog 66 #[.int .i64 22] w fun e w' => e = .returned (.bool false) ∧ w = w' := by
  go_enter Tryz.func66, Tryz.ntmps66
  go_wp2
  go_ret
  exact ⟨rfl, rfl⟩
set_option linter.unusedVariables false in
set_option maxRecDepth 100000 in
set_option maxHeartbeats 1600000 in
theorem over22 (h : Run w base b x evs) (hop : x.i.op = 22) (D : Nat) (hD : x.i.d = D) (d : Nat) (hd : x.st.regs[D]? = some d) (bb : Nat) (hb : bb = u64 x.i.imm) :
    Calls Tryz.prog 38 #[.pointer (some ⟨b, 0, none⟩)] w fun e w' => e = .returned (.bool true) ∧ Below base w w' ∧ Run w' base b { x with st := { (valueF.restS x.st 0 d false).1 with regs := (valueF.restS x.st 0 d false).1.regs.set D (valueF.restS x.st 0 d false).2 } } evs := by
  have hd64 : d < 18446744073709551616 := h.ok.regs _ (List.mem_of_getElem? hd)
  have hDl : D < 16 := by have := (List.getElem?_eq_some_iff.1 hd).1; rw [h.ok.len] at this; exact this
  have hb64 : bb < 18446744073709551616 := by rw [hb]; exact u64_lt _
  obtain ⟨_, _, _, _, c20, c21, c22, _, _, _, _, _, c28, _⟩ := h.cells
  rw [hop] at c20
  rw [hD] at c21
  have u1 := wrap_u64 x.i.imm
  rw [← hb] at u1
  have cD := h.reg hd
  have i0 : (0 : Int) ≤ (D : Int) := by omega
  have i1 : (D : Int) < 16 := by omega
  have H := Lib.hid h
  have HD := Lib.hid hd
  have HDD := Lib.hid hD
  have HOP := Lib.hid hop
  have HLT := Lib.hid (And.intro hd64 hb64)
  have HDL := Lib.hid hDl
  clear h hop hD hd hb hd64 hb64 hDl
  go_enter Tryz.func38, Tryz.ntmps38
  go_wp2_with fail
  refine (values22 w).mono ?_
  rintro e w1 ⟨rfl, rfl⟩
  go_wp2_with fail
  refine (hasS22 w).mono ?_
  rintro e w1 ⟨rfl, rfl⟩
  go_wp2
  have H2 := H
  have HB0 := Lib.hid (Below.refl base w)
  clear H c22 c28
  obtain ⟨w0, rfl⟩ : ∃ w0 : World, w0 = w := ⟨_, rfl⟩
  (refine wp_region_lines (fun w_ => w_.cell? ⟨b, 21, none⟩ = some (.int .i64 D) ∧ w_.cell? ⟨b, D, none⟩ = some (.int .u64 d)) (by kernel_rfl) (by kernel_rfl) ⟨c21, cD⟩ ?_)
  (try simp only [])
  repeat (first | (refine runL_no (by rfl) ?_; (try simp only [Act.put, List.setIfInBounds_toArray, List.set_cons_zero, List.set_cons_succ])) | (refine runL_val (v := ?_) (by rfl) ?_ ?_; rotate_left; (focus (intro w_ hw_; obtain ⟨f1, f2⟩ := hw_; go_simp; (try with_reducible rfl); done)); (try simp only [Act.put, List.setIfInBounds_toArray, List.set_cons_zero, List.set_cons_succ])) | (refine runL_call (f := ?_) (args := ?_) (w1 := ?_) (by rfl) (by rfl) ?_ ?_; rotate_left 3; (focus (go_simp; refine ⟨⟨?_, ?_⟩, ?_⟩ <;> with_reducible rfl)); refine (val9 (H2.out.next ((Below.refl _ _).drew)) d bb HLT.out.1 HLT.out.2).mono ?_; rintro e w1 ⟨rfl, hb1, hr1⟩; have HR := Lib.hid hr1; have HB := Lib.hid (HB0.out.trans ((show Below base w0 w0.drew from (Below.refl _ _).drew).trans hb1)); have c21' : w1.cell? ⟨b, 21, none⟩ = some (.int .i64 D) := (hr1.cells.2.2.2.2.2.1).trans (by rw [HDD.out]); have cD' := hr1.reg (k := D) (r := d) HD.out; have c20' : w1.cell? ⟨b, 20, none⟩ = _ := hr1.cells.2.2.2.2.1; clear hb1 hr1; refine ⟨_, rfl, .inr ⟨c21', cD'⟩, ?_⟩; (try simp only [Act.put, List.setIfInBounds_toArray, List.set_cons_zero, List.set_cons_succ])))
  (refine runL_nil ?_)
  clear c21 cD c20
  have c20 := c20'
  have f0 := HR.out.frozen D
  rw [show (_ : Int) = 22 from HOP.out] at c20
  clear c20'
  go_wp2
  go_region
  go_wp2
  go_ret
  exact ⟨rfl, (HB.out.setCell HR.out.le _).drew, (HR.out.setReg HDL.out (subF_lt _ _ _)).next ((Below.refl _ _).drew)⟩

theorem values25 (w : World) : Calls Tryz.prog 65 #[.int .i64 25] w fun e w' => e = .returned (.tuple #[.func (.func 99) #[] #[], .bool true]) ∧ w = w' := by
  go_enter Tryz.func65, Tryz.ntmps65
  go_wp2
  go_ret2
  exact ⟨rfl, rfl⟩
theorem hasS25 (w : World) : Calls Tryz.prog 66 #[.int .i64 25] w fun e w' => e = .returned (.bool false) ∧ w = w' := by
  go_enter Tryz.func66, Tryz.ntmps66
  go_wp2
  go_ret
  exact ⟨rfl, rfl⟩
set_option linter.unusedVariables false in
set_option maxRecDepth 100000 in
set_option maxHeartbeats 1600000 in
theorem over25 (h : Run w base b x evs) (hop : x.i.op = 25) (D : Nat) (hD : x.i.d = D) (d : Nat) (hd : x.st.regs[D]? = some d) (bb : Nat) (hb : bb = u64 x.i.imm) (hb1 : 1 ≤ bb) (hb2 : bb ≤ 63) :
    Calls Tryz.prog 38 #[.pointer (some ⟨b, 0, none⟩)] w fun e w' => e = .returned (.bool true) ∧ Below base w w' ∧ Run w' base b { x with st := { (valueF.shiftS x.st (d / 2 ^ bb) (d / 2 ^ (bb - 1))).1 with regs := (valueF.shiftS x.st (d / 2 ^ bb) (d / 2 ^ (bb - 1))).1.regs.set D (valueF.shiftS x.st (d / 2 ^ bb) (d / 2 ^ (bb - 1))).2 } } evs := by
  have hd64 : d < 18446744073709551616 := h.ok.regs _ (List.mem_of_getElem? hd)
  have hDl : D < 16 := by have := (List.getElem?_eq_some_iff.1 hd).1; rw [h.ok.len] at this; exact this
  have hb64 : bb < 18446744073709551616 := by rw [hb]; exact u64_lt _
  obtain ⟨_, _, _, _, c20, c21, c22, _, _, _, _, _, c28, _⟩ := h.cells
  rw [hop] at c20
  rw [hD] at c21
  have u1 := wrap_u64 x.i.imm
  rw [← hb] at u1
  have cD := h.reg hd
  have i0 : (0 : Int) ≤ (D : Int) := by omega
  have i1 : (D : Int) < 16 := by omega
  have H := Lib.hid h
  have HD := Lib.hid hd
  have HDD := Lib.hid hD
  have HOP := Lib.hid hop
  have HLT := Lib.hid (And.intro hd64 hb64)
  have HDL := Lib.hid hDl
  clear h hop hD hd hb hd64 hb64 hDl
  go_enter Tryz.func38, Tryz.ntmps38
  go_wp2_with fail
  refine (values25 w).mono ?_
  rintro e w1 ⟨rfl, rfl⟩
  go_wp2_with fail
  refine (hasS25 w).mono ?_
  rintro e w1 ⟨rfl, rfl⟩
  go_wp2
  have H2 := H
  have HB0 := Lib.hid (Below.refl base w)
  clear H c22 c28
  obtain ⟨w0, rfl⟩ : ∃ w0 : World, w0 = w := ⟨_, rfl⟩
  have hb1' := hb1
  (refine wp_region_lines (fun w_ => w_.cell? ⟨b, 21, none⟩ = some (.int .i64 D) ∧ w_.cell? ⟨b, D, none⟩ = some (.int .u64 d)) (by kernel_rfl) (by kernel_rfl) ⟨c21, cD⟩ ?_)
  (try simp only [])
  repeat (first | (refine runL_no (by rfl) ?_; (try simp only [Act.put, List.setIfInBounds_toArray, List.set_cons_zero, List.set_cons_succ])) | (refine runL_val (v := ?_) (by rfl) ?_ ?_; rotate_left; (focus (intro w_ hw_; obtain ⟨f1, f2⟩ := hw_; go_simp; (try with_reducible rfl); done)); (try simp only [Act.put, List.setIfInBounds_toArray, List.set_cons_zero, List.set_cons_succ])) | (refine runL_call (f := ?_) (args := ?_) (w1 := ?_) (by rfl) (by rfl) ?_ ?_; rotate_left 3; (focus (go_simp; refine ⟨⟨?_, ?_⟩, ?_⟩ <;> with_reducible rfl)); refine (val12 (H2.out.next ((Below.refl _ _).drew)) d bb HLT.out.1 hb1 hb2).mono ?_; rintro e w1 ⟨rfl, hb1, hr1⟩; have HR := Lib.hid hr1; have HB := Lib.hid (HB0.out.trans ((show Below base w0 w0.drew from (Below.refl _ _).drew).trans hb1)); have c21' : w1.cell? ⟨b, 21, none⟩ = some (.int .i64 D) := (hr1.cells.2.2.2.2.2.1).trans (by rw [HDD.out]); have cD' := hr1.reg (k := D) (r := d) HD.out; have c20' : w1.cell? ⟨b, 20, none⟩ = _ := hr1.cells.2.2.2.2.1; clear hb1 hr1; refine ⟨_, rfl, .inr ⟨c21', cD'⟩, ?_⟩; (try simp only [Act.put, List.setIfInBounds_toArray, List.set_cons_zero, List.set_cons_succ])))
  (refine runL_nil ?_)
  clear c21 cD c20
  have c20 := c20'
  have f0 := HR.out.frozen D
  rw [show (_ : Int) = 25 from HOP.out] at c20
  clear c20'
  go_wp2
  go_region
  go_wp2
  go_ret
  exact ⟨rfl, (HB.out.setCell HR.out.le _).drew, (HR.out.setReg HDL.out (Nat.lt_of_le_of_lt (Nat.div_le_self _ _) HLT.out.1)).next ((Below.refl _ _).drew)⟩

end Go.Proofs.YtmanhikpccnfaaaGreat

/- The stepper's do, operation by operation. -/
namespace Go.Proofs.YtmanhikpccnfaaaGreat
open Go.RowKit

variable {w : World} {base b : Nat} {x : Stp} {evs : List Ev} {F : Nat → Prop} {rs : List Reg}

/-- A struct or an array is loaded, from wherever. -/
theorem exec_load {P : Program} {o : Oper} {a : Act} {w : World} (ty : TypeId) (y : Operand) (ho : o.op = .load ty y) (ad : Addr) (hx : a.eval y = .pointer (some ad)) (cs : Array Value) (d : TypeDesc)
    (hu : P.underlying ty = some d) (hd : (match d with | .struct _ | .array _ _ => true | _ => false) = true) (hi : (P.info? ty).map (·.size) = some cs.size)
    (hc : ∀ (j : Nat) (v : Value), cs.toList[j]? = some v → w.cell? (ad.add j) = some v) : (execOp a.eval o).run P w = .ok (.value (.agg cs)) w := by
  have hl : (loadCells ad cs.toList.length).run P w = .ok cs.toList.toArray w := run_loadCells_list (P := P) w ad cs.toList hc
  have hv : (loadVar ty ad).run P w = .ok (.agg cs) w := by
    cases hq : P.info? ty with
    | none => simp [hq] at hi
    | some i =>
      have hs : i.size = cs.size := by simpa [hq] using hi
      have hagg : (isAgg ty).run P w = .ok true w := by
        unfold isAgg
        rw [Sem.run_bind, run_underlying hu w]
        cases d <;> simp_all
      simp only [Array.length_toList, Array.toArray_toList] at hl
      simp [loadVar, Sem.run_bind, hagg, sizeOf, typeInfo, hq, hs, hl]
  unfold execOp
  simp only [ho, hx, Instr.loadAt, Instr.sureAddr, Sem.run_bind, Sem.run_pure, Result.andThen_ok, hv]

theorem add_plain (b o j : Nat) : Addr.add ⟨b, o, none⟩ j = ⟨b, o + j, none⟩ := by unfold Addr.add; split <;> simp_all

/-- The state in a stepper, loaded. -/
theorem Run.loadSt {w : World} (h : Run w base b x evs) {o : Oper} {a : Act} (y : Operand) (ho : o.op = .load 25 y) (hx : a.eval y = .pointer (some ⟨b, 0, none⟩)) : (execOp a.eval o).run Tryz.prog w = .ok (.value (.agg (stRow x.st).toArray)) w := by
  refine exec_load _ y ho _ hx _ _ Tryz.underlying25 rfl ?_ fun j v hv => ?_
  · have hl : (stRow x.st).toArray.size = 20 := by simp [stRow, h.ok.len]
    have hi : (Tryz.prog.info? 25).map (·.size) = some 20 := by kernel_rfl
    rw [hl]; exact hi
  · rw [add_plain, Nat.zero_add, h.get, stpRow, List.getElem?_append_left (List.getElem?_eq_some_iff.1 hv).1]; exact hv

/-- The place in a stepper, loaded. -/
theorem Run.loadMem {w : World} (h : Run w base b x evs) {o : Oper} {a : Act} (y : Operand) (ho : o.op = .load 27 y) (hx : a.eval y = .pointer (some ⟨b, 24, none⟩)) : (execOp a.eval o).run Tryz.prog w = .ok (.value (.agg #[.int .i64 x.i.base, .int .i64 x.i.index, .int .i64 x.i.scale, .int .i64 x.i.disp])) w := by
  obtain ⟨_, _, _, _, _, _, _, _, c24, c25, c26, c27, _⟩ := h.cells
  refine exec_load _ y ho _ hx _ _ Tryz.underlying27 rfl (by kernel_rfl) fun j v hv => ?_
  rw [add_plain]
  match j, hv with
  | 0, hv => cases hv; exact c24
  | 1, hv => cases hv; exact c25
  | 2, hv => cases hv; exact c26
  | 3, hv => cases hv; exact c27

/-- What the stepper holds while a region runs. -/
def Holds (base b : Nat) (x : Stp) (w_ : World) : Prop := ∃ (l' : Value) (e' : Int) (evs' : List Ev), Run w_ base b { x with l := l', e := e' } evs'
theorem Run.holds {w : World} (h : Run w base b x evs) : Holds base b x w := ⟨_, _, _, h⟩

set_option maxRecDepth 100000 in
set_option maxHeartbeats 1600000 in
theorem do5 (h : Run w base b x evs) (hop : x.i.op = 5) (D : Nat) (hD : x.i.d = D) (hDl : D < 16) :
    Calls Tryz.prog 39 #[.pointer (some ⟨b, 0, none⟩)] w fun e w' => e = .returned (.tuple #[]) ∧ Below base w w' ∧ Run w' base b { x with st := { x.st with regs := x.st.regs.set D (addrF x.st x.i) } } evs := by
  have c20 := h.cells.2.2.2.2.1
  rw [hop] at c20
  have i0 : (0 : Int) ≤ (D : Int) := by omega
  have i1 : (D : Int) < 16 := by omega
  have HD := Lib.hid hD
  have HDL := Lib.hid hDl
  obtain ⟨d, hd⟩ : ∃ d, x.st.regs[D]? = some d := ⟨_, List.getElem?_eq_getElem (by rw [h.ok.len]; exact hDl)⟩
  have HRD := Lib.hid hd
  have H := Lib.hid h
  have HA := Lib.hid (fun w_ => Address_any x.st x.i h.ok w_)
  clear h hop hD hDl hd
  go_enter Tryz.func39, Tryz.ntmps39
  go_wp2
  (refine wp_region_lines (Holds base b x) (by kernel_rfl) (by kernel_rfl) ((H.out.next ((Below.refl _ _).drew)).holds) ?_)
  (try simp only [])
  repeat (first | (refine runL_no (by rfl) ?_; (try simp only [Act.put, List.setIfInBounds_toArray, List.set_cons_zero, List.set_cons_succ])) | (refine runL_val (v := ?_) (by rfl) ?_ ?_; rotate_left; (focus (intro w_ hw_; obtain ⟨l', e', evs', hr_⟩ := hw_; have k21 := hr_.cells.2.2.2.2.2.1; rw [show ({ x with l := l', e := e' } : Stp).i.d = (D : Int) from HD.out] at k21; clear hr_; go_simp; (try with_reducible rfl); done)); (try simp only [Act.put, List.setIfInBounds_toArray, List.set_cons_zero, List.set_cons_succ])) | (refine runL_call (f := ?_) (args := ?_) (w1 := ?_) (by rfl) (by rfl) ?_ ?_; rotate_left 3; (focus (go_simp; refine ⟨⟨?_, ?_⟩, ?_⟩ <;> with_reducible rfl)); refine (HA.out _).mono ?_; rintro e w1 ⟨rfl, hb1⟩; have H1 := Lib.hid ((H.out.next ((Below.refl _ _).drew)).next hb1); have HB1 := Lib.hid (((Below.refl base w).drew).trans (hb1.mono (H.out.next ((Below.refl _ _).drew)).base_le)); have cD1 := H1.out.reg HRD.out; have fD1 := H1.out.frozen D; clear hb1; refine ⟨_, rfl, .inr H1.out.holds, ?_⟩; (try simp only [Act.put, List.setIfInBounds_toArray, List.set_cons_zero, List.set_cons_succ])) | (refine runL_val (v := .agg (stRow x.st).toArray) (by rfl) (fun w_ hw_ => by obtain ⟨l', e', evs', hr_⟩ := hw_; exact hr_.loadSt _ rfl rfl) ?_; (try simp only [Act.put, List.setIfInBounds_toArray, List.set_cons_zero, List.set_cons_succ])) | (refine runL_val (v := .agg #[.int .i64 x.i.base, .int .i64 x.i.index, .int .i64 x.i.scale, .int .i64 x.i.disp]) (by rfl) (fun w_ hw_ => by obtain ⟨l', e', evs', hr_⟩ := hw_; exact hr_.loadMem _ rfl rfl) ?_; (try simp only [Act.put, List.setIfInBounds_toArray, List.set_cons_zero, List.set_cons_succ])) | (refine runL_skip (w1 := ?_) (by rfl) (by rfl) ?_ (.inl ⟨rfl, ?_⟩) ?_; rotate_left; (focus (go_simp; (try with_reducible rfl); done)); (focus kernel_rfl); (try simp only [Act.put])))
  (refine runL_nil ?_)
  go_wp2
  go_end0
  exact ⟨rfl, HB1.out.setCell H.out.le _, H1.out.setReg HDL.out (by unfold addrF; exact Nat.mod_lt _ (by decide))⟩

set_option maxRecDepth 100000 in
set_option maxHeartbeats 1600000 in
theorem do3 (h : Run w base b x evs) (hop : x.i.op = 3) (hm : MemAt w F x.m rs) (hF : ∀ k, F k → k < base) (hf : evs.length ≤ 80) (D : Nat) (hD : x.i.d = D) (hDl : D < 16) :
    Calls Tryz.prog 39 #[.pointer (some ⟨b, 0, none⟩)] w fun e w' => e = .returned (.tuple #[]) ∧ Below base w w' ∧ ∃ v, Run w' base b { x with e := (loadVE (loadF rs (addrF x.st x.i))).2, l := v, st := { x.st with regs := x.st.regs.set D (loadVE (loadF rs (addrF x.st x.i))).1 } } (evs ++ [⟨2, addrF x.st x.i⟩]) := by
  have c20 := h.cells.2.2.2.2.1
  rw [hop] at c20
  have i0 : (0 : Int) ≤ (D : Int) := by omega
  have i1 : (D : Int) < 16 := by omega
  have HD := Lib.hid hD
  have HDL := Lib.hid hDl
  obtain ⟨d, hd⟩ : ∃ d, x.st.regs[D]? = some d := ⟨_, List.getElem?_eq_getElem (by rw [h.ok.len]; exact hDl)⟩
  have HRD := Lib.hid hd
  have H := Lib.hid h
  have HM := Lib.hid hm
  have HFB := Lib.hid hF
  have HFEW := Lib.hid (show evs.length ≤ 90 by omega)
  have HA := Lib.hid (fun w_ => Address_any x.st x.i h.ok w_)
  clear h hop hD hDl hd hm hF hf
  go_enter Tryz.func39, Tryz.ntmps39
  go_wp2
  (refine wp_region_lines (Holds base b x) (by kernel_rfl) (by kernel_rfl) ((H.out.next ((Below.refl _ _).drew)).holds) ?_)
  (try simp only [])
  repeat (first | (refine runL_no (by rfl) ?_; (try simp only [Act.put, List.setIfInBounds_toArray, List.set_cons_zero, List.set_cons_succ])) | (refine runL_val (v := ?_) (by rfl) ?_ ?_; rotate_left; (focus (intro w_ hw_; obtain ⟨l', e', evs', hr_⟩ := hw_; have k21 := hr_.cells.2.2.2.2.2.1; rw [show ({ x with l := l', e := e' } : Stp).i.d = (D : Int) from HD.out] at k21; clear hr_; go_simp; (try with_reducible rfl); done)); (try simp only [Act.put, List.setIfInBounds_toArray, List.set_cons_zero, List.set_cons_succ])) | (refine runL_call (f := ?_) (args := ?_) (w1 := ?_) (by rfl) (by rfl) ?_ ?_; rotate_left 3; (focus (go_simp; refine ⟨⟨?_, ?_⟩, ?_⟩ <;> with_reducible rfl)); refine (HA.out _).mono ?_; rintro e w1 ⟨rfl, hb1⟩; have H1 := Lib.hid ((H.out.next ((Below.refl _ _).drew)).next hb1); have HB1 := Lib.hid (((Below.refl base w).drew).trans (hb1.mono (H.out.next ((Below.refl _ _).drew)).base_le)); skip; clear hb1; refine ⟨_, rfl, .inr H1.out.holds, ?_⟩; (try simp only [Act.put, List.setIfInBounds_toArray, List.set_cons_zero, List.set_cons_succ])) | (refine runL_call (f := ?_) (args := ?_) (w1 := ?_) (by rfl) (by rfl) ?_ ?_; rotate_left 3; (focus (go_simp; refine ⟨⟨?_, ?_⟩, ?_⟩ <;> with_reducible rfl)); refine (load_any H1.out (HM.out.keep (SameOn.of_below HB1.out HFB.out)) HFB.out (addrF x.st x.i) (by unfold addrF; exact Nat.mod_lt _ (by decide)) HFEW.out).mono ?_; rintro e w2 ⟨rfl, hb2, v2, hr2⟩; have H2 := Lib.hid hr2; have HB2 := Lib.hid (HB1.out.trans hb2); have cD2 := H2.out.reg (k := D) (r := d) HRD.out; have fD2 := H2.out.frozen D; clear hb2 hr2; refine ⟨_, rfl, .inr ⟨_, _, _, H2.out⟩, ?_⟩; (try simp only [Act.put, List.setIfInBounds_toArray, List.set_cons_zero, List.set_cons_succ])) | (refine runL_val (v := .agg (stRow x.st).toArray) (by rfl) (fun w_ hw_ => by obtain ⟨l', e', evs', hr_⟩ := hw_; exact hr_.loadSt _ rfl rfl) ?_; (try simp only [Act.put, List.setIfInBounds_toArray, List.set_cons_zero, List.set_cons_succ])) | (refine runL_val (v := .agg #[.int .i64 x.i.base, .int .i64 x.i.index, .int .i64 x.i.scale, .int .i64 x.i.disp]) (by rfl) (fun w_ hw_ => by obtain ⟨l', e', evs', hr_⟩ := hw_; exact hr_.loadMem _ rfl rfl) ?_; (try simp only [Act.put, List.setIfInBounds_toArray, List.set_cons_zero, List.set_cons_succ])) | (refine runL_skip (w1 := ?_) (by rfl) (by rfl) ?_ (.inl ⟨rfl, ?_⟩) ?_; rotate_left; (focus (go_simp; (try with_reducible rfl); done)); (focus kernel_rfl); (try simp only [Act.put])))
  (refine runL_nil ?_)
  go_wp2
  go_end0
  exact ⟨rfl, HB2.out.setCell H.out.le _, v2, H2.out.setReg HDL.out loadF_lt⟩

set_option maxRecDepth 100000 in
set_option maxHeartbeats 1600000 in
theorem do4 (h : Run w base b x evs) (hop : x.i.op = 4) (hm : MemAt w F x.m rs) (hF : ∀ k, F k → k < base) (hf : evs.length ≤ 80) (S : Nat) (hS : x.i.s = S) (hSl : S < 16) (v : Nat) (hv : x.st.regs[S]? = some v) :
    Calls Tryz.prog 39 #[.pointer (some ⟨b, 0, none⟩)] w fun e w' => ∃ g rs2 vl, e = .returned (.tuple #[]) ∧ StoreSays rs (addrF x.st x.i) v g rs2 ∧ MemAt w' F x.m rs2 ∧ Chg (Over F base) w w' ∧ Run w' base b { x with e := g, l := vl } (evs ++ [⟨3, addrF x.st x.i⟩]) := by
  have c20 := h.cells.2.2.2.2.1
  rw [hop] at c20
  have j0 : (0 : Int) ≤ (S : Int) := by omega
  have j1 : (S : Int) < 16 := by omega
  have HSS := Lib.hid hS
  have HRS := Lib.hid hv
  have HV := Lib.hid (h.ok.regs _ (List.mem_of_getElem? hv))
  have H := Lib.hid h
  have HM := Lib.hid hm
  have HFB := Lib.hid hF
  have HFEW := Lib.hid (show evs.length ≤ 90 by omega)
  have HA := Lib.hid (fun w_ => Address_any x.st x.i h.ok w_)
  clear h hop hS hSl hv hm hF hf
  go_enter Tryz.func39, Tryz.ntmps39
  go_wp2
  (refine wp_region_lines (Holds base b x) (by kernel_rfl) (by kernel_rfl) ((H.out.next ((Below.refl _ _).drew)).holds) ?_)
  (try simp only [])
  repeat (first | (refine runL_no (by rfl) ?_; (try simp only [Act.put, List.setIfInBounds_toArray, List.set_cons_zero, List.set_cons_succ])) | (refine runL_val (v := ?_) (by rfl) ?_ ?_; rotate_left; (focus (intro w_ hw_; obtain ⟨l', e', evs', hr_⟩ := hw_; have k22 := hr_.cells.2.2.2.2.2.2.1; rw [show ({ x with l := l', e := e' } : Stp).i.s = (S : Int) from HSS.out] at k22; have kS := hr_.reg (k := S) (r := v) HRS.out; clear hr_; go_simp; (try with_reducible rfl); done)); (try simp only [Act.put, List.setIfInBounds_toArray, List.set_cons_zero, List.set_cons_succ])) | (refine runL_call (f := ?_) (args := ?_) (w1 := ?_) (by rfl) (by rfl) ?_ ?_; rotate_left 3; (focus (go_simp; refine ⟨⟨?_, ?_⟩, ?_⟩ <;> with_reducible rfl)); refine (HA.out _).mono ?_; rintro e w1 ⟨rfl, hb1⟩; have H1 := Lib.hid ((H.out.next ((Below.refl _ _).drew)).next hb1); have HB1 := Lib.hid (((Below.refl base w).drew).trans (hb1.mono (H.out.next ((Below.refl _ _).drew)).base_le)); skip; clear hb1; refine ⟨_, rfl, .inr H1.out.holds, ?_⟩; (try simp only [Act.put, List.setIfInBounds_toArray, List.set_cons_zero, List.set_cons_succ])) | (refine runL_call (f := ?_) (args := ?_) (w1 := ?_) (by rfl) (by rfl) ?_ ?_; rotate_left 3; (focus (go_simp; refine ⟨⟨?_, ?_⟩, ?_⟩ <;> with_reducible rfl)); refine (store_any H1.out (HM.out.keep (SameOn.of_below HB1.out HFB.out)) HFB.out (addrF x.st x.i) v (by unfold addrF; exact Nat.mod_lt _ (by decide)) HV.out HFEW.out).mono ?_; rintro e w2 ⟨g2, rs2, v2, rfl, hsay, hm2, hc2, hr2⟩; have H2 := Lib.hid hr2; have HC2 := Lib.hid ((Over.below (F := F) HB1.out).trans hc2); have HX2 := Lib.hid (And.intro hsay hm2); clear hsay hm2 hc2 hr2; refine ⟨_, rfl, .inl ⟨rfl, ?_⟩, ?_⟩; (focus kernel_rfl); (try simp only [Act.put, List.setIfInBounds_toArray, List.set_cons_zero, List.set_cons_succ])) | (refine runL_val (v := .agg (stRow x.st).toArray) (by rfl) (fun w_ hw_ => by obtain ⟨l', e', evs', hr_⟩ := hw_; exact hr_.loadSt _ rfl rfl) ?_; (try simp only [Act.put, List.setIfInBounds_toArray, List.set_cons_zero, List.set_cons_succ])) | (refine runL_val (v := .agg #[.int .i64 x.i.base, .int .i64 x.i.index, .int .i64 x.i.scale, .int .i64 x.i.disp]) (by rfl) (fun w_ hw_ => by obtain ⟨l', e', evs', hr_⟩ := hw_; exact hr_.loadMem _ rfl rfl) ?_; (try simp only [Act.put, List.setIfInBounds_toArray, List.set_cons_zero, List.set_cons_succ])))
  (refine runL_nil ?_)
  go_wp2
  go_end0
  exact ⟨g2, rs2, v2, rfl, HX2.out.1, HX2.out.2, HC2.out, H2.out⟩

set_option maxRecDepth 100000 in
set_option maxHeartbeats 1600000 in
theorem do30 (h : Run w base b x evs) (hop : x.i.op = 30) (hf : evs.length ≤ 80) :
    Calls Tryz.prog 39 #[.pointer (some ⟨b, 0, none⟩)] w fun e w' => e = .returned (.tuple #[]) ∧ Below base w w' ∧ ∃ v, Run w' base b { x with l := v, st := jumpS x.st true x.i.imm } (evs ++ [⟨4, (jumpS x.st true x.i.imm).pc⟩]) := by
  have c20 := h.cells.2.2.2.2.1
  rw [hop] at c20
  have HJ := Lib.hid (jump_any h true (by omega))
  have c19 := h.cells.2.2.2.1
  have c17 := h.cells.2.1
  clear h hop
  go_enter Tryz.func39, Tryz.ntmps39
  go_wp2_with fail
  refine HJ.out.mono ?_
  rintro e w1 ⟨rfl, hb1, v, hr1⟩
  have HR := Lib.hid (And.intro hb1 hr1)
  clear hb1 hr1
  go_wp2
  go_end0
  exact ⟨rfl, HR.out.1, v, HR.out.2⟩

set_option maxRecDepth 100000 in
set_option maxHeartbeats 1600000 in
theorem do31 (h : Run w base b x evs) (hop : x.i.op = 31) (hf : evs.length ≤ 80) :
    Calls Tryz.prog 39 #[.pointer (some ⟨b, 0, none⟩)] w fun e w' => e = .returned (.tuple #[]) ∧ Below base w w' ∧ ∃ v, Run w' base b { x with l := v, st := jumpS x.st (!x.st.zf) x.i.imm } (evs ++ [⟨4, (jumpS x.st (!x.st.zf) x.i.imm).pc⟩]) := by
  have c20 := h.cells.2.2.2.2.1
  rw [hop] at c20
  have HJ := Lib.hid (jump_any h (!x.st.zf) (by omega))
  have c19 := h.cells.2.2.2.1
  have c17 := h.cells.2.1
  clear h hop
  go_enter Tryz.func39, Tryz.ntmps39
  go_wp2_with fail
  refine HJ.out.mono ?_
  rintro e w1 ⟨rfl, hb1, v, hr1⟩
  have HR := Lib.hid (And.intro hb1 hr1)
  clear hb1 hr1
  go_wp2
  go_end0
  exact ⟨rfl, HR.out.1, v, HR.out.2⟩

set_option maxRecDepth 100000 in
set_option maxHeartbeats 1600000 in
theorem do32 (h : Run w base b x evs) (hop : x.i.op = 32) (hf : evs.length ≤ 80) :
    Calls Tryz.prog 39 #[.pointer (some ⟨b, 0, none⟩)] w fun e w' => e = .returned (.tuple #[]) ∧ Below base w w' ∧ ∃ v, Run w' base b { x with l := v, st := jumpS x.st x.st.cf x.i.imm } (evs ++ [⟨4, (jumpS x.st x.st.cf x.i.imm).pc⟩]) := by
  have c20 := h.cells.2.2.2.2.1
  rw [hop] at c20
  have HJ := Lib.hid (jump_any h x.st.cf (by omega))
  have c19 := h.cells.2.2.2.1
  have c17 := h.cells.2.1
  clear h hop
  go_enter Tryz.func39, Tryz.ntmps39
  go_wp2_with fail
  refine HJ.out.mono ?_
  rintro e w1 ⟨rfl, hb1, v, hr1⟩
  have HR := Lib.hid (And.intro hb1 hr1)
  clear hb1 hr1
  go_wp2
  go_end0
  exact ⟨rfl, HR.out.1, v, HR.out.2⟩

set_option maxRecDepth 100000 in
set_option maxHeartbeats 1600000 in
theorem do29 (h : Run w base b x evs) (hop : x.i.op = 29) (hm : MemAt w F x.m rs) (hF : ∀ k, F k → k < base) (hf : evs.length ≤ 80) (D : Nat) (hD : x.i.d = D) (hDl : D < 16) (sp : Nat) (hsp : x.st.regs[4]? = some sp) :
    Calls Tryz.prog 39 #[.pointer (some ⟨b, 0, none⟩)] w fun e w' => e = .returned (.tuple #[]) ∧ Below base w w' ∧ ∃ v, Run w' base b { x with e := (loadVE (loadF rs sp)).2, l := v, st := { x.st with regs := (x.st.regs.set 4 ((sp + 8) % 18446744073709551616)).set D (loadVE (loadF rs sp)).1 } } (evs ++ [⟨2, sp⟩]) := by
  have c20 := h.cells.2.2.2.2.1
  rw [hop] at c20
  have i0 : (0 : Int) ≤ (D : Int) := by omega
  have i1 : (D : Int) < 16 := by omega
  have HD := Lib.hid hD
  have HDL := Lib.hid hDl
  have H := Lib.hid h
  have HP := Lib.hid (pop_any (h.next ((Below.refl _ _).drew)) (hm.keep (SameOn.of_below (Below.refl base w).drew hF)) hF sp hsp (by omega))
  have hk21 : w.cell? ⟨b, 21, none⟩ = some (.int .i64 D) := by rw [← hD]; exact h.cells.2.2.2.2.2.1
  have HK := Lib.hid hk21
  clear h hop hD hDl hm hF hf hk21 hsp
  go_enter Tryz.func39, Tryz.ntmps39
  go_wp2
  (refine wp_region_lines (fun w_ => w_.cell? ⟨b, 21, none⟩ = some (.int .i64 D)) (by kernel_rfl) (by kernel_rfl) HK.out ?_)
  (try simp only [])
  repeat (first | (refine runL_no (by rfl) ?_; (try simp only [Act.put, List.setIfInBounds_toArray, List.set_cons_zero, List.set_cons_succ])) | (refine runL_val (v := ?_) (by rfl) ?_ ?_; rotate_left; (focus (intro w_ hw_; have k21 := hw_; go_simp; (try with_reducible rfl); done)); (try simp only [Act.put, List.setIfInBounds_toArray, List.set_cons_zero, List.set_cons_succ])) | (refine runL_call (f := ?_) (args := ?_) (w1 := ?_) (by rfl) (by rfl) ?_ ?_; rotate_left 3; (focus (go_simp; refine ⟨⟨?_, ?_⟩, ?_⟩ <;> with_reducible rfl)); refine HP.out.mono ?_; rintro e w1 ⟨rfl, hb1, v, hr1⟩; have HR := Lib.hid hr1; have HB := Lib.hid (((Below.refl base w).drew).trans hb1); obtain ⟨dd, hdd⟩ : ∃ dd, (x.st.regs.set 4 ((sp + 8) % 18446744073709551616))[D]? = some dd := ⟨_, List.getElem?_eq_getElem (by have := hr1.ok.len; have h2 := HDL.out; simp at this ⊢; omega)⟩; have cD1 := hr1.reg (k := D) (r := dd) hdd; have fD1 := hr1.frozen D; have k21' : w1.cell? ⟨b, 21, none⟩ = some (.int .i64 D) := by { rw [← HD.out]; exact hr1.cells.2.2.2.2.2.1 }; clear hb1 hr1 hdd; refine ⟨_, rfl, .inr k21', ?_⟩; (try simp only [Act.put, List.setIfInBounds_toArray, List.set_cons_zero, List.set_cons_succ])) | (refine runL_skip (w1 := ?_) (by rfl) (by rfl) ?_ (.inl ⟨rfl, ?_⟩) ?_; rotate_left; (focus (go_simp; (try with_reducible rfl); done)); (focus kernel_rfl); (try simp only [Act.put])))
  (refine runL_nil ?_)
  go_wp2
  go_end0
  exact ⟨rfl, HB.out.setCell H.out.le _, v, HR.out.setReg HDL.out loadF_lt⟩
end Go.Proofs.YtmanhikpccnfaaaGreat

/- The stepper's do: push, ret. -/
namespace Go.Proofs.YtmanhikpccnfaaaGreat
open Go.RowKit

variable {w : World} {base b : Nat} {x : Stp} {evs : List Ev} {F : Nat → Prop} {rs : List Reg}

set_option maxRecDepth 100000 in
set_option maxHeartbeats 1600000 in
theorem do33 (h : Run w base b x evs) (hop : x.i.op = 33) (hm : MemAt w F x.m rs) (hF : ∀ k, F k → k < base) (hf : evs.length ≤ 80) (sp : Nat) (hsp : x.st.regs[4]? = some sp) :
    Calls Tryz.prog 39 #[.pointer (some ⟨b, 0, none⟩)] w fun e w' => e = .returned (.tuple #[]) ∧ Below base w w' ∧ ∃ v, Run w' base b { x with e := (loadVE (loadF rs sp)).2, l := v, st := { x.st with regs := x.st.regs.set 4 ((sp + 8) % 18446744073709551616), pc := (loadVE (loadF rs sp)).1 } } (evs ++ [⟨2, sp⟩] ++ [⟨4, (loadVE (loadF rs sp)).1⟩]) := by
  have c20 := h.cells.2.2.2.2.1
  rw [hop] at c20
  have HP := Lib.hid (pop_any h hm hF sp hsp (by omega))
  have HLE := Lib.hid h.le
  have HFEW := Lib.hid hf
  clear h hop hm hF hf hsp
  go_enter Tryz.func39, Tryz.ntmps39
  go_wp2_with fail
  refine HP.out.mono ?_
  rintro e w1 ⟨rfl, hb1, v, hr1⟩
  have c16 := hr1.cells.1
  have f16 := hr1.frozen 16
  have HR := Lib.hid hr1
  have HB := Lib.hid hb1
  clear hb1 hr1 c20
  go_wp2_with fail
  refine (see_any (HR.out.setPc loadF_lt) 4 (loadVE (loadF rs sp)).1 (by have := HFEW.out; simp; omega)).mono ?_
  rintro e w2 ⟨rfl, hb2, v2, hr2⟩
  have HR2 := Lib.hid hr2
  have HB2 := Lib.hid ((HB.out.setCell HLE.out _).trans hb2)
  clear hb2 hr2 c16 f16
  go_wp2
  go_end0
  exact ⟨rfl, HB2.out, v2, HR2.out⟩

set_option maxRecDepth 100000 in
set_option maxHeartbeats 1600000 in
theorem do28 (h : Run w base b x evs) (hop : x.i.op = 28) (hm : MemAt w F x.m rs) (hF : ∀ k, F k → k < base) (hf : evs.length ≤ 80) (S : Nat) (hS : x.i.s = S) (hSl : S < 16) (v : Nat) (hv : x.st.regs[S]? = some v) (sp : Nat) (hsp : x.st.regs[4]? = some sp) :
    Calls Tryz.prog 39 #[.pointer (some ⟨b, 0, none⟩)] w fun e w' => ∃ g rs2 vl, e = .returned (.tuple #[]) ∧ StoreSays rs ((18446744073709551616 + sp - 8) % 18446744073709551616) v g rs2 ∧ MemAt w' F x.m rs2 ∧ Chg (Over F base) w w' ∧
      Run w' base b { x with e := g, l := vl, st := { x.st with regs := x.st.regs.set 4 ((18446744073709551616 + sp - 8) % 18446744073709551616) } } (evs ++ [⟨3, (18446744073709551616 + sp - 8) % 18446744073709551616⟩]) := by
  have c20 := h.cells.2.2.2.2.1
  have c22 := h.cells.2.2.2.2.2.2.1
  rw [hop] at c20
  rw [hS] at c22
  have cS := h.reg hv
  have c4 := h.reg hsp
  have f4 := h.frozen 4
  have j0 : (0 : Int) ≤ (S : Int) := by omega
  have j1 : (S : Int) < 16 := by omega
  have hs64 : sp < 18446744073709551616 := h.ok.regs _ (List.mem_of_getElem? hsp)
  have HV := Lib.hid (h.ok.regs _ (List.mem_of_getElem? hv))
  have w8 : IntKind.u64.wrap ((sp : Int) - 8) = (((18446744073709551616 + sp - 8) % 18446744073709551616 : Nat) : Int) := by rw [wrapU']; omega
  have hlt : (18446744073709551616 + sp - 8) % 18446744073709551616 < 18446744073709551616 := Nat.mod_lt _ (by decide)
  generalize (18446744073709551616 + sp - 8) % 18446744073709551616 = q at *
  have hle := h.le
  have h1 := ((h.next ((Below.refl _ _).drew)).setReg (k := 4) (by decide) hlt).next ((Below.refl _ _).drew)
  have h2 : Below base w ((w.drew.setCell ⟨b, 4, none⟩ (.int .u64 q)).drew) := (((Below.refl base w).drew).setCell hle _).drew
  have HR := Lib.hid h1
  have HM := Lib.hid (hm.keep (SameOn.of_below h2 hF))
  have HB := Lib.hid h2
  have HF := Lib.hid hF
  have HFEW := Lib.hid (show evs.length ≤ 90 by omega)
  have HQ := Lib.hid hlt
  clear h hop hS hSl hv hsp hm hF hf h1 h2 hle hs64 hlt
  go_enter Tryz.func39, Tryz.ntmps39
  go_wp2
  go_region
  go_wp2
  go_region
  go_wp2_with fail
  refine (store_any HR.out HM.out HF.out q v HQ.out HV.out HFEW.out).mono ?_
  rintro e w2 ⟨g2, rs2, v2, rfl, hsay, hm2, hc2, hr2⟩
  have H2 := Lib.hid hr2
  have HC2 := Lib.hid ((Over.below (F := F) HB.out).trans hc2)
  have HX2 := Lib.hid (And.intro hsay hm2)
  clear hsay hm2 hc2 hr2 c20 c22 cS c4 f4
  go_wp2
  go_end0
  exact ⟨g2, rs2, v2, rfl, HX2.out.1, HX2.out.2, HC2.out, H2.out⟩
end Go.Proofs.YtmanhikpccnfaaaGreat

/- The stepper's do: mulx. -/
namespace Go.Proofs.YtmanhikpccnfaaaGreat
open Go.RowKit

variable {w : World} {base b : Nat} {x : Stp} {evs : List Ev} {F : Nat → Prop} {rs : List Reg}

set_option maxRecDepth 100000 in
set_option maxHeartbeats 1600000 in
theorem do19 (h : Run w base b x evs) (hop : x.i.op = 19) (D : Nat) (hD : x.i.d = D) (hDl : D < 16) (S : Nat) (hS : x.i.s = S) (hSl : S < 16) (hDS : D ≠ S) (T : Nat) (hT : x.i.t = T) (t : Nat) (ht : x.st.regs[T]? = some t) (dx : Nat) (hdx : x.st.regs[2]? = some dx) :
    Calls Tryz.prog 39 #[.pointer (some ⟨b, 0, none⟩)] w fun e w' => e = .returned (.tuple #[]) ∧ Below base w w' ∧ Run w' base b { x with st := { x.st with regs := (x.st.regs.set D (mulF t dx).1).set S (mulF t dx).2 } } evs := by
  have hTl : T < 16 := by have := (List.getElem?_eq_some_iff.1 ht).1; rw [h.ok.len] at this; exact this
  have c20 := h.cells.2.2.2.2.1
  have c21 := h.cells.2.2.2.2.2.1
  have c22 := h.cells.2.2.2.2.2.2.1
  have c23 := h.cells.2.2.2.2.2.2.2.1
  rw [hop] at c20
  rw [hD] at c21
  rw [hS] at c22
  rw [hT] at c23
  obtain ⟨d, hd⟩ : ∃ d, x.st.regs[D]? = some d := ⟨_, List.getElem?_eq_getElem (by rw [h.ok.len]; exact hDl)⟩
  obtain ⟨s, hs⟩ : ∃ s, x.st.regs[S]? = some s := ⟨_, List.getElem?_eq_getElem (by rw [h.ok.len]; exact hSl)⟩
  have cD := h.reg hd
  have cS := h.reg hs
  have cT := h.reg ht
  have c2 := h.reg hdx
  have fD := h.frozen D
  have fS := h.frozen S
  have i0 : (0 : Int) ≤ (D : Int) := by omega
  have i1 : (D : Int) < 16 := by omega
  have j0 : (0 : Int) ≤ (S : Int) := by omega
  have j1 : (S : Int) < 16 := by omega
  have k0 : (0 : Int) ≤ (T : Int) := by omega
  have k1 : (T : Int) < 16 := by omega
  have n1 : ¬ D = S := hDS
  have n2 : ¬ S = D := fun e => hDS e.symm
  have n3 : ¬ D = 22 := by omega
  have n4 : ¬ S = 22 := by omega
  have hM := Mul_any t dx w.drew (h.ok.regs _ (List.mem_of_getElem? ht)) (h.ok.regs _ (List.mem_of_getElem? hdx))
  have m1 : (mulF t dx).1 < 18446744073709551616 := by
    have h1 := h.ok.regs _ (List.mem_of_getElem? ht)
    have h2 := h.ok.regs _ (List.mem_of_getElem? hdx)
    have h3 := Nat.mul_le_mul (Nat.le_of_lt_succ h1) (Nat.le_of_lt_succ h2)
    simp only [mulF]; omega
  have m2 : (mulF t dx).2 < 18446744073709551616 := Nat.mod_lt _ (by decide)
  generalize (mulF t dx).1 = hi at *
  generalize (mulF t dx).2 = lo at *
  have HX := Lib.hid (h.next ((Below.refl _ _).drew))
  have H := Lib.hid (((h.next ((Below.refl _ _).drew)).setReg hDl m1).setReg hSl m2)
  have HCS := Lib.hid (And.intro hD (And.intro hS (And.intro hT (And.intro ht hdx))))
  have HLE := Lib.hid h.le
  have HM := Lib.hid hM
  clear h hop hD hS hT hDl hSl hDS ht hdx hd hs hM hTl m1 m2
  go_enter Tryz.func39, Tryz.ntmps39
  go_wp2
  (refine wp_region_stages (fun k_ w_ => ((fun k => decide (k < 6) || (decide (12 ≤ k) && decide (k < 28)) || (decide (29 ≤ k) && decide (k < 32))) k_ = true → (Holds base b x) w_) ∧ (fun w_ => w_.cell? ⟨b, 22, none⟩ = some (.int .i64 S)) w_) (by kernel_rfl) (by kernel_rfl) (fun _ => ⟨fun _ => ((And.intro HX.out.holds c22)).1, ((And.intro HX.out.holds c22)).2⟩) ?_)
  (try simp only [])
  repeat (first | (refine runK_no (by rfl) ?_; (try simp only [Act.put, List.setIfInBounds_toArray, List.set_cons_zero, List.set_cons_succ])) | (refine runK_val (v := ?_) (by rfl) ?_ ?_; rotate_left; (focus (intro w_ hw_; obtain ⟨hE_, f2_⟩ := hw_; (try (replace hE_ := hE_ (by decide); obtain ⟨l', e', evs', hr_⟩ := hE_; have k21 := hr_.cells.2.2.2.2.2.1; have k23 := hr_.cells.2.2.2.2.2.2.2.1; rw [show ({ x with l := l', e := e' } : Stp).i.d = (D : Int) from HCS.out.1] at k21; rw [show ({ x with l := l', e := e' } : Stp).i.t = (T : Int) from HCS.out.2.2.1] at k23; have kT := hr_.reg (k := T) (r := t) HCS.out.2.2.2.1; have k2 := hr_.reg (k := 2) (r := dx) HCS.out.2.2.2.2; clear hr_)); go_simp; (try with_reducible rfl); done)); (try simp only [Act.put, List.setIfInBounds_toArray, List.set_cons_zero, List.set_cons_succ])) | (refine runK_call (f := ?_) (args := ?_) (w1 := ?_) (by rfl) (by rfl) ?_ ?_; rotate_left 3; (focus (go_simp; refine ⟨⟨?_, ?_⟩, ?_⟩ <;> with_reducible rfl)); refine HM.out.mono ?_; rintro e w1 ⟨rfl, rfl⟩; refine ⟨_, rfl, fun _ _ => ⟨fun _ => HX.out.holds, c22⟩, ?_⟩; (try simp only [Act.put, List.setIfInBounds_toArray, List.set_cons_zero, List.set_cons_succ])) | (refine runK_skip (w1 := ?_) (by rfl) (by rfl) ?_ (fun k_ hk_ => ⟨fun hc_ => (free_crit (C := (fun k => decide (k < 6) || (decide (12 ≤ k) && decide (k < 28)) || (decide (29 ≤ k) && decide (k < 32)))) ?_ k_ hk_ hc_).elim, ?_⟩) ?_; rotate_left; (focus (go_simp; (try with_reducible rfl); done)); (focus kernel_rfl); (focus (go_simp; done)); (try simp only [Act.put])))
  (refine runK_nil ?_)
  go_wp2
  go_end0
  exact ⟨rfl, (((Below.refl _ _).drew).setCell HLE.out _).setCell HLE.out _, H.out⟩
end Go.Proofs.YtmanhikpccnfaaaGreat

/- package inst: the forms, and what reads them. -/
namespace Go.Proofs.YtmanhikpccnfaaaGreat
open Go.RowKit

/-- What an operation is like. -/
structure FormX where
  name : List UInt8
  is : Nat
  reads : Nat
  writes : Nat
def formsL : List FormX := [
  ⟨[], 0, 0, 0⟩,
  ⟨[109, 111, 118], 131, 0, 0⟩,
  ⟨[109, 111, 118], 161, 0, 0⟩,
  ⟨[109, 111, 118], 137, 0, 0⟩,
  ⟨[109, 111, 118], 10, 0, 0⟩,
  ⟨[108, 101, 97], 137, 0, 0⟩,
  ⟨[97, 100, 100], 387, 0, 7⟩,
  ⟨[97, 100, 99], 387, 1, 7⟩,
  ⟨[115, 117, 98], 387, 0, 7⟩,
  ⟨[115, 98, 98], 387, 1, 7⟩,
  ⟨[97, 110, 100], 387, 0, 7⟩,
  ⟨[111, 114], 387, 0, 7⟩,
  ⟨[120, 111, 114], 387, 0, 7⟩,
  ⟨[99, 109, 112], 259, 0, 7⟩,
  ⟨[116, 101, 115, 116], 259, 0, 7⟩,
  ⟨[97, 100, 100], 401, 0, 7⟩,
  ⟨[97, 110, 100], 401, 0, 7⟩,
  ⟨[115, 117, 98], 401, 0, 7⟩,
  ⟨[99, 109, 112], 273, 0, 7⟩,
  ⟨[109, 117, 108, 120], 135, 0, 0⟩,
  ⟨[97, 100, 99, 120], 387, 1, 1⟩,
  ⟨[97, 100, 111, 120], 387, 2, 2⟩,
  ⟨[110, 101, 103], 385, 0, 7⟩,
  ⟨[110, 111, 116], 385, 0, 0⟩,
  ⟨[115, 104, 108], 449, 0, 5⟩,
  ⟨[115, 104, 114], 449, 0, 5⟩,
  ⟨[99, 109, 111, 118, 99], 387, 1, 0⟩,
  ⟨[99, 109, 111, 118, 110, 122], 387, 4, 0⟩,
  ⟨[112, 117, 115, 104], 514, 0, 0⟩,
  ⟨[112, 111, 112], 641, 0, 0⟩,
  ⟨[106, 109, 112], 16, 0, 0⟩,
  ⟨[106, 110, 122], 16, 4, 0⟩,
  ⟨[106, 99], 16, 1, 0⟩,
  ⟨[114, 101, 116], 512, 0, 0⟩]
def noForm : FormX := ⟨[], 0, 0, 0⟩
def formRow (f : FormX) : List Value := [.string ⟨f.name.toArray⟩, .int .i64 f.is, .int .i64 f.reads, .int .i64 f.writes]
def formV (f : FormX) : Value := .agg (formRow f).toArray
def formF (op : Int) : FormX := if op < 0 then noForm else formsL.getD op.toNat noForm
def formCells : List Value := formsL.flatMap formRow

theorem Below.setRow {b : Nat} {w w' : World} (h : Below b w w') {g : Nat} (hg : b ≤ g) (cs : Array Value) : Below b w (w'.setRow g cs) :=
  ⟨h.os, h.tape, h.output, by rw [show (w'.setRow g cs).heap.size = w'.heap.size by simp [World.setRow]]; exact h.size, fun k hk => by rw [setRow_other _ _ _ _ (by omega)]; exact h.block k hk⟩

theorem info34 : (Tryz.prog.info? 123).map (fun i => (i.zero, i.size)) = some (some (.agg ((List.replicate 34 (formRow noForm)).flatten.toArray)), 136) := by kernel_rfl

set_option maxRecDepth 100000 in
set_option maxHeartbeats 800000 in
theorem forms_any (w : World) : Calls Tryz.prog 81 #[] w fun e w' => e = .returned (.agg formCells.toArray) ∧ Below w.heap.size w w' := by
  obtain ⟨hz, hs⟩ := zero_of_info info34
  generalize hzc : ((List.replicate 34 (formRow noForm)).flatten.toArray) = zc at *
  have HZ := Lib.hid hzc
  have hsz : zc.size = 136 := by rw [← hzc]; rfl
  have HSZ := Lib.hid hsz
  clear hzc hsz
  go_enter Tryz.func81, Tryz.ntmps81
  go_wp2_with (first | (refine wpList_build rfl 123 _ rfl (by as_aux_lemma => kernel_rfl) ?_) | (refine wpList_store_row rfl 123 _ _ rfl w.heap.size _ rfl rfl 123 zc (heap_alloc_new w _) (by as_aux_lemma => kernel_rfl) (by rw [HSZ.out]; as_aux_lemma => kernel_rfl) (by as_aux_lemma => kernel_rfl) ?_))
  refine bodyPost_ret (results_cell_row (ty := 123) rfl _ _ w.heap.size 123 _ (0, 0) _ rfl (setRow_heap _ _ _ _ _ _ (heap_alloc_new w _)) Tryz.underlying123 rfl (by as_aux_lemma => kernel_rfl)) rfl ⟨congrArg (fun c => Ending.returned (Value.agg c)) (by as_aux_lemma => kernel_rfl), ?_⟩
  exact Below.setRow ((Below.refl _ _).alloc (Nat.le_refl _) _) (Nat.le_refl _) _

theorem flat_row (L : List FormX) : ∀ (o j : Nat), j < 4 → (L.flatMap formRow)[o * 4 + j]? = (L[o]?).bind (fun f => (formRow f)[j]?) := by
  induction L with
  | nil => intro o j _; simp
  | cons f fs ih =>
    intro o j hj
    rw [List.flatMap_cons]
    cases o with
    | zero => rw [Nat.zero_mul, Nat.zero_add, List.getElem?_append_left (by simpa [formRow] using hj)]; rfl
    | succ o =>
      rw [List.getElem?_append_right (by simp [formRow]; omega), show (o + 1) * 4 + j - (formRow f).length = o * 4 + j by simp [formRow]; omega, ih o j hj]; rfl
theorem formCell (op : Nat) (h : op < 34) (j : Nat) (hj : j < 4) : formCells[op * 4 + j]? = (formRow (formF op))[j]? := by
  have h0 : ¬ ((op : Int) < 0) := by omega
  have h1 : formF (op : Int) = formsL.getD op noForm := by unfold formF; rw [if_neg h0]; rfl
  have hl : op < formsL.length := h
  rw [formCells, flat_row _ _ _ hj, h1, List.getD_eq_getElem?_getD, List.getElem?_eq_getElem hl]; rfl
theorem formF_out (op : Int) (h : op < 0 ∨ 34 ≤ op) : formF op = noForm := by
  unfold formF
  split
  · rfl
  · rw [List.getD_eq_getElem?_getD, List.getElem?_eq_none]; rfl
    have hl : formsL.length = 34 := rfl
    omega

end Go.Proofs.YtmanhikpccnfaaaGreat

/- package inst: of, has, number, small, register, place. -/
namespace Go.Proofs.YtmanhikpccnfaaaGreat
open Go.RowKit

theorem forms_one : formCells.toArray.all (·.oneCell') = true := by kernel_rfl
theorem formV_one (f : FormX) : (formRow f).toArray.all (·.oneCell') = true := by simp [formRow, Value.oneCell']

theorem zrow {w w2 : World} {cs : Array Value} {t1 : Nat} (hb : Below (w.alloc (.cells cs t1)).heap.size (w.alloc (.cells cs t1)) w2) (j : Nat) : w2.cell? ⟨w.heap.size, j, none⟩ = cs[j]? := by
  rw [hb.cell (p := ⟨w.heap.size, j, none⟩) (by simp), World.cell?_alloc_at _ _ _ _ rfl]
theorem zfree {w w2 : World} {cs : Array Value} {t1 : Nat} (hb : Below (w.alloc (.cells cs t1)).heap.size (w.alloc (.cells cs t1)) w2) (j : Nat) : w2.frozen? ⟨w.heap.size, j, none⟩ = false := by
  rw [hb.frozen (p := ⟨w.heap.size, j, none⟩) (by simp)]
  exact frozen_of_row _ _ _ _ _ (heap_alloc_new w _)

theorem zset {w w2 : World} {p q r s : Value} {t1 : Nat} (hb : Below (w.alloc (.cells #[p, q, r, s] t1)).heap.size (w.alloc (.cells #[p, q, r, s] t1)) w2) (o : Obj) (a b c d : Value) :
    (((((w2.setCell ⟨w.heap.size, 0, none⟩ a).setCell ⟨w.heap.size, 1, none⟩ b).setCell ⟨w.heap.size, 2, none⟩ c).setCell ⟨w.heap.size, 3, none⟩ d).alloc o).heap[w.heap.size]? = some (.cells #[a, b, c, d] t1 (0, 0)) ∧
    Below w.heap.size w (((((w2.setCell ⟨w.heap.size, 0, none⟩ a).setCell ⟨w.heap.size, 1, none⟩ b).setCell ⟨w.heap.size, 2, none⟩ c).setCell ⟨w.heap.size, 3, none⟩ d).alloc o) := by
  have hs := hb.size
  simp at hs
  have h0 : w2.heap[w.heap.size]? = some (.cells #[p, q, r, s] t1 (0, 0)) := (hb.block _ (by simp)).trans (heap_alloc_new w _)
  have h1 := heap_setCell_same w2 w.heap.size 0 _ t1 a h0
  have h2 := heap_setCell_same _ w.heap.size 1 _ t1 b h1
  have h3 := heap_setCell_same _ w.heap.size 2 _ t1 c h2
  have h4 := heap_setCell_same _ w.heap.size 3 _ t1 d h3
  have hz : ((((w2.setCell ⟨w.heap.size, 0, none⟩ a).setCell ⟨w.heap.size, 1, none⟩ b).setCell ⟨w.heap.size, 2, none⟩ c).setCell ⟨w.heap.size, 3, none⟩ d).heap.size = w2.heap.size := by simp [World.setCell]
  refine ⟨?_, (((((((Below.refl _ _).alloc (Nat.le_refl _) _).trans (hb.mono (by simp))).setCell (Nat.le_refl _) _).setCell (Nat.le_refl _) _).setCell (Nat.le_refl _) _).setCell (Nat.le_refl _) _).alloc (by omega) _⟩
  rw [Below.heap_alloc _ _ _ (by omega), h4]; rfl

set_option maxRecDepth 100000 in
set_option maxHeartbeats 800000 in
theorem of_form (w : World) (op : Int) : Calls Tryz.prog 60 #[.int .i64 op] w fun e w' => e = .returned (formV (formF op)) ∧ Below w.heap.size w w' := by
  obtain ⟨hz, hs⟩ := zero_of_info info34
  generalize hzc : ((List.replicate 34 (formRow noForm)).flatten.toArray) = zc at *
  have hsz : zc.size = 136 := by rw [← hzc]; rfl
  have HSZ := Lib.hid hsz
  have hcs : formCells.toArray.size = 136 := by simp [formCells]; rfl
  have HI := Lib.hid (show (Tryz.prog.info? 123).map (·.size) = some formCells.toArray.size by rw [hcs]; exact hs)
  have HCS := Lib.hid hcs
  have HF := Lib.hid (fun w => forms_any w)
  have hst := fun w => run_storeCells_new (P := Tryz.prog) w 123 zc formCells.toArray (show (Tryz.prog.info? 123).map (·.size) = some formCells.toArray.size by rw [hcs]; exact hs) (by rw [hsz, hcs]) forms_one
  have cells : ∀ (w3 : World) (g : Nat), w3.heap[g]? = some (.cells formCells.toArray 123 (0, 0)) → ∀ n j : Nat, n < 34 → j < 4 → w3.cell? ⟨g, n * 4 + j, none⟩ = (formRow (formF n))[j]? := fun w3 g h n j hn hj => by
    rw [cell_of_row w3 g _ _ _ _ h, List.getElem?_toArray, formCell n hn j hj]
  have HCE := Lib.hid cells
  clear hzc hsz hcs cells
  generalize formCells.toArray = fc at *
  by_cases h0 : op < 0 ∨ 34 ≤ op
  · have HE := Lib.hid (formF_out op h0)
    by_cases hlo : op < 0
    · have d2 : decide (op < 0) = true := by simpa using hlo
      clear h0
      go_enter Tryz.func60, Tryz.ntmps60
      go_wp2_with ((with_reducible refine (HF.out _).mono ?_); rintro e w2 ⟨rfl, hb2⟩; have hlt2 : w.heap.size < w2.heap.size := (by have := hb2.size; simp at this; omega); have z0 := zrow hb2 0; have z1 := zrow hb2 1; have z2 := zrow hb2 2; have z3 := zrow hb2 3; have y0 := zfree hb2 0; have y1 := zfree hb2 1; have y2 := zfree hb2 2; have y3 := zfree hb2 3; simp only [List.getElem?_toArray, List.getElem?_cons_zero, List.getElem?_cons_succ] at z0 z1 z2 z3; have HB2 := Lib.hid hb2; have hce := HCE.out (w2.alloc (.cells fc 123)) w2.heap.size (heap_alloc_new w2 _); have HC3 := Lib.hid hce; clear hb2 hce; skip)
      refine bodyPost_ret (results_cell_row (ty := 99) rfl _ _ w.heap.size 99 _ (0, 0) _ rfl (zset HB2.out _ _ _ _ _).1 Tryz.underlying99 rfl (by as_aux_lemma => kernel_rfl)) rfl ⟨?_, (zset HB2.out _ _ _ _ _).2⟩
      rw [HE.out]; rfl
    · have d2 : decide (op < 0) = false := by simpa using hlo
      have d3 : decide (34 ≤ op) = true := by simp; omega
      clear h0
      go_enter Tryz.func60, Tryz.ntmps60
      go_wp2_with ((with_reducible refine (HF.out _).mono ?_); rintro e w2 ⟨rfl, hb2⟩; have hlt2 : w.heap.size < w2.heap.size := (by have := hb2.size; simp at this; omega); have z0 := zrow hb2 0; have z1 := zrow hb2 1; have z2 := zrow hb2 2; have z3 := zrow hb2 3; have y0 := zfree hb2 0; have y1 := zfree hb2 1; have y2 := zfree hb2 2; have y3 := zfree hb2 3; simp only [List.getElem?_toArray, List.getElem?_cons_zero, List.getElem?_cons_succ] at z0 z1 z2 z3; have HB2 := Lib.hid hb2; have hce := HCE.out (w2.alloc (.cells fc 123)) w2.heap.size (heap_alloc_new w2 _); have HC3 := Lib.hid hce; clear hb2 hce; skip)
      refine bodyPost_ret (results_cell_row (ty := 99) rfl _ _ w.heap.size 99 _ (0, 0) _ rfl (zset HB2.out _ _ _ _ _).1 Tryz.underlying99 rfl (by as_aux_lemma => kernel_rfl)) rfl ⟨?_, (zset HB2.out _ _ _ _ _).2⟩
      rw [HE.out]; rfl
  · obtain ⟨n, rfl⟩ : ∃ n : Nat, op = n := ⟨op.toNat, by omega⟩
    have hn : n < 34 := by omega
    have i0 : (0 : Int) ≤ (n : Int) := by omega
    have i1 : (n : Int) < 34 := by omega
    have d2 : decide ((n : Int) < 0) = false := by simp
    have d3 : decide (34 ≤ (n : Int)) = false := by simp; omega
    clear h0
    go_enter Tryz.func60, Tryz.ntmps60
    go_wp2_with ((with_reducible refine (HF.out _).mono ?_); rintro e w2 ⟨rfl, hb2⟩; have hlt2 : w.heap.size < w2.heap.size := (by have := hb2.size; simp at this; omega); have z0 := zrow hb2 0; have z1 := zrow hb2 1; have z2 := zrow hb2 2; have z3 := zrow hb2 3; have y0 := zfree hb2 0; have y1 := zfree hb2 1; have y2 := zfree hb2 2; have y3 := zfree hb2 3; simp only [List.getElem?_toArray, List.getElem?_cons_zero, List.getElem?_cons_succ] at z0 z1 z2 z3; have HB2 := Lib.hid hb2; have hce := HCE.out (w2.alloc (.cells fc 123)) w2.heap.size (heap_alloc_new w2 _); have HC3 := Lib.hid hce; clear hb2 hce; have c0 := HC3.out n 0 hn (by decide); have c1 := HC3.out n 1 hn (by decide); have c2 := HC3.out n 2 hn (by decide); have c3 := HC3.out n 3 hn (by decide); simp only [formRow, List.getElem?_cons_zero, List.getElem?_cons_succ, Nat.add_zero] at c0 c1 c2 c3)
    refine bodyPost_ret (results_cell_row (ty := 99) rfl _ _ w.heap.size 99 _ (0, 0) _ rfl (zset HB2.out _ _ _ _ _).1 Tryz.underlying99 rfl (by as_aux_lemma => kernel_rfl)) rfl ⟨?_, (zset HB2.out _ _ _ _ _).2⟩
    rfl
end Go.Proofs.YtmanhikpccnfaaaGreat
