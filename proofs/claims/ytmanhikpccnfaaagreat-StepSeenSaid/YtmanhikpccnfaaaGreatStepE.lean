/- The stepper's do, operation by operation. -/
import Derived.Test.YtmanhikpccnfaaaGreatStepD
import Derived.Laws.Rows
namespace Go.Proofs.YtmanhikpccnfaaaGreat
open Go.RowKit

variable {w : World} {base b : Nat} {x : Stp} {evs : List Ev} {F : Nat → Prop} {rs : List Reg}

/-- A struct or an array is loaded, from wherever. -/
theorem exec_load {P : Program} {o : Oper} {a : Act} {w : World} (ty : TypeId) (y : Operand) (ho : o.op = .load ty y) (ad : Addr) (hx : a.eval y = .pointer (some ad)) (cs : Array Value) (d : TypeDesc)
    (hu : P.underlying ty = some d) (hd : (match d with | .struct _ | .array _ _ => true | _ => false) = true) (hi : (P.info? ty).map (·.size) = some cs.size)
    (hc : ∀ (j : Nat) (v : Value), cs.toList[j]? = some v → w.cell? (ad.add j) = some v) : (execOp a.eval o).run P w = .ok (.value (.agg cs)) w := by
  have hl : (loadCells ad cs.toList.length).run P w = .ok cs.toList.toArray w := run_loadCells_list (P := P) w ad cs.toList hc
  have hv : (loadVar ty ad).run P w = .ok (.agg cs) w := by
    cases hq : P.info? ty with
    | none => simp [hq] at hi
    | some i =>
      have hs : i.size = cs.size := by simpa [hq] using hi
      have hagg : (isAgg ty).run P w = .ok true w := by
        unfold isAgg
        rw [Sem.run_bind, run_underlying hu w]
        cases d <;> simp_all
      simp only [Array.length_toList, Array.toArray_toList] at hl
      simp [loadVar, Sem.run_bind, hagg, sizeOf, typeInfo, hq, hs, hl]
  unfold execOp
  simp only [ho, hx, Instr.loadAt, Instr.sureAddr, Sem.run_bind, Sem.run_pure, Result.andThen_ok, hv]

theorem add_plain (b o j : Nat) : Addr.add ⟨b, o, none⟩ j = ⟨b, o + j, none⟩ := by unfold Addr.add; split <;> simp_all

/-- The state in a stepper, loaded. -/
theorem Run.loadSt {w : World} (h : Run w base b x evs) {o : Oper} {a : Act} (y : Operand) (ho : o.op = .load 25 y) (hx : a.eval y = .pointer (some ⟨b, 0, none⟩)) : (execOp a.eval o).run Tryz.prog w = .ok (.value (.agg (stRow x.st).toArray)) w := by
  refine exec_load _ y ho _ hx _ _ Tryz.underlying25 rfl ?_ fun j v hv => ?_
  · have hl : (stRow x.st).toArray.size = 20 := by simp [stRow, h.ok.len]
    have hi : (Tryz.prog.info? 25).map (·.size) = some 20 := by kernel_rfl
    rw [hl]; exact hi
  · rw [add_plain, Nat.zero_add, h.get, stpRow, List.getElem?_append_left (List.getElem?_eq_some_iff.1 hv).1]; exact hv

/-- The place in a stepper, loaded. -/
theorem Run.loadMem {w : World} (h : Run w base b x evs) {o : Oper} {a : Act} (y : Operand) (ho : o.op = .load 27 y) (hx : a.eval y = .pointer (some ⟨b, 24, none⟩)) : (execOp a.eval o).run Tryz.prog w = .ok (.value (.agg #[.int .i64 x.i.base, .int .i64 x.i.index, .int .i64 x.i.scale, .int .i64 x.i.disp])) w := by
  obtain ⟨_, _, _, _, _, _, _, _, c24, c25, c26, c27, _⟩ := h.cells
  refine exec_load _ y ho _ hx _ _ Tryz.underlying27 rfl (by kernel_rfl) fun j v hv => ?_
  rw [add_plain]
  match j, hv with
  | 0, hv => cases hv; exact c24
  | 1, hv => cases hv; exact c25
  | 2, hv => cases hv; exact c26
  | 3, hv => cases hv; exact c27

/-- What the stepper holds while a region runs. -/
def Holds (base b : Nat) (x : Stp) (w_ : World) : Prop := ∃ (l' : Value) (e' : Int) (evs' : List Ev), Run w_ base b { x with l := l', e := e' } evs'
theorem Run.holds {w : World} (h : Run w base b x evs) : Holds base b x w := ⟨_, _, _, h⟩

set_option maxRecDepth 100000 in
set_option maxHeartbeats 1600000 in
theorem do5 (h : Run w base b x evs) (hop : x.i.op = 5) (D : Nat) (hD : x.i.d = D) (hDl : D < 16) :
    Calls Tryz.prog 39 #[.pointer (some ⟨b, 0, none⟩)] w fun e w' => e = .returned (.tuple #[]) ∧ Below base w w' ∧ Run w' base b { x with st := { x.st with regs := x.st.regs.set D (addrF x.st x.i) } } evs := by
  have c20 := h.cells.2.2.2.2.1
  rw [hop] at c20
  have i0 : (0 : Int) ≤ (D : Int) := by omega
  have i1 : (D : Int) < 16 := by omega
  have HD := Lib.hid hD
  have HDL := Lib.hid hDl
  obtain ⟨d, hd⟩ : ∃ d, x.st.regs[D]? = some d := ⟨_, List.getElem?_eq_getElem (by rw [h.ok.len]; exact hDl)⟩
  have HRD := Lib.hid hd
  have H := Lib.hid h
  have HA := Lib.hid (fun w_ => Address_any x.st x.i h.ok w_)
  clear h hop hD hDl hd
  go_enter Tryz.func39, Tryz.ntmps39
  go_wp2
  (refine wp_region_lines (Holds base b x) (by kernel_rfl) (by kernel_rfl) ((H.out.next ((Below.refl _ _).drew)).holds) ?_)
  (try simp only [])
  repeat (first | (refine runL_no (by rfl) ?_; (try simp only [Act.put, List.setIfInBounds_toArray, List.set_cons_zero, List.set_cons_succ])) | (refine runL_val (v := ?_) (by rfl) ?_ ?_; rotate_left; (focus (intro w_ hw_; obtain ⟨l', e', evs', hr_⟩ := hw_; have k21 := hr_.cells.2.2.2.2.2.1; rw [show ({ x with l := l', e := e' } : Stp).i.d = (D : Int) from HD.out] at k21; clear hr_; go_simp; (try with_reducible rfl); done)); (try simp only [Act.put, List.setIfInBounds_toArray, List.set_cons_zero, List.set_cons_succ])) | (refine runL_call (f := ?_) (args := ?_) (w1 := ?_) (by rfl) (by rfl) ?_ ?_; rotate_left 3; (focus (go_simp; refine ⟨⟨?_, ?_⟩, ?_⟩ <;> with_reducible rfl)); refine (HA.out _).mono ?_; rintro e w1 ⟨rfl, hb1⟩; have H1 := Lib.hid ((H.out.next ((Below.refl _ _).drew)).next hb1); have HB1 := Lib.hid (((Below.refl base w).drew).trans (hb1.mono (H.out.next ((Below.refl _ _).drew)).base_le)); have cD1 := H1.out.reg HRD.out; have fD1 := H1.out.frozen D; clear hb1; refine ⟨_, rfl, .inr H1.out.holds, ?_⟩; (try simp only [Act.put, List.setIfInBounds_toArray, List.set_cons_zero, List.set_cons_succ])) | (refine runL_val (v := .agg (stRow x.st).toArray) (by rfl) (fun w_ hw_ => by obtain ⟨l', e', evs', hr_⟩ := hw_; exact hr_.loadSt _ rfl rfl) ?_; (try simp only [Act.put, List.setIfInBounds_toArray, List.set_cons_zero, List.set_cons_succ])) | (refine runL_val (v := .agg #[.int .i64 x.i.base, .int .i64 x.i.index, .int .i64 x.i.scale, .int .i64 x.i.disp]) (by rfl) (fun w_ hw_ => by obtain ⟨l', e', evs', hr_⟩ := hw_; exact hr_.loadMem _ rfl rfl) ?_; (try simp only [Act.put, List.setIfInBounds_toArray, List.set_cons_zero, List.set_cons_succ])) | (refine runL_skip (w1 := ?_) (by rfl) (by rfl) ?_ (.inl ⟨rfl, ?_⟩) ?_; rotate_left; (focus (go_simp; (try with_reducible rfl); done)); (focus kernel_rfl); (try simp only [Act.put])))
  (refine runL_nil ?_)
  go_wp2
  go_end0
  exact ⟨rfl, HB1.out.setCell H.out.le _, H1.out.setReg HDL.out (by unfold addrF; exact Nat.mod_lt _ (by decide))⟩

set_option maxRecDepth 100000 in
set_option maxHeartbeats 1600000 in
theorem do3 (h : Run w base b x evs) (hop : x.i.op = 3) (hm : MemAt w F x.m rs) (hF : ∀ k, F k → k < base) (hf : evs.length ≤ 80) (D : Nat) (hD : x.i.d = D) (hDl : D < 16) :
    Calls Tryz.prog 39 #[.pointer (some ⟨b, 0, none⟩)] w fun e w' => e = .returned (.tuple #[]) ∧ Below base w w' ∧ ∃ v, Run w' base b { x with e := (loadVE (loadF rs (addrF x.st x.i))).2, l := v, st := { x.st with regs := x.st.regs.set D (loadVE (loadF rs (addrF x.st x.i))).1 } } (evs ++ [⟨2, addrF x.st x.i⟩]) := by
  have c20 := h.cells.2.2.2.2.1
  rw [hop] at c20
  have i0 : (0 : Int) ≤ (D : Int) := by omega
  have i1 : (D : Int) < 16 := by omega
  have HD := Lib.hid hD
  have HDL := Lib.hid hDl
  obtain ⟨d, hd⟩ : ∃ d, x.st.regs[D]? = some d := ⟨_, List.getElem?_eq_getElem (by rw [h.ok.len]; exact hDl)⟩
  have HRD := Lib.hid hd
  have H := Lib.hid h
  have HM := Lib.hid hm
  have HFB := Lib.hid hF
  have HFEW := Lib.hid (show evs.length ≤ 90 by omega)
  have HA := Lib.hid (fun w_ => Address_any x.st x.i h.ok w_)
  clear h hop hD hDl hd hm hF hf
  go_enter Tryz.func39, Tryz.ntmps39
  go_wp2
  (refine wp_region_lines (Holds base b x) (by kernel_rfl) (by kernel_rfl) ((H.out.next ((Below.refl _ _).drew)).holds) ?_)
  (try simp only [])
  repeat (first | (refine runL_no (by rfl) ?_; (try simp only [Act.put, List.setIfInBounds_toArray, List.set_cons_zero, List.set_cons_succ])) | (refine runL_val (v := ?_) (by rfl) ?_ ?_; rotate_left; (focus (intro w_ hw_; obtain ⟨l', e', evs', hr_⟩ := hw_; have k21 := hr_.cells.2.2.2.2.2.1; rw [show ({ x with l := l', e := e' } : Stp).i.d = (D : Int) from HD.out] at k21; clear hr_; go_simp; (try with_reducible rfl); done)); (try simp only [Act.put, List.setIfInBounds_toArray, List.set_cons_zero, List.set_cons_succ])) | (refine runL_call (f := ?_) (args := ?_) (w1 := ?_) (by rfl) (by rfl) ?_ ?_; rotate_left 3; (focus (go_simp; refine ⟨⟨?_, ?_⟩, ?_⟩ <;> with_reducible rfl)); refine (HA.out _).mono ?_; rintro e w1 ⟨rfl, hb1⟩; have H1 := Lib.hid ((H.out.next ((Below.refl _ _).drew)).next hb1); have HB1 := Lib.hid (((Below.refl base w).drew).trans (hb1.mono (H.out.next ((Below.refl _ _).drew)).base_le)); skip; clear hb1; refine ⟨_, rfl, .inr H1.out.holds, ?_⟩; (try simp only [Act.put, List.setIfInBounds_toArray, List.set_cons_zero, List.set_cons_succ])) | (refine runL_call (f := ?_) (args := ?_) (w1 := ?_) (by rfl) (by rfl) ?_ ?_; rotate_left 3; (focus (go_simp; refine ⟨⟨?_, ?_⟩, ?_⟩ <;> with_reducible rfl)); refine (load_any H1.out (HM.out.keep (SameOn.of_below HB1.out HFB.out)) HFB.out (addrF x.st x.i) (by unfold addrF; exact Nat.mod_lt _ (by decide)) HFEW.out).mono ?_; rintro e w2 ⟨rfl, hb2, v2, hr2⟩; have H2 := Lib.hid hr2; have HB2 := Lib.hid (HB1.out.trans hb2); have cD2 := H2.out.reg (k := D) (r := d) HRD.out; have fD2 := H2.out.frozen D; clear hb2 hr2; refine ⟨_, rfl, .inr ⟨_, _, _, H2.out⟩, ?_⟩; (try simp only [Act.put, List.setIfInBounds_toArray, List.set_cons_zero, List.set_cons_succ])) | (refine runL_val (v := .agg (stRow x.st).toArray) (by rfl) (fun w_ hw_ => by obtain ⟨l', e', evs', hr_⟩ := hw_; exact hr_.loadSt _ rfl rfl) ?_; (try simp only [Act.put, List.setIfInBounds_toArray, List.set_cons_zero, List.set_cons_succ])) | (refine runL_val (v := .agg #[.int .i64 x.i.base, .int .i64 x.i.index, .int .i64 x.i.scale, .int .i64 x.i.disp]) (by rfl) (fun w_ hw_ => by obtain ⟨l', e', evs', hr_⟩ := hw_; exact hr_.loadMem _ rfl rfl) ?_; (try simp only [Act.put, List.setIfInBounds_toArray, List.set_cons_zero, List.set_cons_succ])) | (refine runL_skip (w1 := ?_) (by rfl) (by rfl) ?_ (.inl ⟨rfl, ?_⟩) ?_; rotate_left; (focus (go_simp; (try with_reducible rfl); done)); (focus kernel_rfl); (try simp only [Act.put])))
  (refine runL_nil ?_)
  go_wp2
  go_end0
  exact ⟨rfl, HB2.out.setCell H.out.le _, v2, H2.out.setReg HDL.out loadF_lt⟩

set_option maxRecDepth 100000 in
set_option maxHeartbeats 1600000 in
theorem do4 (h : Run w base b x evs) (hop : x.i.op = 4) (hm : MemAt w F x.m rs) (hF : ∀ k, F k → k < base) (hf : evs.length ≤ 80) (S : Nat) (hS : x.i.s = S) (hSl : S < 16) (v : Nat) (hv : x.st.regs[S]? = some v) :
    Calls Tryz.prog 39 #[.pointer (some ⟨b, 0, none⟩)] w fun e w' => ∃ g rs2 vl, e = .returned (.tuple #[]) ∧ StoreSays rs (addrF x.st x.i) v g rs2 ∧ MemAt w' F x.m rs2 ∧ Chg (Over F base) w w' ∧ Run w' base b { x with e := g, l := vl } (evs ++ [⟨3, addrF x.st x.i⟩]) := by
  have c20 := h.cells.2.2.2.2.1
  rw [hop] at c20
  have j0 : (0 : Int) ≤ (S : Int) := by omega
  have j1 : (S : Int) < 16 := by omega
  have HSS := Lib.hid hS
  have HRS := Lib.hid hv
  have HV := Lib.hid (h.ok.regs _ (List.mem_of_getElem? hv))
  have H := Lib.hid h
  have HM := Lib.hid hm
  have HFB := Lib.hid hF
  have HFEW := Lib.hid (show evs.length ≤ 90 by omega)
  have HA := Lib.hid (fun w_ => Address_any x.st x.i h.ok w_)
  clear h hop hS hSl hv hm hF hf
  go_enter Tryz.func39, Tryz.ntmps39
  go_wp2
  (refine wp_region_lines (Holds base b x) (by kernel_rfl) (by kernel_rfl) ((H.out.next ((Below.refl _ _).drew)).holds) ?_)
  (try simp only [])
  repeat (first | (refine runL_no (by rfl) ?_; (try simp only [Act.put, List.setIfInBounds_toArray, List.set_cons_zero, List.set_cons_succ])) | (refine runL_val (v := ?_) (by rfl) ?_ ?_; rotate_left; (focus (intro w_ hw_; obtain ⟨l', e', evs', hr_⟩ := hw_; have k22 := hr_.cells.2.2.2.2.2.2.1; rw [show ({ x with l := l', e := e' } : Stp).i.s = (S : Int) from HSS.out] at k22; have kS := hr_.reg (k := S) (r := v) HRS.out; clear hr_; go_simp; (try with_reducible rfl); done)); (try simp only [Act.put, List.setIfInBounds_toArray, List.set_cons_zero, List.set_cons_succ])) | (refine runL_call (f := ?_) (args := ?_) (w1 := ?_) (by rfl) (by rfl) ?_ ?_; rotate_left 3; (focus (go_simp; refine ⟨⟨?_, ?_⟩, ?_⟩ <;> with_reducible rfl)); refine (HA.out _).mono ?_; rintro e w1 ⟨rfl, hb1⟩; have H1 := Lib.hid ((H.out.next ((Below.refl _ _).drew)).next hb1); have HB1 := Lib.hid (((Below.refl base w).drew).trans (hb1.mono (H.out.next ((Below.refl _ _).drew)).base_le)); skip; clear hb1; refine ⟨_, rfl, .inr H1.out.holds, ?_⟩; (try simp only [Act.put, List.setIfInBounds_toArray, List.set_cons_zero, List.set_cons_succ])) | (refine runL_call (f := ?_) (args := ?_) (w1 := ?_) (by rfl) (by rfl) ?_ ?_; rotate_left 3; (focus (go_simp; refine ⟨⟨?_, ?_⟩, ?_⟩ <;> with_reducible rfl)); refine (store_any H1.out (HM.out.keep (SameOn.of_below HB1.out HFB.out)) HFB.out (addrF x.st x.i) v (by unfold addrF; exact Nat.mod_lt _ (by decide)) HV.out HFEW.out).mono ?_; rintro e w2 ⟨g2, rs2, v2, rfl, hsay, hm2, hc2, hr2⟩; have H2 := Lib.hid hr2; have HC2 := Lib.hid ((Over.below (F := F) HB1.out).trans hc2); have HX2 := Lib.hid (And.intro hsay hm2); clear hsay hm2 hc2 hr2; refine ⟨_, rfl, .inl ⟨rfl, ?_⟩, ?_⟩; (focus kernel_rfl); (try simp only [Act.put, List.setIfInBounds_toArray, List.set_cons_zero, List.set_cons_succ])) | (refine runL_val (v := .agg (stRow x.st).toArray) (by rfl) (fun w_ hw_ => by obtain ⟨l', e', evs', hr_⟩ := hw_; exact hr_.loadSt _ rfl rfl) ?_; (try simp only [Act.put, List.setIfInBounds_toArray, List.set_cons_zero, List.set_cons_succ])) | (refine runL_val (v := .agg #[.int .i64 x.i.base, .int .i64 x.i.index, .int .i64 x.i.scale, .int .i64 x.i.disp]) (by rfl) (fun w_ hw_ => by obtain ⟨l', e', evs', hr_⟩ := hw_; exact hr_.loadMem _ rfl rfl) ?_; (try simp only [Act.put, List.setIfInBounds_toArray, List.set_cons_zero, List.set_cons_succ])))
  (refine runL_nil ?_)
  go_wp2
  go_end0
  exact ⟨g2, rs2, v2, rfl, HX2.out.1, HX2.out.2, HC2.out, H2.out⟩

set_option maxRecDepth 100000 in
set_option maxHeartbeats 1600000 in
theorem do30 (h : Run w base b x evs) (hop : x.i.op = 30) (hf : evs.length ≤ 80) :
    Calls Tryz.prog 39 #[.pointer (some ⟨b, 0, none⟩)] w fun e w' => e = .returned (.tuple #[]) ∧ Below base w w' ∧ ∃ v, Run w' base b { x with l := v, st := jumpS x.st true x.i.imm } (evs ++ [⟨4, (jumpS x.st true x.i.imm).pc⟩]) := by
  have c20 := h.cells.2.2.2.2.1
  rw [hop] at c20
  have HJ := Lib.hid (jump_any h true (by omega))
  have c19 := h.cells.2.2.2.1
  have c17 := h.cells.2.1
  clear h hop
  go_enter Tryz.func39, Tryz.ntmps39
  go_wp2_with fail
  refine HJ.out.mono ?_
  rintro e w1 ⟨rfl, hb1, v, hr1⟩
  have HR := Lib.hid (And.intro hb1 hr1)
  clear hb1 hr1
  go_wp2
  go_end0
  exact ⟨rfl, HR.out.1, v, HR.out.2⟩

set_option maxRecDepth 100000 in
set_option maxHeartbeats 1600000 in
theorem do31 (h : Run w base b x evs) (hop : x.i.op = 31) (hf : evs.length ≤ 80) :
    Calls Tryz.prog 39 #[.pointer (some ⟨b, 0, none⟩)] w fun e w' => e = .returned (.tuple #[]) ∧ Below base w w' ∧ ∃ v, Run w' base b { x with l := v, st := jumpS x.st (!x.st.zf) x.i.imm } (evs ++ [⟨4, (jumpS x.st (!x.st.zf) x.i.imm).pc⟩]) := by
  have c20 := h.cells.2.2.2.2.1
  rw [hop] at c20
  have HJ := Lib.hid (jump_any h (!x.st.zf) (by omega))
  have c19 := h.cells.2.2.2.1
  have c17 := h.cells.2.1
  clear h hop
  go_enter Tryz.func39, Tryz.ntmps39
  go_wp2_with fail
  refine HJ.out.mono ?_
  rintro e w1 ⟨rfl, hb1, v, hr1⟩
  have HR := Lib.hid (And.intro hb1 hr1)
  clear hb1 hr1
  go_wp2
  go_end0
  exact ⟨rfl, HR.out.1, v, HR.out.2⟩

set_option maxRecDepth 100000 in
set_option maxHeartbeats 1600000 in
theorem do32 (h : Run w base b x evs) (hop : x.i.op = 32) (hf : evs.length ≤ 80) :
    Calls Tryz.prog 39 #[.pointer (some ⟨b, 0, none⟩)] w fun e w' => e = .returned (.tuple #[]) ∧ Below base w w' ∧ ∃ v, Run w' base b { x with l := v, st := jumpS x.st x.st.cf x.i.imm } (evs ++ [⟨4, (jumpS x.st x.st.cf x.i.imm).pc⟩]) := by
  have c20 := h.cells.2.2.2.2.1
  rw [hop] at c20
  have HJ := Lib.hid (jump_any h x.st.cf (by omega))
  have c19 := h.cells.2.2.2.1
  have c17 := h.cells.2.1
  clear h hop
  go_enter Tryz.func39, Tryz.ntmps39
  go_wp2_with fail
  refine HJ.out.mono ?_
  rintro e w1 ⟨rfl, hb1, v, hr1⟩
  have HR := Lib.hid (And.intro hb1 hr1)
  clear hb1 hr1
  go_wp2
  go_end0
  exact ⟨rfl, HR.out.1, v, HR.out.2⟩

set_option maxRecDepth 100000 in
set_option maxHeartbeats 1600000 in
theorem do29 (h : Run w base b x evs) (hop : x.i.op = 29) (hm : MemAt w F x.m rs) (hF : ∀ k, F k → k < base) (hf : evs.length ≤ 80) (D : Nat) (hD : x.i.d = D) (hDl : D < 16) (sp : Nat) (hsp : x.st.regs[4]? = some sp) :
    Calls Tryz.prog 39 #[.pointer (some ⟨b, 0, none⟩)] w fun e w' => e = .returned (.tuple #[]) ∧ Below base w w' ∧ ∃ v, Run w' base b { x with e := (loadVE (loadF rs sp)).2, l := v, st := { x.st with regs := (x.st.regs.set 4 ((sp + 8) % 18446744073709551616)).set D (loadVE (loadF rs sp)).1 } } (evs ++ [⟨2, sp⟩]) := by
  have c20 := h.cells.2.2.2.2.1
  rw [hop] at c20
  have i0 : (0 : Int) ≤ (D : Int) := by omega
  have i1 : (D : Int) < 16 := by omega
  have HD := Lib.hid hD
  have HDL := Lib.hid hDl
  have H := Lib.hid h
  have HP := Lib.hid (pop_any (h.next ((Below.refl _ _).drew)) (hm.keep (SameOn.of_below (Below.refl base w).drew hF)) hF sp hsp (by omega))
  have hk21 : w.cell? ⟨b, 21, none⟩ = some (.int .i64 D) := by rw [← hD]; exact h.cells.2.2.2.2.2.1
  have HK := Lib.hid hk21
  clear h hop hD hDl hm hF hf hk21 hsp
  go_enter Tryz.func39, Tryz.ntmps39
  go_wp2
  (refine wp_region_lines (fun w_ => w_.cell? ⟨b, 21, none⟩ = some (.int .i64 D)) (by kernel_rfl) (by kernel_rfl) HK.out ?_)
  (try simp only [])
  repeat (first | (refine runL_no (by rfl) ?_; (try simp only [Act.put, List.setIfInBounds_toArray, List.set_cons_zero, List.set_cons_succ])) | (refine runL_val (v := ?_) (by rfl) ?_ ?_; rotate_left; (focus (intro w_ hw_; have k21 := hw_; go_simp; (try with_reducible rfl); done)); (try simp only [Act.put, List.setIfInBounds_toArray, List.set_cons_zero, List.set_cons_succ])) | (refine runL_call (f := ?_) (args := ?_) (w1 := ?_) (by rfl) (by rfl) ?_ ?_; rotate_left 3; (focus (go_simp; refine ⟨⟨?_, ?_⟩, ?_⟩ <;> with_reducible rfl)); refine HP.out.mono ?_; rintro e w1 ⟨rfl, hb1, v, hr1⟩; have HR := Lib.hid hr1; have HB := Lib.hid (((Below.refl base w).drew).trans hb1); obtain ⟨dd, hdd⟩ : ∃ dd, (x.st.regs.set 4 ((sp + 8) % 18446744073709551616))[D]? = some dd := ⟨_, List.getElem?_eq_getElem (by have := hr1.ok.len; have h2 := HDL.out; simp at this ⊢; omega)⟩; have cD1 := hr1.reg (k := D) (r := dd) hdd; have fD1 := hr1.frozen D; have k21' : w1.cell? ⟨b, 21, none⟩ = some (.int .i64 D) := by { rw [← HD.out]; exact hr1.cells.2.2.2.2.2.1 }; clear hb1 hr1 hdd; refine ⟨_, rfl, .inr k21', ?_⟩; (try simp only [Act.put, List.setIfInBounds_toArray, List.set_cons_zero, List.set_cons_succ])) | (refine runL_skip (w1 := ?_) (by rfl) (by rfl) ?_ (.inl ⟨rfl, ?_⟩) ?_; rotate_left; (focus (go_simp; (try with_reducible rfl); done)); (focus kernel_rfl); (try simp only [Act.put])))
  (refine runL_nil ?_)
  go_wp2
  go_end0
  exact ⟨rfl, HB.out.setCell H.out.le _, v, HR.out.setReg HDL.out loadF_lt⟩
end Go.Proofs.YtmanhikpccnfaaaGreat
