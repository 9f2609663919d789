/- Address; the stepper's pop and jump. -/
import Derived.Test.YtmanhikpccnfaaaGreatStepC
import Derived.Test.YtmanhikpccnfaaaGreatRegion
import Derived.Deep.DeepCutAuto
import Derived.Outline
namespace Go.Proofs.YtmanhikpccnfaaaGreat
open Go.RowKit

variable {w : World} {base b : Nat} {x : Stp} {evs : List Ev} {F : Nat → Prop} {rs : List Reg}

theorem wrap_u64 (z : Int) : IntKind.u64.wrap z = ((u64 z : Nat) : Int) := by
  rw [wrapU']; unfold u64; omega
theorem u64_lt (z : Int) : u64 z < 18446744073709551616 := by unfold u64; omega

theorem Calls.below {k : Nat} {args : Array Value} {w : World} {v : Value} (h : Calls Tryz.prog k args w fun e w' => e = .returned v ∧ w = w') : Calls Tryz.prog k args w fun e w' => e = .returned v ∧ Below w.heap.size w w' :=
  h.mono fun _ _ ⟨h1, h2⟩ => ⟨h1, by rw [← h2]; exact Below.refl _ _⟩

/-- A state in a block of its own. -/
def StAt (w : World) (g : Nat) (s : St) : Prop := w.heap[g]? = some (.cells (stRow s).toArray 25 (0, 0)) ∧ StOk s
theorem StAt.reg {g : Nat} {s : St} (h : StAt w g s) {k r : Nat} (hr : s.regs[k]? = some r) : w.cell? ⟨g, k, none⟩ = some (.int .u64 r) := by
  have hk := (List.getElem?_eq_some_iff.1 hr).1
  simp only [World.cell?, h.1, List.getElem?_toArray]
  rw [stRow, List.getElem?_append_left (by simpa using hk), List.getElem?_map, hr]; rfl

set_option maxHeartbeats 400000 in
theorem of_any (w : World) (g : Nat) (s : St) (h : StAt w g s) (r : Int) :
    Calls Tryz.prog 48 #[.int .i64 r, .pointer (some ⟨g, 0, none⟩)] w fun e w' => e = .returned (.int .u64 (regF s r)) ∧ w = w' := by
  by_cases h0 : r < 0
  · have e1 : regF s r = 0 := by simp [regF, ugly, h0]
    have d1 : decide (r < 0) = true := by simpa using h0
    rw [e1]
    clear h h0 e1
    go_enter Tryz.func48, Tryz.ntmps48
    go_wp2
    go_ret
    exact ⟨rfl, rfl⟩
  · have d1 : decide (r < 0) = false := by simpa using h0
    by_cases h1 : 16 ≤ r
    · have e1 : regF s r = 0 := by simp [regF, ugly]; omega
      have d2 : decide (16 ≤ r) = true := by simpa using h1
      rw [e1]
      clear h h0 h1 e1
      go_enter Tryz.func48, Tryz.ntmps48
      go_wp2
      go_ret
      exact ⟨rfl, rfl⟩
    · have d2 : decide (16 ≤ r) = false := by simpa using h1
      obtain ⟨k, rfl⟩ : ∃ k : Nat, r = k := ⟨r.toNat, by omega⟩
      obtain ⟨v, hv⟩ : ∃ v, s.regs[k]? = some v := ⟨_, List.getElem?_eq_getElem (by rw [h.2.len]; omega)⟩
      have e1 : regF s k = v := by
        have : ugly (k : Int) = false := by simp [ugly]; omega
        simp [regF, this, hv]
      have c := h.reg hv
      have i0 : (0 : Int) ≤ (k : Int) := by omega
      have i1 : (k : Int) < 16 := by omega
      rw [e1]
      clear h h0 h1 e1 hv
      go_enter Tryz.func48, Tryz.ntmps48
      go_wp2
      go_ret
      exact ⟨rfl, rfl⟩

theorem stAt_new (w : World) (s : St) (h : StOk s) : StAt (w.alloc (.cells (stRow s).toArray 25)) w.heap.size s := ⟨heap_alloc_new w _, h⟩

theorem regF_lt {s : St} (h : StOk s) (r : Int) : regF s r < 18446744073709551616 := by
  unfold regF
  split
  · decide
  · rcases Nat.lt_or_ge r.toNat s.regs.length with hl | hl
    · rw [List.getD_eq_getElem?_getD, List.getElem?_eq_getElem hl]; exact h.regs _ (List.getElem_mem hl)
    · rw [List.getD_eq_getElem?_getD, List.getElem?_eq_none hl]; decide

set_option maxRecDepth 100000 in
set_option maxHeartbeats 800000 in
theorem Address_any (s : St) (i : Ins) (h : StOk s) (w : World) :
    Calls Tryz.prog 23 #[.agg (stRow s).toArray, .agg #[.int .i64 i.base, .int .i64 i.index, .int .i64 i.scale, .int .i64 i.disp]] w fun e w' => e = .returned (.int .u64 (addrF s i)) ∧ Below w.heap.size w w' := by
  have hmf : ∀ (fn : Fn) (first cap : Array Value) (w : World), (Instr.makeFunc fn first cap).run Tryz.prog w = .ok (.func fn first cap) w := fun _ _ _ _ => rfl
  obtain ⟨W1, hW1, hb1, hs1, _, _⟩ := boxed w (stRow s).toArray 25
  have hst : StAt W1 w.heap.size s := by rw [hW1]; exact stAt_new w s h
  obtain ⟨W2, hW2, hb2, hs2, hn2, _⟩ := boxed W1 #[.int .i64 i.base, .int .i64 i.index, .int .i64 i.scale, .int .i64 i.disp] 27
  have n0 := hn2 0
  have n1 := hn2 1
  have n2 := hn2 2
  have n3 := hn2 3
  have m0 : W1.heap.size < W2.heap.size := by omega
  have hst2 : StAt W2 w.heap.size s := ⟨(hb2.block _ (by omega)).trans hst.1, hst.2⟩
  have HST := Lib.hid hst2
  have HB := Lib.hid (hb1.trans (hb2.mono (by omega)))
  have HLT := Lib.hid (show w.heap.size < W2.heap.size by omega)
  generalize hcs : (stRow s).toArray = cs at *
  have HW1 := Lib.hid hW1
  have HW2 := Lib.hid hW2
  have HS1 := Lib.hid hs1
  have a1 := regF_lt h i.base
  have a2 := regF_lt h i.index
  have u1 := wrap_u64 i.scale
  have u2 := wrap_u64 i.disp
  have e1 : IntKind.u64.wrap ((regF s i.index : Int) * (u64 i.scale : Int)) = ((regF s i.index * u64 i.scale % 18446744073709551616 : Nat) : Int) := by rw [wrapU']; simp
  generalize hq1 : regF s i.index * u64 i.scale % 18446744073709551616 = q1 at *
  have e2 : IntKind.u64.wrap ((regF s i.base : Int) + (q1 : Int)) = (((regF s i.base + q1) % 18446744073709551616 : Nat) : Int) := by rw [wrapU']; omega
  generalize hq2 : (regF s i.base + q1) % 18446744073709551616 = q2 at *
  have e3 : IntKind.u64.wrap ((q2 : Int) + (u64 i.disp : Int)) = ((addrF s i : Nat) : Int) := by
    rw [wrapU']; unfold addrF
    have h1 := Nat.add_mod (regF s i.base + regF s i.index * u64 i.scale) (u64 i.disp) 18446744073709551616
    have h2 := Nat.add_mod (regF s i.base) (regF s i.index * u64 i.scale) 18446744073709551616
    omega
  generalize hq3 : addrF s i = q3 at *
  have HB1 := Lib.hid (fun w' (hw : Below W2.heap.size W2 w') => (of_any w' w.heap.size s ⟨(hw.block _ HLT.out).trans HST.out.1, HST.out.2⟩ i.base) |> Calls.below)
  have HB2 := Lib.hid (fun w' (hw : Below W2.heap.size W2 w') => (of_any w' w.heap.size s ⟨(hw.block _ HLT.out).trans HST.out.1, HST.out.2⟩ i.index) |> Calls.below)
  generalize hr1 : regF s i.base = r1 at *
  generalize hr2 : regF s i.index = r2 at *
  generalize u64 i.scale = us at *
  generalize u64 i.disp = ud at *
  clear hq1 hq2 hq3 hW1 hW2 hs1 hs2 hn2 hb1 hb2 hst hst2 hcs hr1 hr2 h
  go_enter Tryz.func23, Tryz.ntmps23
  go_wp2
  rw [← HW1.out, ← HS1.out, ← HW2.out]
  (refine wp_region_lines (Below W2.heap.size W2) (by kernel_rfl) (by kernel_rfl) (Below.refl _ _).drew ?_)
  have hS := (Below.refl W2.heap.size W2).drew
  (try simp only [])
  repeat (first | (refine runL_no (by rfl) ?_; (try simp only [Act.put, List.setIfInBounds_toArray, List.set_cons_zero, List.set_cons_succ])) | (refine runL_val (v := ?_) (by rfl) ?_ ?_; rotate_left; (focus (intro w_ hw_; have hc_ := bcell hw_; go_simp; (try with_reducible rfl); done)); (try simp only [Act.put, List.setIfInBounds_toArray, List.set_cons_zero, List.set_cons_succ])) | (refine runL_call (f := ?_) (args := ?_) (w1 := ?_) (by rfl) (by rfl) ?_ ?_; rotate_left 3; (focus (go_simp; refine ⟨⟨?_, ?_⟩, ?_⟩ <;> with_reducible rfl)); with_reducible refine (HB1.out _ hS).mono ?_; rintro e w1 ⟨rfl, hb1⟩; replace hS := hS.trans (hb1.mono hS.size); refine ⟨_, rfl, .inr hS, ?_⟩; clear hb1; (try simp only [Act.put, List.setIfInBounds_toArray, List.set_cons_zero, List.set_cons_succ])) | (refine runL_call (f := ?_) (args := ?_) (w1 := ?_) (by rfl) (by rfl) ?_ ?_; rotate_left 3; (focus (go_simp; refine ⟨⟨?_, ?_⟩, ?_⟩ <;> with_reducible rfl)); with_reducible refine (HB2.out _ hS).mono ?_; rintro e w1 ⟨rfl, hb1⟩; replace hS := hS.trans (hb1.mono hS.size); refine ⟨_, rfl, .inr hS, ?_⟩; clear hb1; (try simp only [Act.put, List.setIfInBounds_toArray, List.set_cons_zero, List.set_cons_succ])))
  (refine runL_nil ?_)
  go_wp2
  go_ret
  exact ⟨rfl, HB.out.trans (hS.mono (Nat.le_of_lt HLT.out))⟩

theorem Run.sp {w : World} {base b : Nat} {x : Stp} {evs : List Ev} (h : Run w base b x evs) : ∃ r, x.st.regs[4]? = some r ∧ r < 18446744073709551616 := by
  have hl : 4 < x.st.regs.length := by rw [h.ok.len]; decide
  exact ⟨_, List.getElem?_eq_getElem hl, h.ok.regs _ (List.getElem_mem hl)⟩

set_option maxRecDepth 100000 in
set_option maxHeartbeats 800000 in
theorem pop_any (h : Run w base b x evs) (hm : MemAt w F x.m rs) (hF : ∀ k, F k → k < base) (sp : Nat) (hsp : x.st.regs[4]? = some sp) (hf : evs.length ≤ 90) :
    Calls Tryz.prog 70 #[.pointer (some ⟨b, 0, none⟩)] w fun e w' => e = .returned (.int .u64 ((loadVE (loadF rs sp)).1 : Nat)) ∧ Below base w w' ∧
      ∃ v, Run w' base b { x with e := (loadVE (loadF rs sp)).2, l := v, st := { x.st with regs := x.st.regs.set 4 ((sp + 8) % 18446744073709551616) } } (evs ++ [⟨2, sp⟩]) := by
  have hs64 : sp < 18446744073709551616 := h.ok.regs _ (List.mem_of_getElem? hsp)
  have HL := Lib.hid (load_any h hm hF sp hs64 hf)
  have c4 := h.reg hsp
  have HSP := Lib.hid hsp
  have w8 : IntKind.u64.wrap ((sp : Int) + 8) = (((sp + 8) % 18446744073709551616 : Nat) : Int) := by rw [wrapU']; omega
  have hlt : (sp + 8) % 18446744073709551616 < 18446744073709551616 := Nat.mod_lt _ (by decide)
  generalize (sp + 8) % 18446744073709551616 = q at *
  have HLT := Lib.hid hlt
  clear h hm hF hf hsp hlt hs64
  go_enter Tryz.func70, Tryz.ntmps70
  go_wp2_with fail
  refine HL.out.mono ?_
  rintro e w1 ⟨rfl, hb1, v, hr1⟩
  have c4' := hr1.reg HSP.out
  have f4 := hr1.frozen 4
  have HR := Lib.hid hr1
  have HB := Lib.hid hb1
  clear hb1 hr1 c4
  go_wp2
  go_region
  go_wp2
  go_ret
  exact ⟨rfl, (HB.out.setCell HR.out.le _).drew, v, (HR.out.setReg (k := 4) (by decide) HLT.out).next ((Below.refl _ _).drew)⟩

/-- A jump, if it is so. -/
def jumpS (s : St) (is : Bool) (imm : Int) : St := if is then { s with pc := (s.pc + u64 imm) % 18446744073709551616 } else s

set_option maxRecDepth 100000 in
set_option maxHeartbeats 800000 in
theorem jump_any (h : Run w base b x evs) (is : Bool) (hf : evs.length ≤ 90) :
    Calls Tryz.prog 71 #[.pointer (some ⟨b, 0, none⟩), .bool is] w fun e w' => e = .returned (.tuple #[]) ∧ Below base w w' ∧ ∃ v, Run w' base b { x with l := v, st := jumpS x.st is x.i.imm } (evs ++ [⟨4, (jumpS x.st is x.i.imm).pc⟩]) := by
  have HFEW := Lib.hid hf
  obtain ⟨c16, _, _, _, _, _, _, _, _, _, _, _, c28, _, _, _⟩ := h.cells
  cases is with
  | false =>
    have HS := Lib.hid (see_any h 4 x.st.pc hf)
    clear h hf c28
    go_enter Tryz.func71, Tryz.ntmps71
    go_wp2_with fail
    refine HS.out.mono ?_
    rintro e w1 ⟨rfl, hb1, v, hr1⟩
    have HR := Lib.hid hr1
    have HB := Lib.hid hb1
    clear hb1 hr1
    go_wp2
    go_end0
    exact ⟨rfl, HB.out, v, HR.out⟩
  | true =>
    have u1 := wrap_u64 x.i.imm
    have w1 : IntKind.u64.wrap ((x.st.pc : Int) + (u64 x.i.imm : Int)) = (((x.st.pc + u64 x.i.imm) % 18446744073709551616 : Nat) : Int) := by rw [wrapU']; omega
    have hlt : (x.st.pc + u64 x.i.imm) % 18446744073709551616 < 18446744073709551616 := Nat.mod_lt _ (by decide)
    have hj : jumpS x.st true x.i.imm = { x.st with pc := (x.st.pc + u64 x.i.imm) % 18446744073709551616 } := rfl
    rw [hj]
    generalize (x.st.pc + u64 x.i.imm) % 18446744073709551616 = q at *
    have HR := Lib.hid ((h.setPc hlt).next ((Below.refl _ _).drew))
    have f16 := h.frozen 16
    have HLE := Lib.hid h.le
    clear h hf hlt hj
    go_enter Tryz.func71, Tryz.ntmps71
    go_wp2
    go_region
    go_wp2_with fail
    refine (see_any HR.out 4 q HFEW.out).mono ?_
    rintro e w2 ⟨rfl, hb1, v, hr1⟩
    have HR2 := Lib.hid hr1
    have HB := Lib.hid ((((Below.refl _ _).setCell HLE.out _).drew).trans hb1)
    clear hb1 hr1
    go_wp2
    go_end0
    exact ⟨rfl, HB.out, v, HR2.out⟩
end Go.Proofs.YtmanhikpccnfaaaGreat
