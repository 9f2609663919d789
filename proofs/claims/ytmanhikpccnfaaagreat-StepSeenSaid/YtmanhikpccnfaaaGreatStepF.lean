/- The stepper's do: push, ret. -/
import Derived.Test.YtmanhikpccnfaaaGreatStepE
import Derived.Deep.RegionWith
namespace Go.Proofs.YtmanhikpccnfaaaGreat
open Go.RowKit

variable {w : World} {base b : Nat} {x : Stp} {evs : List Ev} {F : Nat → Prop} {rs : List Reg}

set_option maxRecDepth 100000 in
set_option maxHeartbeats 1600000 in
theorem do33 (h : Run w base b x evs) (hop : x.i.op = 33) (hm : MemAt w F x.m rs) (hF : ∀ k, F k → k < base) (hf : evs.length ≤ 80) (sp : Nat) (hsp : x.st.regs[4]? = some sp) :
    Calls Tryz.prog 39 #[.pointer (some ⟨b, 0, none⟩)] w fun e w' => e = .returned (.tuple #[]) ∧ Below base w w' ∧ ∃ v, Run w' base b { x with e := (loadVE (loadF rs sp)).2, l := v, st := { x.st with regs := x.st.regs.set 4 ((sp + 8) % 18446744073709551616), pc := (loadVE (loadF rs sp)).1 } } (evs ++ [⟨2, sp⟩] ++ [⟨4, (loadVE (loadF rs sp)).1⟩]) := by
  have c20 := h.cells.2.2.2.2.1
  rw [hop] at c20
  have HP := Lib.hid (pop_any h hm hF sp hsp (by omega))
  have HLE := Lib.hid h.le
  have HFEW := Lib.hid hf
  clear h hop hm hF hf hsp
  go_enter Tryz.func39, Tryz.ntmps39
  go_wp2_with fail
  refine HP.out.mono ?_
  rintro e w1 ⟨rfl, hb1, v, hr1⟩
  have c16 := hr1.cells.1
  have f16 := hr1.frozen 16
  have HR := Lib.hid hr1
  have HB := Lib.hid hb1
  clear hb1 hr1 c20
  go_wp2_with fail
  refine (see_any (HR.out.setPc loadF_lt) 4 (loadVE (loadF rs sp)).1 (by have := HFEW.out; simp; omega)).mono ?_
  rintro e w2 ⟨rfl, hb2, v2, hr2⟩
  have HR2 := Lib.hid hr2
  have HB2 := Lib.hid ((HB.out.setCell HLE.out _).trans hb2)
  clear hb2 hr2 c16 f16
  go_wp2
  go_end0
  exact ⟨rfl, HB2.out, v2, HR2.out⟩

set_option maxRecDepth 100000 in
set_option maxHeartbeats 1600000 in
theorem do28 (h : Run w base b x evs) (hop : x.i.op = 28) (hm : MemAt w F x.m rs) (hF : ∀ k, F k → k < base) (hf : evs.length ≤ 80) (S : Nat) (hS : x.i.s = S) (hSl : S < 16) (v : Nat) (hv : x.st.regs[S]? = some v) (sp : Nat) (hsp : x.st.regs[4]? = some sp) :
    Calls Tryz.prog 39 #[.pointer (some ⟨b, 0, none⟩)] w fun e w' => ∃ g rs2 vl, e = .returned (.tuple #[]) ∧ StoreSays rs ((18446744073709551616 + sp - 8) % 18446744073709551616) v g rs2 ∧ MemAt w' F x.m rs2 ∧ Chg (Over F base) w w' ∧
      Run w' base b { x with e := g, l := vl, st := { x.st with regs := x.st.regs.set 4 ((18446744073709551616 + sp - 8) % 18446744073709551616) } } (evs ++ [⟨3, (18446744073709551616 + sp - 8) % 18446744073709551616⟩]) := by
  have c20 := h.cells.2.2.2.2.1
  have c22 := h.cells.2.2.2.2.2.2.1
  rw [hop] at c20
  rw [hS] at c22
  have cS := h.reg hv
  have c4 := h.reg hsp
  have f4 := h.frozen 4
  have j0 : (0 : Int) ≤ (S : Int) := by omega
  have j1 : (S : Int) < 16 := by omega
  have hs64 : sp < 18446744073709551616 := h.ok.regs _ (List.mem_of_getElem? hsp)
  have HV := Lib.hid (h.ok.regs _ (List.mem_of_getElem? hv))
  have w8 : IntKind.u64.wrap ((sp : Int) - 8) = (((18446744073709551616 + sp - 8) % 18446744073709551616 : Nat) : Int) := by rw [wrapU']; omega
  have hlt : (18446744073709551616 + sp - 8) % 18446744073709551616 < 18446744073709551616 := Nat.mod_lt _ (by decide)
  generalize (18446744073709551616 + sp - 8) % 18446744073709551616 = q at *
  have hle := h.le
  have h1 := ((h.next ((Below.refl _ _).drew)).setReg (k := 4) (by decide) hlt).next ((Below.refl _ _).drew)
  have h2 : Below base w ((w.drew.setCell ⟨b, 4, none⟩ (.int .u64 q)).drew) := (((Below.refl base w).drew).setCell hle _).drew
  have HR := Lib.hid h1
  have HM := Lib.hid (hm.keep (SameOn.of_below h2 hF))
  have HB := Lib.hid h2
  have HF := Lib.hid hF
  have HFEW := Lib.hid (show evs.length ≤ 90 by omega)
  have HQ := Lib.hid hlt
  clear h hop hS hSl hv hsp hm hF hf h1 h2 hle hs64 hlt
  go_enter Tryz.func39, Tryz.ntmps39
  go_wp2
  go_region
  go_wp2
  go_region
  go_wp2_with fail
  refine (store_any HR.out HM.out HF.out q v HQ.out HV.out HFEW.out).mono ?_
  rintro e w2 ⟨g2, rs2, v2, rfl, hsay, hm2, hc2, hr2⟩
  have H2 := Lib.hid hr2
  have HC2 := Lib.hid ((Over.below (F := F) HB.out).trans hc2)
  have HX2 := Lib.hid (And.intro hsay hm2)
  clear hsay hm2 hc2 hr2 c20 c22 cS c4 f4
  go_wp2
  go_end0
  exact ⟨g2, rs2, v2, rfl, HX2.out.1, HX2.out.2, HC2.out, H2.out⟩
end Go.Proofs.YtmanhikpccnfaaaGreat
