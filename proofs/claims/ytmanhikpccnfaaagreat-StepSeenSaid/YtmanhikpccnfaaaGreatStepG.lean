/- The stepper's do: mulx. -/
import Derived.Test.YtmanhikpccnfaaaGreatStepE
import Derived.Deep.RegionWith
namespace Go.Proofs.YtmanhikpccnfaaaGreat
open Go.RowKit

variable {w : World} {base b : Nat} {x : Stp} {evs : List Ev} {F : Nat → Prop} {rs : List Reg}

set_option maxRecDepth 100000 in
set_option maxHeartbeats 1600000 in
theorem do19 (h : Run w base b x evs) (hop : x.i.op = 19) (D : Nat) (hD : x.i.d = D) (hDl : D < 16) (S : Nat) (hS : x.i.s = S) (hSl : S < 16) (hDS : D ≠ S) (T : Nat) (hT : x.i.t = T) (t : Nat) (ht : x.st.regs[T]? = some t) (dx : Nat) (hdx : x.st.regs[2]? = some dx) :
    Calls Tryz.prog 39 #[.pointer (some ⟨b, 0, none⟩)] w fun e w' => e = .returned (.tuple #[]) ∧ Below base w w' ∧ Run w' base b { x with st := { x.st with regs := (x.st.regs.set D (mulF t dx).1).set S (mulF t dx).2 } } evs := by
  have hTl : T < 16 := by have := (List.getElem?_eq_some_iff.1 ht).1; rw [h.ok.len] at this; exact this
  have c20 := h.cells.2.2.2.2.1
  have c21 := h.cells.2.2.2.2.2.1
  have c22 := h.cells.2.2.2.2.2.2.1
  have c23 := h.cells.2.2.2.2.2.2.2.1
  rw [hop] at c20
  rw [hD] at c21
  rw [hS] at c22
  rw [hT] at c23
  obtain ⟨d, hd⟩ : ∃ d, x.st.regs[D]? = some d := ⟨_, List.getElem?_eq_getElem (by rw [h.ok.len]; exact hDl)⟩
  obtain ⟨s, hs⟩ : ∃ s, x.st.regs[S]? = some s := ⟨_, List.getElem?_eq_getElem (by rw [h.ok.len]; exact hSl)⟩
  have cD := h.reg hd
  have cS := h.reg hs
  have cT := h.reg ht
  have c2 := h.reg hdx
  have fD := h.frozen D
  have fS := h.frozen S
  have i0 : (0 : Int) ≤ (D : Int) := by omega
  have i1 : (D : Int) < 16 := by omega
  have j0 : (0 : Int) ≤ (S : Int) := by omega
  have j1 : (S : Int) < 16 := by omega
  have k0 : (0 : Int) ≤ (T : Int) := by omega
  have k1 : (T : Int) < 16 := by omega
  have n1 : ¬ D = S := hDS
  have n2 : ¬ S = D := fun e => hDS e.symm
  have n3 : ¬ D = 22 := by omega
  have n4 : ¬ S = 22 := by omega
  have hM := Mul_any t dx w.drew (h.ok.regs _ (List.mem_of_getElem? ht)) (h.ok.regs _ (List.mem_of_getElem? hdx))
  have m1 : (mulF t dx).1 < 18446744073709551616 := by
    have h1 := h.ok.regs _ (List.mem_of_getElem? ht)
    have h2 := h.ok.regs _ (List.mem_of_getElem? hdx)
    have h3 := Nat.mul_le_mul (Nat.le_of_lt_succ h1) (Nat.le_of_lt_succ h2)
    simp only [mulF]; omega
  have m2 : (mulF t dx).2 < 18446744073709551616 := Nat.mod_lt _ (by decide)
  generalize (mulF t dx).1 = hi at *
  generalize (mulF t dx).2 = lo at *
  have HX := Lib.hid (h.next ((Below.refl _ _).drew))
  have H := Lib.hid (((h.next ((Below.refl _ _).drew)).setReg hDl m1).setReg hSl m2)
  have HCS := Lib.hid (And.intro hD (And.intro hS (And.intro hT (And.intro ht hdx))))
  have HLE := Lib.hid h.le
  have HM := Lib.hid hM
  clear h hop hD hS hT hDl hSl hDS ht hdx hd hs hM hTl m1 m2
  go_enter Tryz.func39, Tryz.ntmps39
  go_wp2
  (refine wp_region_stages (fun k_ w_ => ((fun k => decide (k < 6) || (decide (12 ≤ k) && decide (k < 28)) || (decide (29 ≤ k) && decide (k < 32))) k_ = true → (Holds base b x) w_) ∧ (fun w_ => w_.cell? ⟨b, 22, none⟩ = some (.int .i64 S)) w_) (by kernel_rfl) (by kernel_rfl) (fun _ => ⟨fun _ => ((And.intro HX.out.holds c22)).1, ((And.intro HX.out.holds c22)).2⟩) ?_)
  (try simp only [])
  repeat (first | (refine runK_no (by rfl) ?_; (try simp only [Act.put, List.setIfInBounds_toArray, List.set_cons_zero, List.set_cons_succ])) | (refine runK_val (v := ?_) (by rfl) ?_ ?_; rotate_left; (focus (intro w_ hw_; obtain ⟨hE_, f2_⟩ := hw_; (try (replace hE_ := hE_ (by decide); obtain ⟨l', e', evs', hr_⟩ := hE_; have k21 := hr_.cells.2.2.2.2.2.1; have k23 := hr_.cells.2.2.2.2.2.2.2.1; rw [show ({ x with l := l', e := e' } : Stp).i.d = (D : Int) from HCS.out.1] at k21; rw [show ({ x with l := l', e := e' } : Stp).i.t = (T : Int) from HCS.out.2.2.1] at k23; have kT := hr_.reg (k := T) (r := t) HCS.out.2.2.2.1; have k2 := hr_.reg (k := 2) (r := dx) HCS.out.2.2.2.2; clear hr_)); go_simp; (try with_reducible rfl); done)); (try simp only [Act.put, List.setIfInBounds_toArray, List.set_cons_zero, List.set_cons_succ])) | (refine runK_call (f := ?_) (args := ?_) (w1 := ?_) (by rfl) (by rfl) ?_ ?_; rotate_left 3; (focus (go_simp; refine ⟨⟨?_, ?_⟩, ?_⟩ <;> with_reducible rfl)); refine HM.out.mono ?_; rintro e w1 ⟨rfl, rfl⟩; refine ⟨_, rfl, fun _ _ => ⟨fun _ => HX.out.holds, c22⟩, ?_⟩; (try simp only [Act.put, List.setIfInBounds_toArray, List.set_cons_zero, List.set_cons_succ])) | (refine runK_skip (w1 := ?_) (by rfl) (by rfl) ?_ (fun k_ hk_ => ⟨fun hc_ => (free_crit (C := (fun k => decide (k < 6) || (decide (12 ≤ k) && decide (k < 28)) || (decide (29 ≤ k) && decide (k < 32)))) ?_ k_ hk_ hc_).elim, ?_⟩) ?_; rotate_left; (focus (go_simp; (try with_reducible rfl); done)); (focus kernel_rfl); (focus (go_simp; done)); (try simp only [Act.put])))
  (refine runK_nil ?_)
  go_wp2
  go_end0
  exact ⟨rfl, (((Below.refl _ _).drew).setCell HLE.out _).setCell HLE.out _, H.out⟩
end Go.Proofs.YtmanhikpccnfaaaGreat
