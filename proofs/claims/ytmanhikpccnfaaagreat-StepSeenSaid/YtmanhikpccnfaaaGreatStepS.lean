/- The stepper's over and do, whatever the operation. -/
import Derived.Test.YtmanhikpccnfaaaGreatStepO0
import Derived.Test.YtmanhikpccnfaaaGreatStepO1
import Derived.Test.YtmanhikpccnfaaaGreatStepO2
import Derived.Test.YtmanhikpccnfaaaGreatStepF
import Derived.Test.YtmanhikpccnfaaaGreatStepG
import Derived.Test.YtmanhikpccnfaaaGreatInstD
namespace Go.Proofs.YtmanhikpccnfaaaGreat
open Go.RowKit

/-- Does an operation over a value take S, not its number? -/
def takesS (op : Int) : Bool := decide (op = 1) || (decide (6 ≤ op) && decide (op ≤ 14)) || decide (op = 20) || decide (op = 21) || decide (op = 26) || decide (op = 27)
/-- Does it leave D as it is? -/
def keepsD (op : Int) : Bool := decide (op = 13) || decide (op = 14) || decide (op = 18)
def regAt (s : St) (r : Int) : Nat := s.regs.getD r.toNat 0
/-- An operation over a value. -/
def overF (s : St) (i : Ins) : Option St := match valueF s i.op (regAt s i.d) (if takesS i.op then regAt s i.s else u64 i.imm) with
  | none => none
  | some (s', r) => some (if keepsD i.op then s' else { s' with regs := s'.regs.set i.d.toNat r })

theorem hasOk_yes {has : Bool} {r : Int} (h : hasOk has r = true) (hh : has = true) : ∃ D : Nat, r = D ∧ D < 16 := by
  subst hh
  simp only [hasOk, if_true, regOk, Bool.and_eq_true, decide_eq_true_eq] at h
  exact ⟨r.toNat, by omega, by omega⟩
theorem chk_parts {i : Ins} (h : chkP i = true) : (formF i.op).name ≠ [] ∧ numB (formF i.op).is i.imm = true ∧ hasOk (hasB (formF i.op).is 1) i.d = true ∧ hasOk (hasB (formF i.op).is 2) i.s = true ∧ hasOk (hasB (formF i.op).is 4) i.t = true ∧ (hasB (formF i.op).is 4 && i.d == i.s) = false := by
  rw [chkP, Bool.and_eq_true] at h
  obtain ⟨ha, hb⟩ := h
  rw [Bool.and_eq_true] at ha hb
  obtain ⟨ha, hc⟩ := ha
  rw [Bool.and_eq_true] at ha hc
  obtain ⟨h1, h2⟩ := ha
  obtain ⟨hc, h5⟩ := hc
  rw [Bool.and_eq_true] at hc
  exact ⟨fun e => (by rw [e] at h1; cases h1), h2, hc.1, hc.2, h5, by have h9 := hb.2; rwa [Bool.not_eq_true'] at h9⟩
theorem chk_range {i : Ins} (h : chkP i = true) : 1 ≤ i.op ∧ i.op ≤ 33 := by
  have h1 := (chk_parts h).1
  by_cases hr : 1 ≤ i.op ∧ i.op ≤ 33
  · exact hr
  · exfalso
    apply h1
    rcases (by omega : i.op < 0 ∨ i.op = 0 ∨ 34 ≤ i.op) with h2 | h2 | h2
    · rw [formF_out _ (.inl h2)]; rfl
    · rw [h2]; rfl
    · rw [formF_out _ (.inr h2)]; rfl

variable {w : World} {base b : Nat} {x : Stp} {evs : List Ev} {F : Nat → Prop} {rs : List Reg}

theorem reg_some (h : StOk x.st) {D : Nat} (hD : D < 16) : ∃ d, x.st.regs[D]? = some d := ⟨_, List.getElem?_eq_getElem (by rw [h.len]; exact hD)⟩
theorem regAt_of {s : St} {r : Int} {D d : Nat} (hr : r = D) (hd : s.regs[D]? = some d) : regAt s r = d := by
  subst hr; simp [regAt, List.getD_eq_getElem?_getD, hd]

set_option maxHeartbeats 1600000 in
theorem over_yes (h : Run w base b x evs) (hc : chkP x.i = true) {s2 : St} (ho : overF x.st x.i = some s2) :
    Calls Tryz.prog 38 #[.pointer (some ⟨b, 0, none⟩)] w fun e w' => e = .returned (.bool true) ∧ Below base w w' ∧ Run w' base b { x with st := s2 } evs := by
  obtain ⟨_, hnum, hd1, hs1, _, _⟩ := chk_parts hc
  rcases (by have := chk_range hc; omega : x.i.op = 1 ∨ x.i.op = 2 ∨ x.i.op = 3 ∨ x.i.op = 4 ∨ x.i.op = 5 ∨ x.i.op = 6 ∨ x.i.op = 7 ∨ x.i.op = 8 ∨ x.i.op = 9 ∨ x.i.op = 10 ∨ x.i.op = 11 ∨ x.i.op = 12 ∨ x.i.op = 13 ∨ x.i.op = 14 ∨ x.i.op = 15 ∨ x.i.op = 16 ∨ x.i.op = 17 ∨ x.i.op = 18 ∨ x.i.op = 19 ∨ x.i.op = 20 ∨ x.i.op = 21 ∨ x.i.op = 22 ∨ x.i.op = 23 ∨ x.i.op = 24 ∨ x.i.op = 25 ∨ x.i.op = 26 ∨ x.i.op = 27 ∨ x.i.op = 28 ∨ x.i.op = 29 ∨ x.i.op = 30 ∨ x.i.op = 31 ∨ x.i.op = 32 ∨ x.i.op = 33) with hop | hop | hop | hop | hop | hop | hop | hop | hop | hop | hop | hop | hop | hop | hop | hop | hop | hop | hop | hop | hop | hop | hop | hop | hop | hop | hop | hop | hop | hop | hop | hop | hop
  · rw [hop] at hnum hd1 hs1
    obtain ⟨D, hD, hDl⟩ := hasOk_yes hd1 (by rfl)
    obtain ⟨d, hd⟩ := reg_some h.ok hDl
    obtain ⟨S, hS, hSl⟩ := hasOk_yes hs1 (by rfl)
    obtain ⟨bb, hb⟩ := reg_some h.ok hSl
    have hv := regAt_of hS hb
    have hu := regAt_of hD hd
    have hT : D = x.i.d.toNat := by omega
    simp only [overF, hop, hu, hv, show takesS 1 = true from rfl, if_true] at ho
    obtain rfl := Option.some.inj ho
    have h9 := over1 h hop D hD d hd S hS bb hb
    rw [← hT]
    exact h9

  · rw [hop] at hnum hd1 hs1
    obtain ⟨D, hD, hDl⟩ := hasOk_yes hd1 (by rfl)
    obtain ⟨d, hd⟩ := reg_some h.ok hDl
    obtain ⟨bb, hb⟩ : ∃ bb, bb = u64 x.i.imm := ⟨_, rfl⟩
    have hu := regAt_of hD hd
    have hT : D = x.i.d.toNat := by omega
    simp only [overF, hop, hu, show takesS 2 = false from rfl, if_neg (by decide : ¬ (false = true)), ← hb] at ho
    obtain rfl := Option.some.inj ho
    have h9 := over2 h hop D hD d hd bb hb
    rw [← hT]
    exact h9

  · rw [overF, hop] at ho; exact absurd ho (by simp [valueF])

  · rw [overF, hop] at ho; exact absurd ho (by simp [valueF])

  · rw [overF, hop] at ho; exact absurd ho (by simp [valueF])

  · rw [hop] at hnum hd1 hs1
    obtain ⟨D, hD, hDl⟩ := hasOk_yes hd1 (by rfl)
    obtain ⟨d, hd⟩ := reg_some h.ok hDl
    obtain ⟨S, hS, hSl⟩ := hasOk_yes hs1 (by rfl)
    obtain ⟨bb, hb⟩ := reg_some h.ok hSl
    have hv := regAt_of hS hb
    have hu := regAt_of hD hd
    have hT : D = x.i.d.toNat := by omega
    simp only [overF, hop, hu, hv, show takesS 6 = true from rfl, if_true] at ho
    obtain rfl := Option.some.inj ho
    have h9 := over6 h hop D hD d hd S hS bb hb
    rw [← hT]
    exact h9

  · rw [hop] at hnum hd1 hs1
    obtain ⟨D, hD, hDl⟩ := hasOk_yes hd1 (by rfl)
    obtain ⟨d, hd⟩ := reg_some h.ok hDl
    obtain ⟨S, hS, hSl⟩ := hasOk_yes hs1 (by rfl)
    obtain ⟨bb, hb⟩ := reg_some h.ok hSl
    have hv := regAt_of hS hb
    have hu := regAt_of hD hd
    have hT : D = x.i.d.toNat := by omega
    simp only [overF, hop, hu, hv, show takesS 7 = true from rfl, if_true] at ho
    obtain rfl := Option.some.inj ho
    have h9 := over7 h hop D hD d hd S hS bb hb
    rw [← hT]
    exact h9

  · rw [hop] at hnum hd1 hs1
    obtain ⟨D, hD, hDl⟩ := hasOk_yes hd1 (by rfl)
    obtain ⟨d, hd⟩ := reg_some h.ok hDl
    obtain ⟨S, hS, hSl⟩ := hasOk_yes hs1 (by rfl)
    obtain ⟨bb, hb⟩ := reg_some h.ok hSl
    have hv := regAt_of hS hb
    have hu := regAt_of hD hd
    have hT : D = x.i.d.toNat := by omega
    simp only [overF, hop, hu, hv, show takesS 8 = true from rfl, if_true] at ho
    obtain rfl := Option.some.inj ho
    have h9 := over8 h hop D hD d hd S hS bb hb
    rw [← hT]
    exact h9

  · rw [hop] at hnum hd1 hs1
    obtain ⟨D, hD, hDl⟩ := hasOk_yes hd1 (by rfl)
    obtain ⟨d, hd⟩ := reg_some h.ok hDl
    obtain ⟨S, hS, hSl⟩ := hasOk_yes hs1 (by rfl)
    obtain ⟨bb, hb⟩ := reg_some h.ok hSl
    have hv := regAt_of hS hb
    have hu := regAt_of hD hd
    have hT : D = x.i.d.toNat := by omega
    simp only [overF, hop, hu, hv, show takesS 9 = true from rfl, if_true] at ho
    obtain rfl := Option.some.inj ho
    have h9 := over9 h hop D hD d hd S hS bb hb
    rw [← hT]
    exact h9

  · rw [hop] at hnum hd1 hs1
    obtain ⟨D, hD, hDl⟩ := hasOk_yes hd1 (by rfl)
    obtain ⟨d, hd⟩ := reg_some h.ok hDl
    obtain ⟨S, hS, hSl⟩ := hasOk_yes hs1 (by rfl)
    obtain ⟨bb, hb⟩ := reg_some h.ok hSl
    have hv := regAt_of hS hb
    have hu := regAt_of hD hd
    have hT : D = x.i.d.toNat := by omega
    simp only [overF, hop, hu, hv, show takesS 10 = true from rfl, if_true] at ho
    obtain rfl := Option.some.inj ho
    have h9 := over10 h hop D hD d hd S hS bb hb
    rw [← hT]
    exact h9

  · rw [hop] at hnum hd1 hs1
    obtain ⟨D, hD, hDl⟩ := hasOk_yes hd1 (by rfl)
    obtain ⟨d, hd⟩ := reg_some h.ok hDl
    obtain ⟨S, hS, hSl⟩ := hasOk_yes hs1 (by rfl)
    obtain ⟨bb, hb⟩ := reg_some h.ok hSl
    have hv := regAt_of hS hb
    have hu := regAt_of hD hd
    have hT : D = x.i.d.toNat := by omega
    simp only [overF, hop, hu, hv, show takesS 11 = true from rfl, if_true] at ho
    obtain rfl := Option.some.inj ho
    have h9 := over11 h hop D hD d hd S hS bb hb
    rw [← hT]
    exact h9

  · rw [hop] at hnum hd1 hs1
    obtain ⟨D, hD, hDl⟩ := hasOk_yes hd1 (by rfl)
    obtain ⟨d, hd⟩ := reg_some h.ok hDl
    obtain ⟨S, hS, hSl⟩ := hasOk_yes hs1 (by rfl)
    obtain ⟨bb, hb⟩ := reg_some h.ok hSl
    have hv := regAt_of hS hb
    have hu := regAt_of hD hd
    have hT : D = x.i.d.toNat := by omega
    simp only [overF, hop, hu, hv, show takesS 12 = true from rfl, if_true] at ho
    obtain rfl := Option.some.inj ho
    have h9 := over12 h hop D hD d hd S hS bb hb
    rw [← hT]
    exact h9

  · rw [hop] at hnum hd1 hs1
    obtain ⟨D, hD, hDl⟩ := hasOk_yes hd1 (by rfl)
    obtain ⟨d, hd⟩ := reg_some h.ok hDl
    obtain ⟨S, hS, hSl⟩ := hasOk_yes hs1 (by rfl)
    obtain ⟨bb, hb⟩ := reg_some h.ok hSl
    have hv := regAt_of hS hb
    have hu := regAt_of hD hd
    have hT : D = x.i.d.toNat := by omega
    simp only [overF, hop, hu, hv, show takesS 13 = true from rfl, if_true] at ho
    obtain rfl := Option.some.inj ho
    have h9 := over13 h hop D hD d hd S hS bb hb
    rw [← hT]
    exact h9

  · rw [hop] at hnum hd1 hs1
    obtain ⟨D, hD, hDl⟩ := hasOk_yes hd1 (by rfl)
    obtain ⟨d, hd⟩ := reg_some h.ok hDl
    obtain ⟨S, hS, hSl⟩ := hasOk_yes hs1 (by rfl)
    obtain ⟨bb, hb⟩ := reg_some h.ok hSl
    have hv := regAt_of hS hb
    have hu := regAt_of hD hd
    have hT : D = x.i.d.toNat := by omega
    simp only [overF, hop, hu, hv, show takesS 14 = true from rfl, if_true] at ho
    obtain rfl := Option.some.inj ho
    have h9 := over14 h hop D hD d hd S hS bb hb
    rw [← hT]
    exact h9

  · rw [hop] at hnum hd1 hs1
    obtain ⟨D, hD, hDl⟩ := hasOk_yes hd1 (by rfl)
    obtain ⟨d, hd⟩ := reg_some h.ok hDl
    obtain ⟨bb, hb⟩ : ∃ bb, bb = u64 x.i.imm := ⟨_, rfl⟩
    have hu := regAt_of hD hd
    have hT : D = x.i.d.toNat := by omega
    simp only [overF, hop, hu, show takesS 15 = false from rfl, if_neg (by decide : ¬ (false = true)), ← hb] at ho
    obtain rfl := Option.some.inj ho
    have h9 := over15 h hop D hD d hd bb hb
    rw [← hT]
    exact h9

  · rw [hop] at hnum hd1 hs1
    obtain ⟨D, hD, hDl⟩ := hasOk_yes hd1 (by rfl)
    obtain ⟨d, hd⟩ := reg_some h.ok hDl
    obtain ⟨bb, hb⟩ : ∃ bb, bb = u64 x.i.imm := ⟨_, rfl⟩
    have hu := regAt_of hD hd
    have hT : D = x.i.d.toNat := by omega
    simp only [overF, hop, hu, show takesS 16 = false from rfl, if_neg (by decide : ¬ (false = true)), ← hb] at ho
    obtain rfl := Option.some.inj ho
    have h9 := over16 h hop D hD d hd bb hb
    rw [← hT]
    exact h9

  · rw [hop] at hnum hd1 hs1
    obtain ⟨D, hD, hDl⟩ := hasOk_yes hd1 (by rfl)
    obtain ⟨d, hd⟩ := reg_some h.ok hDl
    obtain ⟨bb, hb⟩ : ∃ bb, bb = u64 x.i.imm := ⟨_, rfl⟩
    have hu := regAt_of hD hd
    have hT : D = x.i.d.toNat := by omega
    simp only [overF, hop, hu, show takesS 17 = false from rfl, if_neg (by decide : ¬ (false = true)), ← hb] at ho
    obtain rfl := Option.some.inj ho
    have h9 := over17 h hop D hD d hd bb hb
    rw [← hT]
    exact h9

  · rw [hop] at hnum hd1 hs1
    obtain ⟨D, hD, hDl⟩ := hasOk_yes hd1 (by rfl)
    obtain ⟨d, hd⟩ := reg_some h.ok hDl
    obtain ⟨bb, hb⟩ : ∃ bb, bb = u64 x.i.imm := ⟨_, rfl⟩
    have hu := regAt_of hD hd
    have hT : D = x.i.d.toNat := by omega
    simp only [overF, hop, hu, show takesS 18 = false from rfl, if_neg (by decide : ¬ (false = true)), ← hb] at ho
    obtain rfl := Option.some.inj ho
    have h9 := over18 h hop D hD d hd bb hb
    rw [← hT]
    exact h9

  · rw [overF, hop] at ho; exact absurd ho (by simp [valueF])

  · rw [hop] at hnum hd1 hs1
    obtain ⟨D, hD, hDl⟩ := hasOk_yes hd1 (by rfl)
    obtain ⟨d, hd⟩ := reg_some h.ok hDl
    obtain ⟨S, hS, hSl⟩ := hasOk_yes hs1 (by rfl)
    obtain ⟨bb, hb⟩ := reg_some h.ok hSl
    have hv := regAt_of hS hb
    have hu := regAt_of hD hd
    have hT : D = x.i.d.toNat := by omega
    simp only [overF, hop, hu, hv, show takesS 20 = true from rfl, if_true] at ho
    obtain rfl := Option.some.inj ho
    have h9 := over20 h hop D hD d hd S hS bb hb
    rw [← hT]
    exact h9

  · rw [hop] at hnum hd1 hs1
    obtain ⟨D, hD, hDl⟩ := hasOk_yes hd1 (by rfl)
    obtain ⟨d, hd⟩ := reg_some h.ok hDl
    obtain ⟨S, hS, hSl⟩ := hasOk_yes hs1 (by rfl)
    obtain ⟨bb, hb⟩ := reg_some h.ok hSl
    have hv := regAt_of hS hb
    have hu := regAt_of hD hd
    have hT : D = x.i.d.toNat := by omega
    simp only [overF, hop, hu, hv, show takesS 21 = true from rfl, if_true] at ho
    obtain rfl := Option.some.inj ho
    have h9 := over21 h hop D hD d hd S hS bb hb
    rw [← hT]
    exact h9

  · rw [hop] at hnum hd1 hs1
    obtain ⟨D, hD, hDl⟩ := hasOk_yes hd1 (by rfl)
    obtain ⟨d, hd⟩ := reg_some h.ok hDl
    obtain ⟨bb, hb⟩ : ∃ bb, bb = u64 x.i.imm := ⟨_, rfl⟩
    have hu := regAt_of hD hd
    have hT : D = x.i.d.toNat := by omega
    simp only [overF, hop, hu, show takesS 22 = false from rfl, if_neg (by decide : ¬ (false = true)), ← hb] at ho
    obtain rfl := Option.some.inj ho
    have h9 := over22 h hop D hD d hd bb hb
    rw [← hT]
    exact h9

  · rw [hop] at hnum hd1 hs1
    obtain ⟨D, hD, hDl⟩ := hasOk_yes hd1 (by rfl)
    obtain ⟨d, hd⟩ := reg_some h.ok hDl
    obtain ⟨bb, hb⟩ : ∃ bb, bb = u64 x.i.imm := ⟨_, rfl⟩
    have hu := regAt_of hD hd
    have hT : D = x.i.d.toNat := by omega
    simp only [overF, hop, hu, show takesS 23 = false from rfl, if_neg (by decide : ¬ (false = true)), ← hb] at ho
    obtain rfl := Option.some.inj ho
    have h9 := over23 h hop D hD d hd bb hb
    rw [← hT]
    exact h9

  · rw [hop] at hnum hd1 hs1
    obtain ⟨D, hD, hDl⟩ := hasOk_yes hd1 (by rfl)
    obtain ⟨d, hd⟩ := reg_some h.ok hDl
    obtain ⟨bb, hb⟩ : ∃ bb, bb = u64 x.i.imm := ⟨_, rfl⟩
    have hi : 1 ≤ bb ∧ bb ≤ 63 := by
      have h1 : (decide (1 ≤ x.i.imm) && decide (x.i.imm ≤ 63)) = true := hnum
      simp only [Bool.and_eq_true, decide_eq_true_eq] at h1
      rw [hb]; unfold u64; omega
    have hu := regAt_of hD hd
    have hT : D = x.i.d.toNat := by omega
    simp only [overF, hop, hu, show takesS 24 = false from rfl, if_neg (by decide : ¬ (false = true)), ← hb] at ho
    obtain rfl := Option.some.inj ho
    have h9 := over24 h hop D hD d hd bb hb hi.1 hi.2
    rw [← hT]
    exact h9

  · rw [hop] at hnum hd1 hs1
    obtain ⟨D, hD, hDl⟩ := hasOk_yes hd1 (by rfl)
    obtain ⟨d, hd⟩ := reg_some h.ok hDl
    obtain ⟨bb, hb⟩ : ∃ bb, bb = u64 x.i.imm := ⟨_, rfl⟩
    have hi : 1 ≤ bb ∧ bb ≤ 63 := by
      have h1 : (decide (1 ≤ x.i.imm) && decide (x.i.imm ≤ 63)) = true := hnum
      simp only [Bool.and_eq_true, decide_eq_true_eq] at h1
      rw [hb]; unfold u64; omega
    have hu := regAt_of hD hd
    have hT : D = x.i.d.toNat := by omega
    simp only [overF, hop, hu, show takesS 25 = false from rfl, if_neg (by decide : ¬ (false = true)), ← hb] at ho
    obtain rfl := Option.some.inj ho
    have h9 := over25 h hop D hD d hd bb hb hi.1 hi.2
    rw [← hT]
    exact h9

  · rw [hop] at hnum hd1 hs1
    obtain ⟨D, hD, hDl⟩ := hasOk_yes hd1 (by rfl)
    obtain ⟨d, hd⟩ := reg_some h.ok hDl
    obtain ⟨S, hS, hSl⟩ := hasOk_yes hs1 (by rfl)
    obtain ⟨bb, hb⟩ := reg_some h.ok hSl
    have hv := regAt_of hS hb
    have hu := regAt_of hD hd
    have hT : D = x.i.d.toNat := by omega
    simp only [overF, hop, hu, hv, show takesS 26 = true from rfl, if_true] at ho
    obtain rfl := Option.some.inj ho
    have h9 := over26 h hop D hD d hd S hS bb hb _ rfl
    rw [← hT]
    exact h9

  · rw [hop] at hnum hd1 hs1
    obtain ⟨D, hD, hDl⟩ := hasOk_yes hd1 (by rfl)
    obtain ⟨d, hd⟩ := reg_some h.ok hDl
    obtain ⟨S, hS, hSl⟩ := hasOk_yes hs1 (by rfl)
    obtain ⟨bb, hb⟩ := reg_some h.ok hSl
    have hv := regAt_of hS hb
    have hu := regAt_of hD hd
    have hT : D = x.i.d.toNat := by omega
    simp only [overF, hop, hu, hv, show takesS 27 = true from rfl, if_true] at ho
    obtain rfl := Option.some.inj ho
    have h9 := over27 h hop D hD d hd S hS bb hb (if x.st.zf then d else bb) (by cases x.st.zf <;> rfl)
    rw [← hT]
    exact h9

  · rw [overF, hop] at ho; exact absurd ho (by simp [valueF])

  · rw [overF, hop] at ho; exact absurd ho (by simp [valueF])

  · rw [overF, hop] at ho; exact absurd ho (by simp [valueF])

  · rw [overF, hop] at ho; exact absurd ho (by simp [valueF])

  · rw [overF, hop] at ho; exact absurd ho (by simp [valueF])

  · rw [overF, hop] at ho; exact absurd ho (by simp [valueF])

def storeVE (rs : List Reg) (a v : Nat) : Int × List Reg := match storeF rs a v with
  | none => (11, rs)
  | some r => (0, r)
theorem says_VE {rs rs2 : List Reg} {a v : Nat} {g : Int} (h : StoreSays rs a v g rs2) : storeVE rs a v = (g, rs2) := by
  unfold storeVE
  rcases h with ⟨h1, rfl, rfl⟩ | ⟨h1, rfl⟩ <;> rw [h1]

/-- All other operations: the state, what is seen, the error, the regions. -/
def doF (s : St) (i : Ins) (rs : List Reg) (e0 : Int) : St × List Ev × Int × List Reg :=
  if i.op = 3 then ({ s with regs := s.regs.set i.d.toNat (loadVE (loadF rs (addrF s i))).1 }, [⟨2, addrF s i⟩], (loadVE (loadF rs (addrF s i))).2, rs)
  else if i.op = 4 then (s, [⟨3, addrF s i⟩], (storeVE rs (addrF s i) (regAt s i.s)).1, (storeVE rs (addrF s i) (regAt s i.s)).2)
  else if i.op = 5 then ({ s with regs := s.regs.set i.d.toNat (addrF s i) }, [], e0, rs)
  else if i.op = 19 then ({ s with regs := (s.regs.set i.d.toNat (mulF (regAt s i.t) (regAt s 2)).1).set i.s.toNat (mulF (regAt s i.t) (regAt s 2)).2 }, [], e0, rs)
  else if i.op = 28 then ({ s with regs := s.regs.set 4 ((18446744073709551616 + regAt s 4 - 8) % 18446744073709551616) }, [⟨3, (18446744073709551616 + regAt s 4 - 8) % 18446744073709551616⟩],
    (storeVE rs ((18446744073709551616 + regAt s 4 - 8) % 18446744073709551616) (regAt s i.s)).1, (storeVE rs ((18446744073709551616 + regAt s 4 - 8) % 18446744073709551616) (regAt s i.s)).2)
  else if i.op = 29 then ({ s with regs := (s.regs.set 4 ((regAt s 4 + 8) % 18446744073709551616)).set i.d.toNat (loadVE (loadF rs (regAt s 4))).1 }, [⟨2, regAt s 4⟩], (loadVE (loadF rs (regAt s 4))).2, rs)
  else if i.op = 33 then ({ s with regs := s.regs.set 4 ((regAt s 4 + 8) % 18446744073709551616), pc := (loadVE (loadF rs (regAt s 4))).1 }, [⟨2, regAt s 4⟩, ⟨4, (loadVE (loadF rs (regAt s 4))).1⟩], (loadVE (loadF rs (regAt s 4))).2, rs)
  else (jumpS s (if i.op = 30 then true else if i.op = 31 then !s.zf else s.cf) i.imm, [⟨4, (jumpS s (if i.op = 30 then true else if i.op = 31 then !s.zf else s.cf) i.imm).pc⟩], e0, rs)

theorem values3 (w : World) : Calls Tryz.prog 65 #[.int .i64 3] w fun e w' => e = .returned (.tuple #[.nilFunc, .bool false]) ∧ w = w' := by
  go_enter Tryz.func65, Tryz.ntmps65
  go_wp2
  go_ret2
  exact ⟨rfl, rfl⟩

theorem values4 (w : World) : Calls Tryz.prog 65 #[.int .i64 4] w fun e w' => e = .returned (.tuple #[.nilFunc, .bool false]) ∧ w = w' := by
  go_enter Tryz.func65, Tryz.ntmps65
  go_wp2
  go_ret2
  exact ⟨rfl, rfl⟩

theorem values5 (w : World) : Calls Tryz.prog 65 #[.int .i64 5] w fun e w' => e = .returned (.tuple #[.nilFunc, .bool false]) ∧ w = w' := by
  go_enter Tryz.func65, Tryz.ntmps65
  go_wp2
  go_ret2
  exact ⟨rfl, rfl⟩

theorem values19 (w : World) : Calls Tryz.prog 65 #[.int .i64 19] w fun e w' => e = .returned (.tuple #[.nilFunc, .bool false]) ∧ w = w' := by
  go_enter Tryz.func65, Tryz.ntmps65
  go_wp2
  go_ret2
  exact ⟨rfl, rfl⟩

theorem values28 (w : World) : Calls Tryz.prog 65 #[.int .i64 28] w fun e w' => e = .returned (.tuple #[.nilFunc, .bool false]) ∧ w = w' := by
  go_enter Tryz.func65, Tryz.ntmps65
  go_wp2
  go_ret2
  exact ⟨rfl, rfl⟩

theorem values29 (w : World) : Calls Tryz.prog 65 #[.int .i64 29] w fun e w' => e = .returned (.tuple #[.nilFunc, .bool false]) ∧ w = w' := by
  go_enter Tryz.func65, Tryz.ntmps65
  go_wp2
  go_ret2
  exact ⟨rfl, rfl⟩

theorem values30 (w : World) : Calls Tryz.prog 65 #[.int .i64 30] w fun e w' => e = .returned (.tuple #[.nilFunc, .bool false]) ∧ w = w' := by
  go_enter Tryz.func65, Tryz.ntmps65
  go_wp2
  go_ret2
  exact ⟨rfl, rfl⟩

theorem values31 (w : World) : Calls Tryz.prog 65 #[.int .i64 31] w fun e w' => e = .returned (.tuple #[.nilFunc, .bool false]) ∧ w = w' := by
  go_enter Tryz.func65, Tryz.ntmps65
  go_wp2
  go_ret2
  exact ⟨rfl, rfl⟩

theorem values32 (w : World) : Calls Tryz.prog 65 #[.int .i64 32] w fun e w' => e = .returned (.tuple #[.nilFunc, .bool false]) ∧ w = w' := by
  go_enter Tryz.func65, Tryz.ntmps65
  go_wp2
  go_ret2
  exact ⟨rfl, rfl⟩

theorem values33 (w : World) : Calls Tryz.prog 65 #[.int .i64 33] w fun e w' => e = .returned (.tuple #[.nilFunc, .bool false]) ∧ w = w' := by
  go_enter Tryz.func65, Tryz.ntmps65
  go_wp2
  go_ret2
  exact ⟨rfl, rfl⟩

theorem value_none {s : St} {op : Int} {d b : Nat} (h0 : 1 ≤ op ∧ op ≤ 33) (hv : valueF s op d b = none) : op = 3 ∨ op = 4 ∨ op = 5 ∨ op = 19 ∨ op = 28 ∨ op = 29 ∨ op = 30 ∨ op = 31 ∨ op = 32 ∨ op = 33 := by
  rcases (by omega : op = 1 ∨ op = 2 ∨ op = 3 ∨ op = 4 ∨ op = 5 ∨ op = 6 ∨ op = 7 ∨ op = 8 ∨ op = 9 ∨ op = 10 ∨ op = 11 ∨ op = 12 ∨ op = 13 ∨ op = 14 ∨ op = 15 ∨ op = 16 ∨ op = 17 ∨ op = 18 ∨ op = 19 ∨ op = 20 ∨ op = 21 ∨ op = 22 ∨ op = 23 ∨ op = 24 ∨ op = 25 ∨ op = 26 ∨ op = 27 ∨ op = 28 ∨ op = 29 ∨ op = 30 ∨ op = 31 ∨ op = 32 ∨ op = 33) with rfl | rfl | rfl | rfl | rfl | rfl | rfl | rfl | rfl | rfl | rfl | rfl | rfl | rfl | rfl | rfl | rfl | rfl | rfl | rfl | rfl | rfl | rfl | rfl | rfl | rfl | rfl | rfl | rfl | rfl | rfl | rfl | rfl
  all_goals first
    | omega
    | (exfalso; simp [valueF] at hv; done)
theorem over_none {s : St} {i : Ins} (h0 : 1 ≤ i.op ∧ i.op ≤ 33) (ho : overF s i = none) : i.op = 3 ∨ i.op = 4 ∨ i.op = 5 ∨ i.op = 19 ∨ i.op = 28 ∨ i.op = 29 ∨ i.op = 30 ∨ i.op = 31 ∨ i.op = 32 ∨ i.op = 33 := by
  unfold overF at ho
  split at ho
  · rename_i hv; exact value_none h0 hv
  · cases ho

set_option maxRecDepth 100000 in
set_option maxHeartbeats 1600000 in
theorem over_no (h : Run w base b x evs) (hc : chkP x.i = true) (ho : overF x.st x.i = none) :
    Calls Tryz.prog 38 #[.pointer (some ⟨b, 0, none⟩)] w fun e w' => e = .returned (.bool false) ∧ w = w' := by
  have c20 := h.cells.2.2.2.2.1
  have h0 := chk_range hc
  rcases (over_none h0 ho : x.i.op = 3 ∨ x.i.op = 4 ∨ x.i.op = 5 ∨ x.i.op = 19 ∨ x.i.op = 28 ∨ x.i.op = 29 ∨ x.i.op = 30 ∨ x.i.op = 31 ∨ x.i.op = 32 ∨ x.i.op = 33) with hop | hop | hop | hop | hop | hop | hop | hop | hop | hop
  all_goals
    rw [hop] at c20
    clear h hc ho h0 hop
    go_enter Tryz.func38, Tryz.ntmps38
    go_wp2_with ((first | (with_reducible refine (values3 w).mono ?_) | (with_reducible refine (values4 w).mono ?_) | (with_reducible refine (values5 w).mono ?_) | (with_reducible refine (values19 w).mono ?_) | (with_reducible refine (values28 w).mono ?_) | (with_reducible refine (values29 w).mono ?_) | (with_reducible refine (values30 w).mono ?_) | (with_reducible refine (values31 w).mono ?_) | (with_reducible refine (values32 w).mono ?_) | (with_reducible refine (values33 w).mono ?_)); rintro e w1 ⟨rfl, rfl⟩)
    go_ret
    exact ⟨rfl, rfl⟩

def DoSays (w : World) (base b : Nat) (x : Stp) (evs : List Ev) (F : Nat → Prop) (r : St × List Ev × Int × List Reg) (e : Ending) (w' : World) : Prop :=
  e = .returned (.tuple #[]) ∧ ∃ v, Chg (Over F base) w w' ∧ MemAt w' F x.m r.2.2.2 ∧ Run w' base b { x with st := r.1, l := v, e := r.2.2.1 } (evs ++ r.2.1)

set_option maxHeartbeats 1600000 in
theorem do_says (h : Run w base b x evs) (hc : chkP x.i = true) (hm : MemAt w F x.m rs) (hF : ∀ k, F k → k < base) (hf : evs.length ≤ 80) (ho : overF x.st x.i = none) :
    Calls Tryz.prog 39 #[.pointer (some ⟨b, 0, none⟩)] w (DoSays w base b x evs F (doF x.st x.i rs x.e)) := by
  have h0 := chk_range hc
  obtain ⟨_, _, hd1, hs1, ht1, hds⟩ := chk_parts hc
  obtain ⟨sp, hsp⟩ := reg_some (D := 4) h.ok (by decide)
  have hu4 : regAt x.st 4 = sp := regAt_of (D := 4) rfl hsp
  rcases (over_none h0 ho : x.i.op = 3 ∨ x.i.op = 4 ∨ x.i.op = 5 ∨ x.i.op = 19 ∨ x.i.op = 28 ∨ x.i.op = 29 ∨ x.i.op = 30 ∨ x.i.op = 31 ∨ x.i.op = 32 ∨ x.i.op = 33) with hop | hop | hop | hop | hop | hop | hop | hop | hop | hop
  · rw [hop] at hd1 hs1 ht1 hds
    obtain ⟨D, hD, hDl⟩ := hasOk_yes hd1 (by rfl)
    have hT : x.i.d.toNat = D := by omega
    have hd : doF x.st x.i rs x.e = ({ x.st with regs := x.st.regs.set D (loadVE (loadF rs (addrF x.st x.i))).1 }, [⟨2, addrF x.st x.i⟩], (loadVE (loadF rs (addrF x.st x.i))).2, rs) := by unfold doF; rw [if_pos hop, hT]
    rw [hd]
    refine (do3 h hop hm hF hf D hD hDl).mono ?_
    rintro e w' ⟨rfl, hb, v, hr⟩
    exact ⟨rfl, v, Over.below hb, hm.keep (SameOn.of_below hb hF), hr⟩

  · rw [hop] at hd1 hs1 ht1 hds
    obtain ⟨S, hS, hSl⟩ := hasOk_yes hs1 (by rfl)
    obtain ⟨v, hv⟩ := reg_some h.ok hSl
    have hvs := regAt_of hS hv
    have hd : doF x.st x.i rs x.e = (x.st, [⟨3, addrF x.st x.i⟩], (storeVE rs (addrF x.st x.i) v).1, (storeVE rs (addrF x.st x.i) v).2) := by unfold doF; rw [if_neg (by omega), if_pos hop, hvs]
    rw [hd]
    refine (do4 h hop hm hF hf S hS hSl v hv).mono ?_
    rintro e w' ⟨g, rs2, vl, rfl, hsay, hm2, hc2, hr⟩
    rw [says_VE hsay]
    exact ⟨rfl, vl, hc2, hm2, hr⟩

  · rw [hop] at hd1 hs1 ht1 hds
    obtain ⟨D, hD, hDl⟩ := hasOk_yes hd1 (by rfl)
    have hT : x.i.d.toNat = D := by omega
    have hd : doF x.st x.i rs x.e = ({ x.st with regs := x.st.regs.set D (addrF x.st x.i) }, [], x.e, rs) := by unfold doF; rw [if_neg (by omega), if_neg (by omega), if_pos hop, hT]
    rw [hd]
    refine (do5 h hop D hD hDl).mono ?_
    rintro e w' ⟨rfl, hb, hr⟩
    exact ⟨rfl, x.l, Over.below hb, hm.keep (SameOn.of_below hb hF), by rw [List.append_nil]; exact hr⟩

  · rw [hop] at hd1 hs1 ht1 hds
    obtain ⟨D, hD, hDl⟩ := hasOk_yes hd1 (by rfl)
    have hT : x.i.d.toNat = D := by omega
    obtain ⟨S, hS, hSl⟩ := hasOk_yes hs1 (by rfl)
    obtain ⟨v, hv⟩ := reg_some h.ok hSl
    have hvs := regAt_of hS hv
    obtain ⟨T, hTT, hTl⟩ := hasOk_yes ht1 (by rfl)
    obtain ⟨t, ht⟩ := reg_some h.ok hTl
    obtain ⟨dx, hdx⟩ := reg_some (D := 2) h.ok (by decide)
    have hut := regAt_of hTT ht
    have hu2 : regAt x.st 2 = dx := regAt_of (D := 2) rfl hdx
    have hT2 : x.i.s.toNat = S := by omega
    have hDS : D ≠ S := fun e => by
      have h9 : (hasB (formF 19).is 4 && x.i.d == x.i.s) = true := by rw [hD, hS, e]; simp; rfl
      rw [h9] at hds; cases hds
    have hd : doF x.st x.i rs x.e = ({ x.st with regs := (x.st.regs.set D (mulF t dx).1).set S (mulF t dx).2 }, [], x.e, rs) := by unfold doF; rw [if_neg (by omega), if_neg (by omega), if_neg (by omega), if_pos hop, hT, hT2, hut, hu2]
    rw [hd]
    refine (do19 h hop D hD hDl S hS hSl hDS T hTT t ht dx hdx).mono ?_
    rintro e w' ⟨rfl, hb, hr⟩
    exact ⟨rfl, x.l, Over.below hb, hm.keep (SameOn.of_below hb hF), by rw [List.append_nil]; exact hr⟩

  · rw [hop] at hd1 hs1 ht1 hds
    obtain ⟨S, hS, hSl⟩ := hasOk_yes hs1 (by rfl)
    obtain ⟨v, hv⟩ := reg_some h.ok hSl
    have hvs := regAt_of hS hv
    have hd : doF x.st x.i rs x.e = ({ x.st with regs := x.st.regs.set 4 ((18446744073709551616 + sp - 8) % 18446744073709551616) }, [⟨3, (18446744073709551616 + sp - 8) % 18446744073709551616⟩], (storeVE rs ((18446744073709551616 + sp - 8) % 18446744073709551616) v).1, (storeVE rs ((18446744073709551616 + sp - 8) % 18446744073709551616) v).2) := by unfold doF; rw [if_neg (by omega), if_neg (by omega), if_neg (by omega), if_neg (by omega), if_pos hop, hu4, hvs]
    rw [hd]
    refine (do28 h hop hm hF hf S hS hSl v hv sp hsp).mono ?_
    rintro e w' ⟨g, rs2, vl, rfl, hsay, hm2, hc2, hr⟩
    rw [says_VE hsay]
    exact ⟨rfl, vl, hc2, hm2, hr⟩

  · rw [hop] at hd1 hs1 ht1 hds
    obtain ⟨D, hD, hDl⟩ := hasOk_yes hd1 (by rfl)
    have hT : x.i.d.toNat = D := by omega
    have hd : doF x.st x.i rs x.e = ({ x.st with regs := (x.st.regs.set 4 ((sp + 8) % 18446744073709551616)).set D (loadVE (loadF rs sp)).1 }, [⟨2, sp⟩], (loadVE (loadF rs sp)).2, rs) := by unfold doF; rw [if_neg (by omega), if_neg (by omega), if_neg (by omega), if_neg (by omega), if_neg (by omega), if_pos hop, hu4, hT]
    rw [hd]
    refine (do29 h hop hm hF hf D hD hDl sp hsp).mono ?_
    rintro e w' ⟨rfl, hb, v, hr⟩
    exact ⟨rfl, v, Over.below hb, hm.keep (SameOn.of_below hb hF), hr⟩

  · rw [hop] at hd1 hs1 ht1 hds
    have hj : (if x.i.op = 30 then true else if x.i.op = 31 then !x.st.zf else x.st.cf) = true := by rw [hop]; rfl
    have hd : doF x.st x.i rs x.e = (jumpS x.st true x.i.imm, [⟨4, (jumpS x.st true x.i.imm).pc⟩], x.e, rs) := by unfold doF; rw [if_neg (by omega), if_neg (by omega), if_neg (by omega), if_neg (by omega), if_neg (by omega), if_neg (by omega), if_neg (by omega), hj]
    rw [hd]
    refine (do30 h hop hf).mono ?_
    rintro e w' ⟨rfl, hb, v, hr⟩
    exact ⟨rfl, v, Over.below hb, hm.keep (SameOn.of_below hb hF), hr⟩

  · rw [hop] at hd1 hs1 ht1 hds
    have hj : (if x.i.op = 30 then true else if x.i.op = 31 then !x.st.zf else x.st.cf) = (!x.st.zf) := by rw [hop]; rfl
    have hd : doF x.st x.i rs x.e = (jumpS x.st (!x.st.zf) x.i.imm, [⟨4, (jumpS x.st (!x.st.zf) x.i.imm).pc⟩], x.e, rs) := by unfold doF; rw [if_neg (by omega), if_neg (by omega), if_neg (by omega), if_neg (by omega), if_neg (by omega), if_neg (by omega), if_neg (by omega), hj]
    rw [hd]
    refine (do31 h hop hf).mono ?_
    rintro e w' ⟨rfl, hb, v, hr⟩
    exact ⟨rfl, v, Over.below hb, hm.keep (SameOn.of_below hb hF), hr⟩

  · rw [hop] at hd1 hs1 ht1 hds
    have hj : (if x.i.op = 30 then true else if x.i.op = 31 then !x.st.zf else x.st.cf) = x.st.cf := by rw [hop]; rfl
    have hd : doF x.st x.i rs x.e = (jumpS x.st x.st.cf x.i.imm, [⟨4, (jumpS x.st x.st.cf x.i.imm).pc⟩], x.e, rs) := by unfold doF; rw [if_neg (by omega), if_neg (by omega), if_neg (by omega), if_neg (by omega), if_neg (by omega), if_neg (by omega), if_neg (by omega), hj]
    rw [hd]
    refine (do32 h hop hf).mono ?_
    rintro e w' ⟨rfl, hb, v, hr⟩
    exact ⟨rfl, v, Over.below hb, hm.keep (SameOn.of_below hb hF), hr⟩

  · rw [hop] at hd1 hs1 ht1 hds
    have hd : doF x.st x.i rs x.e = ({ x.st with regs := x.st.regs.set 4 ((sp + 8) % 18446744073709551616), pc := (loadVE (loadF rs sp)).1 }, [⟨2, sp⟩, ⟨4, (loadVE (loadF rs sp)).1⟩], (loadVE (loadF rs sp)).2, rs) := by unfold doF; rw [if_neg (by omega), if_neg (by omega), if_neg (by omega), if_neg (by omega), if_neg (by omega), if_neg (by omega), if_pos hop, hu4]
    rw [hd]
    refine (do33 h hop hm hF hf sp hsp).mono ?_
    rintro e w' ⟨rfl, hb, v, hr⟩
    exact ⟨rfl, v, Over.below hb, hm.keep (SameOn.of_below hb hF), by rw [List.append_assoc] at hr; exact hr⟩

end Go.Proofs.YtmanhikpccnfaaaGreat
