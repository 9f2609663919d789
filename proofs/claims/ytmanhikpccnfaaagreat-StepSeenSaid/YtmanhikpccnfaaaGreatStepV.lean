/- The stepper's values. -/
import Derived.Test.YtmanhikpccnfaaaGreatStepC
namespace Go.Proofs.YtmanhikpccnfaaaGreat
open Go.RowKit

variable {w : World} {base b : Nat} {x : Stp} {evs : List Ev}

/-- What a value's function hands over. -/
def ValSt (w : World) (base b : Nat) (x : Stp) (evs : List Ev) (p : St × Nat) (e : Ending) (w' : World) : Prop := e = .returned (.int .u64 (p.2 : Nat)) ∧ Below base w w' ∧ Run w' base b { x with st := p.1 } evs
theorem ValSt.here (h : Run w base b x evs) (r : Nat) : ValSt w base b x evs (x.st, r) (.returned (.int .u64 r)) w := ⟨rfl, Below.refl _ _, h⟩

theorem ite_lt {c : Bool} {a b n : Nat} (ha : a < n) (hb : b < n) : (if c then a else b) < n := by cases c <;> assumption

theorem val_and (d bb : Nat) (hd : d < 18446744073709551616) (hb : bb < 18446744073709551616) : Go.bits .and .u64 (d : Int) (bb : Int) = ((d &&& bb : Nat) : Int) := bits_and_u64_nat d bb hd hb
theorem val_or (d bb : Nat) (hd : d < 18446744073709551616) (hb : bb < 18446744073709551616) : Go.bits .or .u64 (d : Int) (bb : Int) = ((d ||| bb : Nat) : Int) := bits_or_u64_nat d bb hd hb
theorem val_xor (d bb : Nat) (hd : d < 18446744073709551616) (hb : bb < 18446744073709551616) : Go.bits .xor .u64 (d : Int) (bb : Int) = ((d ^^^ bb : Nat) : Int) := bits_xor_u64_nat d bb hd hb

set_option linter.unusedVariables false in
theorem val1 (h : Run w base b x evs) (d bb : Nat) (hd : d < 18446744073709551616) (hb : bb < 18446744073709551616) :
    Calls Tryz.prog 84 #[.pointer (some ⟨b, 0, none⟩), .int .u64 d, .int .u64 bb] w (ValSt w base b x evs (x.st, bb)) := by
  have H := Lib.hid h
  clear h
  go_enter Tryz.func84, Tryz.ntmps84
  go_wp2
  go_ret
  exact ValSt.here H.out bb

set_option linter.unusedVariables false in
set_option maxRecDepth 100000 in
theorem val2 (h : Run w base b x evs) (d bb : Nat) (hd : d < 18446744073709551616) (hb : bb < 18446744073709551616) :
    Calls Tryz.prog 85 #[.pointer (some ⟨b, 0, none⟩), .int .u64 d, .int .u64 bb] w (ValSt w base b x evs (valueF.sumS x.st d bb false)) := by
  have HC := Lib.hid (sum_any h d bb false hd hb)
  obtain ⟨_, c17, c18, c19, _⟩ := h.cells
  have e1 := val_and d bb hd hb
  have e2 := val_or d bb hd hb
  have e3 := val_xor d bb hd hb
  clear h
  go_enter Tryz.func85, Tryz.ntmps85
  go_wp2_with fail
  refine HC.out.mono ?_
  rintro e w1 ⟨rfl, hb1, hr1⟩
  have HR := Lib.hid (show ValSt w base b x evs (valueF.sumS x.st d bb false) (.returned (.int .u64 ((valueF.sumS x.st d bb false : St × Nat).2 : Nat))) w1 from ⟨rfl, hb1, hr1⟩)
  clear hb1 hr1 e1 e2 e3
  go_wp2
  go_ret
  exact HR.out

set_option linter.unusedVariables false in
set_option maxRecDepth 100000 in
theorem val4 (h : Run w base b x evs) (d bb : Nat) (hd : d < 18446744073709551616) (hb : bb < 18446744073709551616) :
    Calls Tryz.prog 88 #[.pointer (some ⟨b, 0, none⟩), .int .u64 d, .int .u64 bb] w (ValSt w base b x evs (valueF.restS x.st d bb false)) := by
  have HC := Lib.hid (rest_any h d bb false hd hb)
  obtain ⟨_, c17, c18, c19, _⟩ := h.cells
  have e1 := val_and d bb hd hb
  have e2 := val_or d bb hd hb
  have e3 := val_xor d bb hd hb
  clear h
  go_enter Tryz.func88, Tryz.ntmps88
  go_wp2_with fail
  refine HC.out.mono ?_
  rintro e w1 ⟨rfl, hb1, hr1⟩
  have HR := Lib.hid (show ValSt w base b x evs (valueF.restS x.st d bb false) (.returned (.int .u64 ((valueF.restS x.st d bb false : St × Nat).2 : Nat))) w1 from ⟨rfl, hb1, hr1⟩)
  clear hb1 hr1 e1 e2 e3
  go_wp2
  go_ret
  exact HR.out

set_option linter.unusedVariables false in
set_option maxRecDepth 100000 in
theorem val6 (h : Run w base b x evs) (d bb : Nat) (hd : d < 18446744073709551616) (hb : bb < 18446744073709551616) :
    Calls Tryz.prog 91 #[.pointer (some ⟨b, 0, none⟩), .int .u64 d, .int .u64 bb] w (ValSt w base b x evs (valueF.plainS x.st (d &&& bb))) := by
  have HC := Lib.hid (plain_any h (d &&& bb))
  obtain ⟨_, c17, c18, c19, _⟩ := h.cells
  have e1 := val_and d bb hd hb
  have e2 := val_or d bb hd hb
  have e3 := val_xor d bb hd hb
  clear h
  go_enter Tryz.func91, Tryz.ntmps91
  go_wp2_with fail
  refine HC.out.mono ?_
  rintro e w1 ⟨rfl, hb1, hr1⟩
  have HR := Lib.hid (show ValSt w base b x evs (valueF.plainS x.st (d &&& bb)) (.returned (.int .u64 ((valueF.plainS x.st (d &&& bb) : St × Nat).2 : Nat))) w1 from ⟨rfl, hb1, hr1⟩)
  clear hb1 hr1 e1 e2 e3
  go_wp2
  go_ret
  exact HR.out

set_option linter.unusedVariables false in
set_option maxRecDepth 100000 in
theorem val7 (h : Run w base b x evs) (d bb : Nat) (hd : d < 18446744073709551616) (hb : bb < 18446744073709551616) :
    Calls Tryz.prog 93 #[.pointer (some ⟨b, 0, none⟩), .int .u64 d, .int .u64 bb] w (ValSt w base b x evs (valueF.plainS x.st (d ||| bb))) := by
  have HC := Lib.hid (plain_any h (d ||| bb))
  obtain ⟨_, c17, c18, c19, _⟩ := h.cells
  have e1 := val_and d bb hd hb
  have e2 := val_or d bb hd hb
  have e3 := val_xor d bb hd hb
  clear h
  go_enter Tryz.func93, Tryz.ntmps93
  go_wp2_with fail
  refine HC.out.mono ?_
  rintro e w1 ⟨rfl, hb1, hr1⟩
  have HR := Lib.hid (show ValSt w base b x evs (valueF.plainS x.st (d ||| bb)) (.returned (.int .u64 ((valueF.plainS x.st (d ||| bb) : St × Nat).2 : Nat))) w1 from ⟨rfl, hb1, hr1⟩)
  clear hb1 hr1 e1 e2 e3
  go_wp2
  go_ret
  exact HR.out

set_option linter.unusedVariables false in
set_option maxRecDepth 100000 in
theorem val8 (h : Run w base b x evs) (d bb : Nat) (hd : d < 18446744073709551616) (hb : bb < 18446744073709551616) :
    Calls Tryz.prog 94 #[.pointer (some ⟨b, 0, none⟩), .int .u64 d, .int .u64 bb] w (ValSt w base b x evs (valueF.plainS x.st (d ^^^ bb))) := by
  have HC := Lib.hid (plain_any h (d ^^^ bb))
  obtain ⟨_, c17, c18, c19, _⟩ := h.cells
  have e1 := val_and d bb hd hb
  have e2 := val_or d bb hd hb
  have e3 := val_xor d bb hd hb
  clear h
  go_enter Tryz.func94, Tryz.ntmps94
  go_wp2_with fail
  refine HC.out.mono ?_
  rintro e w1 ⟨rfl, hb1, hr1⟩
  have HR := Lib.hid (show ValSt w base b x evs (valueF.plainS x.st (d ^^^ bb)) (.returned (.int .u64 ((valueF.plainS x.st (d ^^^ bb) : St × Nat).2 : Nat))) w1 from ⟨rfl, hb1, hr1⟩)
  clear hb1 hr1 e1 e2 e3
  go_wp2
  go_ret
  exact HR.out

set_option linter.unusedVariables false in
set_option maxRecDepth 100000 in
theorem val9 (h : Run w base b x evs) (d bb : Nat) (hd : d < 18446744073709551616) (hb : bb < 18446744073709551616) :
    Calls Tryz.prog 95 #[.pointer (some ⟨b, 0, none⟩), .int .u64 d, .int .u64 bb] w (ValSt w base b x evs (valueF.restS x.st 0 d false)) := by
  have HC := Lib.hid (rest_any h 0 d false (by decide) hd)
  obtain ⟨_, c17, c18, c19, _⟩ := h.cells
  have e1 := val_and d bb hd hb
  have e2 := val_or d bb hd hb
  have e3 := val_xor d bb hd hb
  clear h
  go_enter Tryz.func95, Tryz.ntmps95
  go_wp2_with fail
  refine HC.out.mono ?_
  rintro e w1 ⟨rfl, hb1, hr1⟩
  have HR := Lib.hid (show ValSt w base b x evs (valueF.restS x.st 0 d false) (.returned (.int .u64 ((valueF.restS x.st 0 d false : St × Nat).2 : Nat))) w1 from ⟨rfl, hb1, hr1⟩)
  clear hb1 hr1 e1 e2 e3
  go_wp2
  go_ret
  exact HR.out

set_option linter.unusedVariables false in
set_option maxRecDepth 100000 in
theorem val3 (h : Run w base b x evs) (d bb : Nat) (hd : d < 18446744073709551616) (hb : bb < 18446744073709551616) :
    Calls Tryz.prog 87 #[.pointer (some ⟨b, 0, none⟩), .int .u64 d, .int .u64 bb] w (ValSt w base b x evs (valueF.sumS x.st d bb x.st.cf)) := by
  have HC := Lib.hid (sum_any h d bb x.st.cf hd hb)
  obtain ⟨_, c17, c18, c19, _⟩ := h.cells
  have e1 := val_and d bb hd hb
  have e2 := val_or d bb hd hb
  have e3 := val_xor d bb hd hb
  clear h
  go_enter Tryz.func87, Tryz.ntmps87
  go_wp2_with fail
  refine HC.out.mono ?_
  rintro e w1 ⟨rfl, hb1, hr1⟩
  have HR := Lib.hid (show ValSt w base b x evs (valueF.sumS x.st d bb x.st.cf) (.returned (.int .u64 ((valueF.sumS x.st d bb x.st.cf : St × Nat).2 : Nat))) w1 from ⟨rfl, hb1, hr1⟩)
  clear hb1 hr1 e1 e2 e3
  go_wp2
  go_ret
  exact HR.out

set_option linter.unusedVariables false in
set_option maxRecDepth 100000 in
theorem val5 (h : Run w base b x evs) (d bb : Nat) (hd : d < 18446744073709551616) (hb : bb < 18446744073709551616) :
    Calls Tryz.prog 90 #[.pointer (some ⟨b, 0, none⟩), .int .u64 d, .int .u64 bb] w (ValSt w base b x evs (valueF.restS x.st d bb x.st.cf)) := by
  have HC := Lib.hid (rest_any h d bb x.st.cf hd hb)
  obtain ⟨_, c17, c18, c19, _⟩ := h.cells
  have e1 := val_and d bb hd hb
  have e2 := val_or d bb hd hb
  have e3 := val_xor d bb hd hb
  clear h
  go_enter Tryz.func90, Tryz.ntmps90
  go_wp2_with fail
  refine HC.out.mono ?_
  rintro e w1 ⟨rfl, hb1, hr1⟩
  have HR := Lib.hid (show ValSt w base b x evs (valueF.restS x.st d bb x.st.cf) (.returned (.int .u64 ((valueF.restS x.st d bb x.st.cf : St × Nat).2 : Nat))) w1 from ⟨rfl, hb1, hr1⟩)
  clear hb1 hr1 e1 e2 e3
  go_wp2
  go_ret
  exact HR.out

set_option linter.unusedVariables false in
set_option maxRecDepth 100000 in
theorem val13 (h : Run w base b x evs) (d bb : Nat) (hd : d < 18446744073709551616) (hb : bb < 18446744073709551616) :
    Calls Tryz.prog 100 #[.pointer (some ⟨b, 0, none⟩), .int .u64 d, .int .u64 bb] w (ValSt w base b x evs (({ x.st with cf := (addF d bb x.st.cf).2 }, (addF d bb x.st.cf).1))) := by
  have HC := Lib.hid (chainC_any h d bb hd hb)
  obtain ⟨_, c17, c18, c19, _⟩ := h.cells
  have e1 := val_and d bb hd hb
  have e2 := val_or d bb hd hb
  have e3 := val_xor d bb hd hb
  clear h
  go_enter Tryz.func100, Tryz.ntmps100
  go_wp2_with fail
  refine HC.out.mono ?_
  rintro e w1 ⟨rfl, hb1, hr1⟩
  have HR := Lib.hid (show ValSt w base b x evs (({ x.st with cf := (addF d bb x.st.cf).2 }, (addF d bb x.st.cf).1)) (.returned (.int .u64 ((({ x.st with cf := (addF d bb x.st.cf).2 }, (addF d bb x.st.cf).1) : St × Nat).2 : Nat))) w1 from ⟨rfl, hb1, hr1⟩)
  clear hb1 hr1 e1 e2 e3
  go_wp2
  go_ret
  exact HR.out

set_option linter.unusedVariables false in
set_option maxRecDepth 100000 in
theorem val14 (h : Run w base b x evs) (d bb : Nat) (hd : d < 18446744073709551616) (hb : bb < 18446744073709551616) :
    Calls Tryz.prog 102 #[.pointer (some ⟨b, 0, none⟩), .int .u64 d, .int .u64 bb] w (ValSt w base b x evs (({ x.st with of_ := (addF d bb x.st.of_).2 }, (addF d bb x.st.of_).1))) := by
  have HC := Lib.hid (chainO_any h d bb hd hb)
  obtain ⟨_, c17, c18, c19, _⟩ := h.cells
  have e1 := val_and d bb hd hb
  have e2 := val_or d bb hd hb
  have e3 := val_xor d bb hd hb
  clear h
  go_enter Tryz.func102, Tryz.ntmps102
  go_wp2_with fail
  refine HC.out.mono ?_
  rintro e w1 ⟨rfl, hb1, hr1⟩
  have HR := Lib.hid (show ValSt w base b x evs (({ x.st with of_ := (addF d bb x.st.of_).2 }, (addF d bb x.st.of_).1)) (.returned (.int .u64 ((({ x.st with of_ := (addF d bb x.st.of_).2 }, (addF d bb x.st.of_).1) : St × Nat).2 : Nat))) w1 from ⟨rfl, hb1, hr1⟩)
  clear hb1 hr1 e1 e2 e3
  go_wp2
  go_ret
  exact HR.out

set_option linter.unusedVariables false in
set_option maxRecDepth 100000 in
theorem val10 (h : Run w base b x evs) (d bb : Nat) (hd : d < 18446744073709551616) (hb : bb < 18446744073709551616) :
    Calls Tryz.prog 96 #[.pointer (some ⟨b, 0, none⟩), .int .u64 d, .int .u64 bb] w (ValSt w base b x evs (x.st, 18446744073709551615 - d)) := by
  have H := Lib.hid h
  have hx : Go.bits .xor .u64 IntKind.u64.max (d : Int) = ((18446744073709551615 - d : Nat) : Int) := by
    have h1 := bits_xor_u64_nat 18446744073709551615 d (by decide) hd
    rw [show ((18446744073709551615 : Nat) : Int) = IntKind.u64.max from rfl] at h1
    rw [h1]
    congr 1
    refine Nat.eq_of_testBit_eq fun i => ?_
    have h2 := Nat.testBit_two_pow_sub_succ (n := 64) (x := d) hd i
    have h3 := Nat.testBit_two_pow_sub_one 64 i
    rw [show (2 : Nat) ^ 64 - (d + 1) = 18446744073709551615 - d by omega] at h2
    rw [show (2 : Nat) ^ 64 - 1 = 18446744073709551615 from rfl] at h3
    rw [Nat.testBit_xor, h2, h3]
    by_cases hi : i < 64
    · simp [hi]
    · have h4 : d.testBit i = false := Nat.testBit_lt_two_pow (Nat.lt_of_lt_of_le hd (Nat.pow_le_pow_right (n := 2) (by decide) (by omega : 64 ≤ i)))
      simp [hi, h4]
  have hsg : IntKind.u64.signed = false := rfl
  clear h
  go_enter Tryz.func96, Tryz.ntmps96
  go_wp2
  go_ret
  exact ValSt.here H.out _

set_option linter.unusedVariables false in
set_option maxRecDepth 100000 in
theorem val11 (h : Run w base b x evs) (d bb : Nat) (hd : d < 18446744073709551616) (hb1 : 1 ≤ bb) (hb2 : bb ≤ 63) :
    Calls Tryz.prog 97 #[.pointer (some ⟨b, 0, none⟩), .int .u64 d, .int .u64 bb] w (ValSt w base b x evs (valueF.shiftS x.st (d * 2 ^ bb % 18446744073709551616) (d / 2 ^ (64 - bb)))) := by
  have hbit : d / 2 ^ (64 - bb) < 18446744073709551616 := Nat.lt_of_le_of_lt (Nat.div_le_self _ _) hd
  have HC := Lib.hid (shift_any h (d * 2 ^ bb % 18446744073709551616) (d / 2 ^ (64 - bb)) hbit)
  have e1 : IntKind.u64.wrap ((d : Int) * 2 ^ bb) = ((d * 2 ^ bb % 18446744073709551616 : Nat) : Int) := by rw [wrapU']; simp
  have e2 : (d : Int) / 2 ^ (64 - bb) = ((d / 2 ^ (64 - bb) : Nat) : Int) := by simp
  have e3 : (d : Int) / 2 ^ bb = ((d / 2 ^ bb : Nat) : Int) := by simp
  have e4 : (d : Int) / 2 ^ (bb - 1) = ((d / 2 ^ (bb - 1) : Nat) : Int) := by simp
  generalize d * 2 ^ bb % 18446744073709551616 = q1 at *
  generalize d / 2 ^ (64 - bb) = q2 at *
  generalize d / 2 ^ bb = q3 at *
  generalize d / 2 ^ (bb - 1) = q4 at *
  clear h hbit
  go_enter Tryz.func97, Tryz.ntmps97
  go_wp2_with fail
  refine HC.out.mono ?_
  rintro e w1 ⟨rfl, hb1', hr1⟩
  have HR := Lib.hid (And.intro hb1' hr1)
  clear hb1' hr1
  go_wp2
  go_ret
  exact ⟨rfl, HR.out.1, HR.out.2⟩

set_option linter.unusedVariables false in
set_option maxRecDepth 100000 in
theorem val12 (h : Run w base b x evs) (d bb : Nat) (hd : d < 18446744073709551616) (hb1 : 1 ≤ bb) (hb2 : bb ≤ 63) :
    Calls Tryz.prog 99 #[.pointer (some ⟨b, 0, none⟩), .int .u64 d, .int .u64 bb] w (ValSt w base b x evs (valueF.shiftS x.st (d / 2 ^ bb) (d / 2 ^ (bb - 1)))) := by
  have hbit : d / 2 ^ (bb - 1) < 18446744073709551616 := Nat.lt_of_le_of_lt (Nat.div_le_self _ _) hd
  have HC := Lib.hid (shift_any h (d / 2 ^ bb) (d / 2 ^ (bb - 1)) hbit)
  have e1 : IntKind.u64.wrap ((d : Int) * 2 ^ bb) = ((d * 2 ^ bb % 18446744073709551616 : Nat) : Int) := by rw [wrapU']; simp
  have e2 : (d : Int) / 2 ^ (64 - bb) = ((d / 2 ^ (64 - bb) : Nat) : Int) := by simp
  have e3 : (d : Int) / 2 ^ bb = ((d / 2 ^ bb : Nat) : Int) := by simp
  have e4 : (d : Int) / 2 ^ (bb - 1) = ((d / 2 ^ (bb - 1) : Nat) : Int) := by simp
  generalize d * 2 ^ bb % 18446744073709551616 = q1 at *
  generalize d / 2 ^ (64 - bb) = q2 at *
  generalize d / 2 ^ bb = q3 at *
  generalize d / 2 ^ (bb - 1) = q4 at *
  clear h hbit
  go_enter Tryz.func99, Tryz.ntmps99
  go_wp2_with fail
  refine HC.out.mono ?_
  rintro e w1 ⟨rfl, hb1', hr1⟩
  have HR := Lib.hid (And.intro hb1' hr1)
  clear hb1' hr1
  go_wp2
  go_ret
  exact ⟨rfl, HR.out.1, HR.out.2⟩

set_option linter.unusedVariables false in
set_option maxRecDepth 100000 in
theorem val15 (h : Run w base b x evs) (d bb : Nat) (hd : d < 18446744073709551616) (hb : bb < 18446744073709551616) :
    Calls Tryz.prog 103 #[.pointer (some ⟨b, 0, none⟩), .int .u64 d, .int .u64 bb] w (ValSt w base b x evs (x.st, if x.st.cf then bb else d)) := by
  have HC := Lib.hid (pick_any (x.st.cf) bb d w)
  have H := Lib.hid h
  obtain ⟨_, c17, c18, c19, _⟩ := h.cells
  have HR := Lib.hid (ValSt.here h (if x.st.cf then bb else d))
  generalize (if x.st.cf then bb else d) = q at *
  clear h
  go_enter Tryz.func103, Tryz.ntmps103
  go_wp2_with fail
  refine HC.out.mono ?_
  rintro e w1 ⟨rfl, rfl⟩
  go_wp2
  go_ret
  exact HR.out

set_option linter.unusedVariables false in
set_option maxRecDepth 100000 in
theorem val16 (h : Run w base b x evs) (d bb : Nat) (hd : d < 18446744073709551616) (hb : bb < 18446744073709551616) :
    Calls Tryz.prog 105 #[.pointer (some ⟨b, 0, none⟩), .int .u64 d, .int .u64 bb] w (ValSt w base b x evs (x.st, if !x.st.zf then bb else d)) := by
  have HC := Lib.hid (pick_any (!x.st.zf) bb d w)
  have H := Lib.hid h
  obtain ⟨_, c17, c18, c19, _⟩ := h.cells
  have HR := Lib.hid (ValSt.here h (if !x.st.zf then bb else d))
  generalize (if !x.st.zf then bb else d) = q at *
  clear h
  go_enter Tryz.func105, Tryz.ntmps105
  go_wp2_with fail
  refine HC.out.mono ?_
  rintro e w1 ⟨rfl, rfl⟩
  go_wp2
  go_ret
  exact HR.out

theorem val15q (h : Run w base b x evs) (d bb : Nat) (hd : d < 18446744073709551616) (hb : bb < 18446744073709551616) (q : Nat) (hq : q = if x.st.cf then bb else d) :
    Calls Tryz.prog 103 #[.pointer (some ⟨b, 0, none⟩), .int .u64 d, .int .u64 bb] w (ValSt w base b x evs (x.st, q)) := by
  subst hq; exact val15 h d bb hd hb

theorem val16q (h : Run w base b x evs) (d bb : Nat) (hd : d < 18446744073709551616) (hb : bb < 18446744073709551616) (q : Nat) (hq : q = if !x.st.zf then bb else d) :
    Calls Tryz.prog 105 #[.pointer (some ⟨b, 0, none⟩), .int .u64 d, .int .u64 bb] w (ValSt w base b x evs (x.st, q)) := by
  subst hq; exact val16 h d bb hd hb

end Go.Proofs.YtmanhikpccnfaaaGreat
