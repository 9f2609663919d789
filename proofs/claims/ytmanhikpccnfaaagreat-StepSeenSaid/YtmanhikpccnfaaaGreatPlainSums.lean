/- Sums limb by limb: plain. -/
import Derived.Test.YtmanhikpccnfaaaGreatStepPl
namespace Go.Proofs.YtmanhikpccnfaaaGreat
open Go.RowKit

/-- A state of which four registers count. -/
def st4 (a b c d pc : Nat) (cf o z : Bool) : St := ⟨[a, b, 0, c, 0, 0, d, 0, 0, 0, 0, 0, 0, 0, 0, 0], pc, cf, o, z⟩
def ofA (a b r : Nat) : Bool := (topB a == topB b) && (topB r != topB a)
def ofS (a b r : Nat) : Bool := (topB a != topB b) && (topB r != topB a)

section
variable (a b c d pc : Nat) (cf o z : Bool) (rs : List Reg) 
theorem adc03 (hp : pc < 1000000) : stepF (st4 a b c d pc cf o z) ⟨7, 0, 3, 0, 0, 0, 0, 0, 0⟩ 3 rs = ⟨0, st4 (addF a c cf).1 b c d (pc + 3) (addF a c cf).2 (ofA a c (addF a c cf).1) ((addF a c cf).1 == 0), [⟨1, pc⟩], rs⟩ := by
  have e : (pc + u64 3) % 18446744073709551616 = pc + 3 := by rw [show u64 3 = 3 from rfl]; omega
  have h := stepF_over (s := st4 a b c d pc cf o z) (i := ⟨7, 0, 3, 0, 0, 0, 0, 0, 0⟩) (size := 3) (rs := rs) (by decide +kernel) (by decide) (by decide) rfl
  rw [h]
  show StepR.mk 0 (st4 (addF a c cf).1 b c d ((pc + u64 3) % 18446744073709551616) _ _ _) _ _ = _
  rw [e]
  rfl
theorem adc16 (hp : pc < 1000000) : stepF (st4 a b c d pc cf o z) ⟨7, 1, 6, 0, 0, 0, 0, 0, 0⟩ 3 rs = ⟨0, st4 a (addF b d cf).1 c d (pc + 3) (addF b d cf).2 (ofA b d (addF b d cf).1) ((addF b d cf).1 == 0), [⟨1, pc⟩], rs⟩ := by
  have e : (pc + u64 3) % 18446744073709551616 = pc + 3 := by rw [show u64 3 = 3 from rfl]; omega
  have h := stepF_over (s := st4 a b c d pc cf o z) (i := ⟨7, 1, 6, 0, 0, 0, 0, 0, 0⟩) (size := 3) (rs := rs) (by decide +kernel) (by decide) (by decide) rfl
  rw [h]
  show StepR.mk 0 (st4 a (addF b d cf).1 c d ((pc + u64 3) % 18446744073709551616) _ _ _) _ _ = _
  rw [e]
  rfl
theorem sbb03 (hp : pc < 1000000) : stepF (st4 a b c d pc cf o z) ⟨9, 0, 3, 0, 0, 0, 0, 0, 0⟩ 3 rs = ⟨0, st4 (subF a c cf).1 b c d (pc + 3) (subF a c cf).2 (ofS a c (subF a c cf).1) ((subF a c cf).1 == 0), [⟨1, pc⟩], rs⟩ := by
  have e : (pc + u64 3) % 18446744073709551616 = pc + 3 := by rw [show u64 3 = 3 from rfl]; omega
  have h := stepF_over (s := st4 a b c d pc cf o z) (i := ⟨9, 0, 3, 0, 0, 0, 0, 0, 0⟩) (size := 3) (rs := rs) (by decide +kernel) (by decide) (by decide) rfl
  rw [h]
  show StepR.mk 0 (st4 (subF a c cf).1 b c d ((pc + u64 3) % 18446744073709551616) _ _ _) _ _ = _
  rw [e]
  rfl
theorem sbb16 (hp : pc < 1000000) : stepF (st4 a b c d pc cf o z) ⟨9, 1, 6, 0, 0, 0, 0, 0, 0⟩ 3 rs = ⟨0, st4 a (subF b d cf).1 c d (pc + 3) (subF b d cf).2 (ofS b d (subF b d cf).1) ((subF b d cf).1 == 0), [⟨1, pc⟩], rs⟩ := by
  have e : (pc + u64 3) % 18446744073709551616 = pc + 3 := by rw [show u64 3 = 3 from rfl]; omega
  have h := stepF_over (s := st4 a b c d pc cf o z) (i := ⟨9, 1, 6, 0, 0, 0, 0, 0, 0⟩) (size := 3) (rs := rs) (by decide +kernel) (by decide) (by decide) rfl
  rw [h]
  show StepR.mk 0 (st4 a (subF b d cf).1 c d ((pc + u64 3) % 18446744073709551616) _ _ _) _ _ = _
  rw [e]
  rfl
theorem adcx03 (hp : pc < 1000000) : stepF (st4 a b c d pc cf o z) ⟨20, 0, 3, 0, 0, 0, 0, 0, 0⟩ 6 rs = ⟨0, st4 (addF a c cf).1 b c d (pc + 6) (addF a c cf).2 o z, [⟨1, pc⟩], rs⟩ := by
  have e : (pc + u64 6) % 18446744073709551616 = pc + 6 := by rw [show u64 6 = 6 from rfl]; omega
  have h := stepF_over (s := st4 a b c d pc cf o z) (i := ⟨20, 0, 3, 0, 0, 0, 0, 0, 0⟩) (size := 6) (rs := rs) (by decide +kernel) (by decide) (by decide) rfl
  rw [h]
  show StepR.mk 0 (st4 (addF a c cf).1 b c d ((pc + u64 6) % 18446744073709551616) _ _ _) _ _ = _
  rw [e]
  rfl
theorem adox03 (hp : pc < 1000000) : stepF (st4 a b c d pc cf o z) ⟨21, 0, 3, 0, 0, 0, 0, 0, 0⟩ 6 rs = ⟨0, st4 (addF a c o).1 b c d (pc + 6) cf (addF a c o).2 z, [⟨1, pc⟩], rs⟩ := by
  have e : (pc + u64 6) % 18446744073709551616 = pc + 6 := by rw [show u64 6 = 6 from rfl]; omega
  have h := stepF_over (s := st4 a b c d pc cf o z) (i := ⟨21, 0, 3, 0, 0, 0, 0, 0, 0⟩) (size := 6) (rs := rs) (by decide +kernel) (by decide) (by decide) rfl
  rw [h]
  show StepR.mk 0 (st4 (addF a c o).1 b c d ((pc + u64 6) % 18446744073709551616) _ _ _) _ _ = _
  rw [e]
  rfl
end
theorem sub_add {a c : Nat} (k : Bool) (ha : a < 18446744073709551616) (hc : c < 18446744073709551616) : (subF (addF a c k).1 c k).1 = a ∧ (subF (addF a c k).1 c k).2 = (addF a c k).2 := by
  have hk : k.toNat = 0 ∨ k.toNat = 1 := by cases k <;> simp
  have h1 : (addF a c k).1 = (a + c + k.toNat) % 18446744073709551616 := rfl
  have h2 : (addF a c k).2 = decide (18446744073709551616 ≤ a + c + k.toNat) := rfl
  generalize (addF a c k).1 = r at *
  rw [h2]
  refine ⟨by show (18446744073709551616 + r - c - k.toNat) % 18446744073709551616 = a; omega, ?_⟩
  show decide (r < c + k.toNat) = _
  rw [decide_eq_decide]
  constructor <;> intro h <;> omega
end Go.Proofs.YtmanhikpccnfaaaGreat
