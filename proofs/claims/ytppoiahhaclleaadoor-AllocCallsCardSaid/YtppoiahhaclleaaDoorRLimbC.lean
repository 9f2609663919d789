/- ref12.fields: whether an operation has what it must. -/
import Derived.Test.YtppoiahhaclleaaDoorRLimbB
namespace Go.Proofs.YtppoiahhaclleaaDoor
open Go.RowKit

def regsB (p : LP) (o : LOp) : Bool := regIs p o.d (kD o.kind) && (regIs p o.e (kE o.kind) && ((regIs p o.a (kA o.kind) || (kM o.kind && o.a == -1)) && (regIs p o.b (kB o.kind) && (regIs p o.c (kC o.kind) && !(kE o.kind && o.d == o.e)))))
theorem fields_split {p : LP} {o : LOp} (h1 : 1 ≤ o.kind) (h17 : o.kind ≤ 17) : fieldsF p o = (regsB p o && bufOk p o) := by
  unfold fieldsF regsB regsOk
  rw [decide_eq_true h1, decide_eq_true h17]
  simp only [Bool.true_and, Bool.and_assoc]

set_option maxRecDepth 100000 in
set_option maxHeartbeats 8000000 in
theorem Rfields_bad (p : LP) (Ab Ao : Option Addr) (nb cb no co : Nat) (o : LOp) (w : World) (h : o.kind < 1 ∨ 17 < o.kind) :
    Calls Tryd.prog 27 #[.agg #[.int .i64 p.regs, .slice Ab nb cb, .slice Ao no co], .agg (opRow o).toArray] w fun e w' => e = .returned (.bool (fieldsF p o)) ∧ Below w.heap.size w w' := by
  have hf : fieldsF p o = false := by
    unfold fieldsF
    rcases h with h | h
    · rw [decide_eq_false (by omega)]; rfl
    · rw [decide_eq_false (by omega : ¬ o.kind ≤ 17)]; simp
  rw [hf]
  clear hf
  obtain ⟨W, hW, hbW, hzW, kp, ko⟩ := two_rows w [.int .i64 p.regs, .slice Ab nb cb, .slice Ao no co] o 25 47
  have HW := Lib.hid hW
  have HB := Lib.hid hbW
  have KP := Lib.hid kp
  have KO := Lib.hid ko
  have c0 : W.cell? ⟨w.heap.size + 1, 0, none⟩ = some (.int .i64 o.kind) := by simp only [World.cell?, ko]; rfl
  clear hW hbW hzW kp ko
  obtain ⟨k, hk⟩ : ∃ k, o.kind = k := ⟨_, rfl⟩
  rw [hk] at c0 h
  clear hk
  by_cases h1 : k < 1
  · have d1 : decide (k < 1) = true := decide_eq_true h1
    go_enter Tryd.func27, Tryd.ntmps27
    go_upto_region 1 with fail
    rw [← HW.out]
    go_wp2
    go_ret
    exact ⟨rfl, HB.out⟩
  · have d1 : decide (k < 1) = false := decide_eq_false h1
    have h2 : 17 < k := by omega
    have d2 : decide (17 < k) = true := decide_eq_true h2
    clear h
    go_enter Tryd.func27, Tryd.ntmps27
    go_upto_region 1 with fail
    rw [← HW.out]
    go_wp2
    go_ret
    exact ⟨rfl, HB.out⟩
end Go.Proofs.YtppoiahhaclleaaDoor
