/- What a step comes to: plain. -/
import Derived.Test.YtmanhikpccnfaaaGreatStepS
namespace Go.Proofs.YtmanhikpccnfaaaGreat
open Go.RowKit

/-- What a step comes to. -/
structure StepR where
  code : Int
  st : St
  evs : List Ev
  rs : List Reg
def stepF (s : St) (i : Ins) (size : Int) (rs : List Reg) : StepR :=
  if chkP i && (decide (1 ≤ size) && decide (size ≤ 15)) then
    match overF { s with pc := (s.pc + u64 size) % 18446744073709551616 } i with
    | some s2 => ⟨0, s2, [⟨1, s.pc⟩], rs⟩
    | none =>
      let r := doF { s with pc := (s.pc + u64 size) % 18446744073709551616 } i rs 0
      if r.2.2.1 = 0 then ⟨0, r.1, ⟨1, s.pc⟩ :: r.2.1, r.2.2.2⟩ else ⟨r.2.2.1, s, [], r.2.2.2⟩
  else ⟨2, s, [], rs⟩

theorem stepF_over {s s2 : St} {i : Ins} {size : Int} {rs : List Reg} (hc : chkP i = true) (h1 : 1 ≤ size) (h2 : size ≤ 15) (ho : overF { s with pc := (s.pc + u64 size) % 18446744073709551616 } i = some s2) : stepF s i size rs = ⟨0, s2, [⟨1, s.pc⟩], rs⟩ := by
  unfold stepF
  rw [if_pos (by simp [hc, h1, h2]), ho]
theorem stepF_do {s : St} {i : Ins} {size : Int} {rs : List Reg} (hc : chkP i = true) (h1 : 1 ≤ size) (h2 : size ≤ 15) (ho : overF { s with pc := (s.pc + u64 size) % 18446744073709551616 } i = none) (he : (doF { s with pc := (s.pc + u64 size) % 18446744073709551616 } i rs 0).2.2.1 = 0) :
    stepF s i size rs = ⟨0, (doF { s with pc := (s.pc + u64 size) % 18446744073709551616 } i rs 0).1, ⟨1, s.pc⟩ :: (doF { s with pc := (s.pc + u64 size) % 18446744073709551616 } i rs 0).2.1, (doF { s with pc := (s.pc + u64 size) % 18446744073709551616 } i rs 0).2.2.2⟩ := by
  unfold stepF
  rw [if_pos (by simp [hc, h1, h2]), ho]
  simp only [he, if_true]
end Go.Proofs.YtmanhikpccnfaaaGreat
