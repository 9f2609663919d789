/- What a step leaves, and what does not matter to it: plain, the whole. -/
import Derived.Test.YtmanhikpccnfaaaGreatPlainStaysB
namespace Go.Proofs.YtmanhikpccnfaaaGreat
open Go.RowKit

/-- The flags that an operation makes. -/
def flagsW (op : Int) : Nat := if (6 ≤ op ∧ op ≤ 18) ∨ op = 22 then 7 else if op = 24 ∨ op = 25 then 5 else if op = 20 then 1 else if op = 21 then 2 else 0
def flagsR (op : Int) : Nat := if op = 7 ∨ op = 9 ∨ op = 20 ∨ op = 26 ∨ op = 32 then 1 else if op = 21 then 2 else if op = 27 ∨ op = 31 then 4 else 0
/-- The flags that are not made stay. -/
def FlagsStay (op : Int) (s n : St) : Prop := (flagsW op &&& 1 = 0 → n.cf = s.cf) ∧ (flagsW op &&& 2 = 0 → n.of_ = s.of_) ∧ (flagsW op &&& 4 = 0 → n.zf = s.zf)
theorem flags_none {op : Int} {s n : St} (h : n.cf = s.cf ∧ n.of_ = s.of_ ∧ n.zf = s.zf) : FlagsStay op s n := ⟨fun _ => h.1, fun _ => h.2.1, fun _ => h.2.2⟩
theorem value_flags {s s1 : St} {op : Int} {d b r : Nat} (h : valueF s op d b = some (s1, r)) : FlagsStay op s s1 := by
  unfold valueF at h
  by_cases h0 : op = 1 ∨ op = 2
  · rw [if_pos h0] at h; cases h; exact flags_none ⟨rfl, rfl, rfl⟩
  rw [if_neg h0] at h
  by_cases h1 : op = 6 ∨ op = 15
  · have hf : flagsW op = 7 := by unfold flagsW; rw [if_pos (by omega)]
    exact ⟨fun h => by rw [hf] at h; exact absurd h (by decide), fun h => by rw [hf] at h; exact absurd h (by decide), fun h => by rw [hf] at h; exact absurd h (by decide)⟩
  rw [if_neg h1] at h
  by_cases h2 : op = 7
  · have hf : flagsW op = 7 := by unfold flagsW; rw [if_pos (by omega)]
    exact ⟨fun h => by rw [hf] at h; exact absurd h (by decide), fun h => by rw [hf] at h; exact absurd h (by decide), fun h => by rw [hf] at h; exact absurd h (by decide)⟩
  rw [if_neg h2] at h
  by_cases h3 : op = 8 ∨ op = 17 ∨ op = 13 ∨ op = 18
  · have hf : flagsW op = 7 := by unfold flagsW; rw [if_pos (by omega)]
    exact ⟨fun h => by rw [hf] at h; exact absurd h (by decide), fun h => by rw [hf] at h; exact absurd h (by decide), fun h => by rw [hf] at h; exact absurd h (by decide)⟩
  rw [if_neg h3] at h
  by_cases h4 : op = 9
  · have hf : flagsW op = 7 := by unfold flagsW; rw [if_pos (by omega)]
    exact ⟨fun h => by rw [hf] at h; exact absurd h (by decide), fun h => by rw [hf] at h; exact absurd h (by decide), fun h => by rw [hf] at h; exact absurd h (by decide)⟩
  rw [if_neg h4] at h
  by_cases h5 : op = 10 ∨ op = 16 ∨ op = 14
  · have hf : flagsW op = 7 := by unfold flagsW; rw [if_pos (by omega)]
    exact ⟨fun h => by rw [hf] at h; exact absurd h (by decide), fun h => by rw [hf] at h; exact absurd h (by decide), fun h => by rw [hf] at h; exact absurd h (by decide)⟩
  rw [if_neg h5] at h
  by_cases h6 : op = 11
  · have hf : flagsW op = 7 := by unfold flagsW; rw [if_pos (by omega)]
    exact ⟨fun h => by rw [hf] at h; exact absurd h (by decide), fun h => by rw [hf] at h; exact absurd h (by decide), fun h => by rw [hf] at h; exact absurd h (by decide)⟩
  rw [if_neg h6] at h
  by_cases h7 : op = 12
  · have hf : flagsW op = 7 := by unfold flagsW; rw [if_pos (by omega)]
    exact ⟨fun h => by rw [hf] at h; exact absurd h (by decide), fun h => by rw [hf] at h; exact absurd h (by decide), fun h => by rw [hf] at h; exact absurd h (by decide)⟩
  rw [if_neg h7] at h
  by_cases h8 : op = 22
  · have hf : flagsW op = 7 := by unfold flagsW; rw [if_pos (by omega)]
    exact ⟨fun h => by rw [hf] at h; exact absurd h (by decide), fun h => by rw [hf] at h; exact absurd h (by decide), fun h => by rw [hf] at h; exact absurd h (by decide)⟩
  rw [if_neg h8] at h
  by_cases h9 : op = 23
  · rw [if_pos h9] at h; cases h; exact flags_none ⟨rfl, rfl, rfl⟩
  rw [if_neg h9] at h
  by_cases h10 : op = 24
  · have hf : flagsW op = 5 := by unfold flagsW; rw [if_neg (by omega), if_pos (by omega)]
    rw [if_pos h10] at h
    cases h
    exact ⟨(fun h => by rw [hf] at h; exact absurd h (by decide)), fun _ => rfl, (fun h => by rw [hf] at h; exact absurd h (by decide))⟩
  rw [if_neg h10] at h
  by_cases h11 : op = 25
  · have hf : flagsW op = 5 := by unfold flagsW; rw [if_neg (by omega), if_pos (by omega)]
    rw [if_pos h11] at h
    cases h
    exact ⟨(fun h => by rw [hf] at h; exact absurd h (by decide)), fun _ => rfl, (fun h => by rw [hf] at h; exact absurd h (by decide))⟩
  rw [if_neg h11] at h
  by_cases h12 : op = 20
  · have hf : flagsW op = 1 := by unfold flagsW; rw [if_neg (by omega), if_neg (by omega), if_pos (by omega)]
    rw [if_pos h12] at h
    cases h
    exact ⟨(fun h => by rw [hf] at h; exact absurd h (by decide)), fun _ => rfl, fun _ => rfl⟩
  rw [if_neg h12] at h
  by_cases h13 : op = 21
  · have hf : flagsW op = 2 := by unfold flagsW; rw [if_neg (by omega), if_neg (by omega), if_neg (by omega), if_pos (by omega)]
    rw [if_pos h13] at h
    cases h
    exact ⟨fun _ => rfl, (fun h => by rw [hf] at h; exact absurd h (by decide)), fun _ => rfl⟩
  rw [if_neg h13] at h
  by_cases h14 : op = 26
  · rw [if_pos h14] at h; cases h; exact flags_none ⟨rfl, rfl, rfl⟩
  rw [if_neg h14] at h
  by_cases h15 : op = 27
  · rw [if_pos h15] at h; cases h; exact flags_none ⟨rfl, rfl, rfl⟩
  rw [if_neg h15] at h
  cases h
theorem over_flags {s s2 : St} {i : Ins} (ho : overF s i = some s2) : FlagsStay i.op s s2 := by
  unfold overF at ho
  split at ho
  · cases ho
  · rename_i s1 r hv
    have hf := value_flags hv
    obtain rfl := Option.some.inj ho
    split <;> exact hf

theorem over_is {s s2 : St} {i : Ins} (hc : chkP i = true) (ho : overF s i = some s2) : isOver i.op = true := by
  have hr := chk_range hc
  cases h : isOver i.op with
  | true => rfl
  | false =>
    exfalso
    have h1 : i.op = 3 ∨ i.op = 4 ∨ i.op = 5 ∨ i.op = 19 ∨ 28 ≤ i.op := by
      simp only [isOver, Bool.or_eq_false_iff, Bool.and_eq_false_iff, decide_eq_false_iff_not] at h
      omega
    unfold overF at ho
    have hv : ∀ d b, valueF s i.op d b = none := fun d b => by
      unfold valueF
      rw [if_neg (by omega), if_neg (by omega), if_neg (by omega), if_neg (by omega), if_neg (by omega), if_neg (by omega), if_neg (by omega), if_neg (by omega), if_neg (by omega), if_neg (by omega), if_neg (by omega), if_neg (by omega), if_neg (by omega), if_neg (by omega), if_neg (by omega), if_neg (by omega)]
    rw [hv] at ho
    cases ho
theorem over_none_sv {s : St} {i : Ins} (R : List Nat) (hc : chkP i = true) (ho : overF s i = none) : overF (sv s R) i = none := by
  cases h : overF (sv s R) i with
  | none => rfl
  | some s2 =>
    obtain ⟨s1, r, hv⟩ := over_value (s := s) (d := regAt s i.d) (b := if takesS i.op then regAt s i.s else u64 i.imm) (over_is hc h)
    unfold overF at ho
    rw [hv] at ho
    cases ho

/-- A step: what it leaves, and what does not matter to it. -/
theorem step_stays {s : St} {i : Ins} {size : Int} {rs : List Reg} (h : (stepF s i size rs).code = 0) : chkP i = true ∧
    (∀ k, (writesL (formR i.op) i).getD k false = false → (stepF s i size rs).st.regs.getD k 0 = s.regs.getD k 0) ∧ FlagsStay i.op s (stepF s i size rs).st ∧
    (∀ r v, (readsL (formR i.op) i).getD r false = false → stepF (sv s (s.regs.set r v)) i size rs = ⟨0, if (writesL (formR i.op) i).getD r false then (stepF s i size rs).st else sv (stepF s i size rs).st ((stepF s i size rs).st.regs.set r v), (stepF s i size rs).evs, (stepF s i size rs).rs⟩) := by
  by_cases hg : (chkP i && (decide (1 ≤ size) && decide (size ≤ 15))) = true
  · have hc : chkP i = true := by rw [Bool.and_eq_true] at hg; exact hg.1
    refine ⟨hc, ?_⟩
    cases ho : overF { s with pc := (s.pc + u64 size) % 18446744073709551616 } i with
    | some s2 =>
      have e : stepF s i size rs = ⟨0, s2, [⟨1, s.pc⟩], rs⟩ := by unfold stepF; rw [if_pos hg, ho]
      obtain ⟨hA, hC⟩ := over_stays hc (over_is hc ho) ho
      have hF := over_flags ho
      rw [e]
      refine ⟨hA, hF, fun r v hr => ?_⟩
      have h2 : overF { sv s (s.regs.set r v) with pc := ((sv s (s.regs.set r v)).pc + u64 size) % 18446744073709551616 } i = _ := hC r v hr
      unfold stepF
      rw [if_pos hg, h2]
      rfl
    | none =>
      have hD := do_stays (rs := rs) hc ho
      have e : stepF s i size rs = (let r := doF { s with pc := (s.pc + u64 size) % 18446744073709551616 } i rs 0; if r.2.2.1 = 0 then ⟨0, r.1, ⟨1, s.pc⟩ :: r.2.1, r.2.2.2⟩ else ⟨r.2.2.1, s, [], r.2.2.2⟩) := by unfold stepF; rw [if_pos hg, ho]
      have hz : (doF { s with pc := (s.pc + u64 size) % 18446744073709551616 } i rs 0).2.2.1 = 0 := by
        by_cases hz : (doF { s with pc := (s.pc + u64 size) % 18446744073709551616 } i rs 0).2.2.1 = 0
        · exact hz
        · rw [e] at h
          simp only [if_neg hz] at h
          exact absurd h hz
      simp only [if_pos hz] at e
      obtain ⟨hA, hC, hF⟩ := hD
      rw [e]
      refine ⟨hA, flags_none hF, fun r v hr => ?_⟩
      have h2 := hC r v hr
      have h3 : doF { sv s (s.regs.set r v) with pc := ((sv s (s.regs.set r v)).pc + u64 size) % 18446744073709551616 } i rs 0 = _ := h2
      have h4 : overF { sv s (s.regs.set r v) with pc := ((sv s (s.regs.set r v)).pc + u64 size) % 18446744073709551616 } i = none := over_none_sv (s.regs.set r v) hc ho
      unfold stepF
      rw [if_pos hg, h4]
      simp only [h3, if_pos hz]
      rfl
  · have e : stepF s i size rs = ⟨2, s, [], rs⟩ := by unfold stepF; rw [if_neg hg]
    rw [e] at h
    cases h
theorem storeVE_bad {rs : List Reg} {a v : Nat} (h : (storeVE rs a v).1 ≠ 0) : (storeVE rs a v).2 = rs := by
  unfold storeVE at h ⊢
  split
  · rfl
  · rename_i r hr
    rw [hr] at h
    exact absurd rfl h
theorem doF_bad {s : St} {i : Ins} {rs : List Reg} (h : (doF s i rs 0).2.2.1 ≠ 0) : (doF s i rs 0).2.2.2 = rs := by
  unfold doF at h ⊢
  by_cases h3 : i.op = 3
  · rw [if_pos h3]
  rw [if_neg h3] at h ⊢
  by_cases h4 : i.op = 4
  · rw [if_pos h4] at h ⊢; exact storeVE_bad h
  rw [if_neg h4] at h ⊢
  by_cases h5 : i.op = 5
  · rw [if_pos h5]
  rw [if_neg h5] at h ⊢
  by_cases h19 : i.op = 19
  · rw [if_pos h19]
  rw [if_neg h19] at h ⊢
  by_cases h28 : i.op = 28
  · rw [if_pos h28] at h ⊢; exact storeVE_bad h
  rw [if_neg h28] at h ⊢
  by_cases h29 : i.op = 29
  · rw [if_pos h29]
  rw [if_neg h29] at h ⊢
  by_cases h33 : i.op = 33
  · rw [if_pos h33]
  rw [if_neg h33]
theorem step_bad {s : St} {i : Ins} {size : Int} {rs : List Reg} (h : (stepF s i size rs).code ≠ 0) : (stepF s i size rs).st = s ∧ (stepF s i size rs).evs = [] ∧ (stepF s i size rs).rs = rs := by
  unfold stepF at h ⊢
  split
  · rename_i hg
    rw [if_pos hg] at h
    split
    · rename_i s2 ho
      rw [ho] at h
      exact absurd rfl h
    · rename_i ho
      rw [ho] at h
      by_cases hz : (doF { s with pc := (s.pc + u64 size) % 18446744073709551616 } i rs 0).2.2.1 = 0
      · simp only [if_pos hz] at h
        exact absurd rfl h
      · simp only [if_neg hz]
        exact ⟨trivial, trivial, doF_bad hz⟩
  · exact ⟨rfl, rfl, rfl⟩
end Go.Proofs.YtmanhikpccnfaaaGreat
