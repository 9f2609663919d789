/- What a step comes to is a state: plain. -/
import Derived.Test.YtmanhikpccnfaaaGreatPlainStaysC
namespace Go.Proofs.YtmanhikpccnfaaaGreat
open Go.RowKit

theorem value_lt {s s1 : St} {op : Int} {d b r : Nat} (hd : d < 18446744073709551616) (hb : b < 18446744073709551616) (h : valueF s op d b = some (s1, r)) : r < 18446744073709551616 := by
  unfold valueF at h
  by_cases h0 : op = 1 ∨ op = 2
  · rw [if_pos h0] at h; cases h; exact hb
  rw [if_neg h0] at h
  by_cases h1 : op = 6 ∨ op = 15
  · rw [if_pos h1] at h; cases h; exact addF_lt _ _ _
  rw [if_neg h1] at h
  by_cases h2 : op = 7
  · rw [if_pos h2] at h; cases h; exact addF_lt _ _ _
  rw [if_neg h2] at h
  by_cases h3 : op = 8 ∨ op = 17 ∨ op = 13 ∨ op = 18
  · rw [if_pos h3] at h; cases h; exact subF_lt _ _ _
  rw [if_neg h3] at h
  by_cases h4 : op = 9
  · rw [if_pos h4] at h; cases h; exact subF_lt _ _ _
  rw [if_neg h4] at h
  by_cases h5 : op = 10 ∨ op = 16 ∨ op = 14
  · rw [if_pos h5] at h; cases h; exact and_lt hd
  rw [if_neg h5] at h
  by_cases h6 : op = 11
  · rw [if_pos h6] at h; cases h; exact or_lt hd hb
  rw [if_neg h6] at h
  by_cases h7 : op = 12
  · rw [if_pos h7] at h; cases h; exact xor_lt hd hb
  rw [if_neg h7] at h
  by_cases h8 : op = 22
  · rw [if_pos h8] at h; cases h; exact subF_lt _ _ _
  rw [if_neg h8] at h
  by_cases h9 : op = 23
  · rw [if_pos h9] at h; cases h; exact (by omega)
  rw [if_neg h9] at h
  by_cases h10 : op = 24
  · rw [if_pos h10] at h; cases h; exact Nat.mod_lt _ (by decide)
  rw [if_neg h10] at h
  by_cases h11 : op = 25
  · rw [if_pos h11] at h; cases h; exact Nat.lt_of_le_of_lt (Nat.div_le_self _ _) hd
  rw [if_neg h11] at h
  by_cases h12 : op = 20
  · rw [if_pos h12] at h; cases h; exact addF_lt _ _ _
  rw [if_neg h12] at h
  by_cases h13 : op = 21
  · rw [if_pos h13] at h; cases h; exact addF_lt _ _ _
  rw [if_neg h13] at h
  by_cases h14 : op = 26
  · rw [if_pos h14] at h; cases h; exact ite_lt hb hd
  rw [if_neg h14] at h
  by_cases h15 : op = 27
  · rw [if_pos h15] at h; cases h; exact ite_lt hd hb
  rw [if_neg h15] at h
  cases h
theorem regAt_lt {s : St} (hs : StOk s) (k : Int) : regAt s k < 18446744073709551616 := by
  unfold regAt
  rw [List.getD_eq_getElem?_getD]
  cases h : s.regs[k.toNat]? with
  | none => simp
  | some r => exact hs.regs r (List.mem_of_getElem? h)
theorem StOk.pc_ {s : St} (h : StOk s) {q : Nat} (hq : q < 18446744073709551616) : StOk { s with pc := q } := ⟨h.len, h.regs, hq⟩
theorem over_ok {s s2 : St} {i : Ins} (hs : StOk s) (ho : overF s i = some s2) : StOk s2 := by
  unfold overF at ho
  split at ho
  · cases ho
  · rename_i s1 r hv
    obtain ⟨k1, k2⟩ := value_keep hv
    have hb : (if takesS i.op then regAt s i.s else u64 i.imm) < 18446744073709551616 := by
      split
      · exact regAt_lt hs _
      · exact u64_lt _
    have hr := value_lt (regAt_lt hs _) hb hv
    have h1 : StOk s1 := ⟨by rw [k1]; exact hs.len, by rw [k1]; exact hs.regs, by rw [k2]; exact hs.pc⟩
    obtain rfl := Option.some.inj ho
    split
    · exact h1
    · exact h1.set _ hr
theorem jump_ok {s : St} (hs : StOk s) (b : Bool) (n : Int) : StOk (jumpS s b n) := by
  unfold jumpS
  split
  · exact hs.pc_ (Nat.mod_lt _ (by decide))
  · exact hs
theorem do_ok {s : St} {i : Ins} {rs : List Reg} (hs : StOk s) : StOk (doF s i rs 0).1 := by
  unfold doF
  by_cases h3 : i.op = 3
  · rw [if_pos h3]; exact hs.set _ loadF_lt
  rw [if_neg h3]
  by_cases h4 : i.op = 4
  · rw [if_pos h4]; exact hs
  rw [if_neg h4]
  by_cases h5 : i.op = 5
  · rw [if_pos h5]; exact hs.set _ (Nat.mod_lt _ (by decide))
  rw [if_neg h5]
  by_cases h19 : i.op = 19
  · rw [if_pos h19]
    have h1 := regAt_lt hs i.t
    have h2 := regAt_lt hs 2
    refine (hs.set _ ?_).set _ (Nat.mod_lt _ (by decide))
    show regAt s i.t * regAt s 2 / 18446744073709551616 < _
    have h3 := Nat.mul_le_mul (Nat.le_of_lt_succ h1) (Nat.le_of_lt_succ h2)
    omega
  rw [if_neg h19]
  by_cases h28 : i.op = 28
  · rw [if_pos h28]; exact hs.set _ (Nat.mod_lt _ (by decide))
  rw [if_neg h28]
  by_cases h29 : i.op = 29
  · rw [if_pos h29]; exact (hs.set _ (Nat.mod_lt _ (by decide))).set _ loadF_lt
  rw [if_neg h29]
  by_cases h33 : i.op = 33
  · rw [if_pos h33]; exact (hs.set 4 (Nat.mod_lt _ (by decide))).pc_ loadF_lt
  rw [if_neg h33]
  exact jump_ok hs _ _
theorem step_ok {s : St} (hs : StOk s) (i : Ins) (size : Int) (rs : List Reg) : StOk (stepF s i size rs).st := by
  unfold stepF
  split
  · have h1 : StOk { s with pc := (s.pc + u64 size) % 18446744073709551616 } := hs.pc_ (Nat.mod_lt _ (by decide))
    split
    · rename_i s2 ho; exact over_ok h1 ho
    · by_cases hz : (doF { s with pc := (s.pc + u64 size) % 18446744073709551616 } i rs 0).2.2.1 = 0
      · simp only [if_pos hz]; exact do_ok h1
      · simp only [if_neg hz]; exact hs
  · exact hs
end Go.Proofs.YtmanhikpccnfaaaGreat
