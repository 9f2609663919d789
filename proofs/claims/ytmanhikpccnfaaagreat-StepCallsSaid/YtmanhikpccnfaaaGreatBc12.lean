/- What a step leaves, and what does not matter to it: plain. -/
import Derived.Test.YtmanhikpccnfaaaGreatBc11
import Derived.Test.YtmanhikpccnfaaaGreatBc9
import Derived.Test.YtmanhikpccnfaaaGreatBc10
import Derived.Test.YtmanhikpccnfaaaGreatBc1
import Derived.Deep.Slices
import Derived.ProofKit
namespace Go.Proofs.YtmanhikpccnfaaaGreat
open Go.RowKit

def sv (s : St) (R : List Nat) : St := { s with regs := R }
theorem value_sv (s : St) (R : List Nat) (op : Int) (d b : Nat) : valueF (sv s R) op d b = (valueF s op d b).map fun x => (sv x.1 R, x.2) := by
  unfold valueF
  by_cases h0 : op = 1 ∨ op = 2
  · rw [if_pos h0, if_pos h0]; rfl
  rw [if_neg h0, if_neg h0]
  by_cases h1 : op = 6 ∨ op = 15
  · rw [if_pos h1, if_pos h1]; rfl
  rw [if_neg h1, if_neg h1]
  by_cases h2 : op = 7
  · rw [if_pos h2, if_pos h2]; rfl
  rw [if_neg h2, if_neg h2]
  by_cases h3 : op = 8 ∨ op = 17 ∨ op = 13 ∨ op = 18
  · rw [if_pos h3, if_pos h3]; rfl
  rw [if_neg h3, if_neg h3]
  by_cases h4 : op = 9
  · rw [if_pos h4, if_pos h4]; rfl
  rw [if_neg h4, if_neg h4]
  by_cases h5 : op = 10 ∨ op = 16 ∨ op = 14
  · rw [if_pos h5, if_pos h5]; rfl
  rw [if_neg h5, if_neg h5]
  by_cases h6 : op = 11
  · rw [if_pos h6, if_pos h6]; rfl
  rw [if_neg h6, if_neg h6]
  by_cases h7 : op = 12
  · rw [if_pos h7, if_pos h7]; rfl
  rw [if_neg h7, if_neg h7]
  by_cases h8 : op = 22
  · rw [if_pos h8, if_pos h8]; rfl
  rw [if_neg h8, if_neg h8]
  by_cases h9 : op = 23
  · rw [if_pos h9, if_pos h9]; rfl
  rw [if_neg h9, if_neg h9]
  by_cases h10 : op = 24
  · rw [if_pos h10, if_pos h10]; rfl
  rw [if_neg h10, if_neg h10]
  by_cases h11 : op = 25
  · rw [if_pos h11, if_pos h11]; rfl
  rw [if_neg h11, if_neg h11]
  by_cases h12 : op = 20
  · rw [if_pos h12, if_pos h12]; rfl
  rw [if_neg h12, if_neg h12]
  by_cases h13 : op = 21
  · rw [if_pos h13, if_pos h13]; rfl
  rw [if_neg h13, if_neg h13]
  by_cases h14 : op = 26
  · rw [if_pos h14, if_pos h14]; rfl
  rw [if_neg h14, if_neg h14]
  by_cases h15 : op = 27
  · rw [if_pos h15, if_pos h15]; rfl
  rw [if_neg h15, if_neg h15]
  rfl
theorem value_keep {s s1 : St} {op : Int} {d b r : Nat} (h : valueF s op d b = some (s1, r)) : s1.regs = s.regs ∧ s1.pc = s.pc := by
  unfold valueF at h
  by_cases h0 : op = 1 ∨ op = 2
  · rw [if_pos h0] at h; cases h; exact ⟨rfl, rfl⟩
  rw [if_neg h0] at h
  by_cases h1 : op = 6 ∨ op = 15
  · rw [if_pos h1] at h; cases h; exact ⟨rfl, rfl⟩
  rw [if_neg h1] at h
  by_cases h2 : op = 7
  · rw [if_pos h2] at h; cases h; exact ⟨rfl, rfl⟩
  rw [if_neg h2] at h
  by_cases h3 : op = 8 ∨ op = 17 ∨ op = 13 ∨ op = 18
  · rw [if_pos h3] at h; cases h; exact ⟨rfl, rfl⟩
  rw [if_neg h3] at h
  by_cases h4 : op = 9
  · rw [if_pos h4] at h; cases h; exact ⟨rfl, rfl⟩
  rw [if_neg h4] at h
  by_cases h5 : op = 10 ∨ op = 16 ∨ op = 14
  · rw [if_pos h5] at h; cases h; exact ⟨rfl, rfl⟩
  rw [if_neg h5] at h
  by_cases h6 : op = 11
  · rw [if_pos h6] at h; cases h; exact ⟨rfl, rfl⟩
  rw [if_neg h6] at h
  by_cases h7 : op = 12
  · rw [if_pos h7] at h; cases h; exact ⟨rfl, rfl⟩
  rw [if_neg h7] at h
  by_cases h8 : op = 22
  · rw [if_pos h8] at h; cases h; exact ⟨rfl, rfl⟩
  rw [if_neg h8] at h
  by_cases h9 : op = 23
  · rw [if_pos h9] at h; cases h; exact ⟨rfl, rfl⟩
  rw [if_neg h9] at h
  by_cases h10 : op = 24
  · rw [if_pos h10] at h; cases h; exact ⟨rfl, rfl⟩
  rw [if_neg h10] at h
  by_cases h11 : op = 25
  · rw [if_pos h11] at h; cases h; exact ⟨rfl, rfl⟩
  rw [if_neg h11] at h
  by_cases h12 : op = 20
  · rw [if_pos h12] at h; cases h; exact ⟨rfl, rfl⟩
  rw [if_neg h12] at h
  by_cases h13 : op = 21
  · rw [if_pos h13] at h; cases h; exact ⟨rfl, rfl⟩
  rw [if_neg h13] at h
  by_cases h14 : op = 26
  · rw [if_pos h14] at h; cases h; exact ⟨rfl, rfl⟩
  rw [if_neg h14] at h
  by_cases h15 : op = 27
  · rw [if_pos h15] at h; cases h; exact ⟨rfl, rfl⟩
  rw [if_neg h15] at h
  cases h
theorem value_mov {s : St} {op : Int} (h : op = 1 ∨ op = 2) (d d' b : Nat) : valueF s op d b = valueF s op d' b := by
  unfold valueF
  rw [if_pos h, if_pos h]

theorem getD_set (L : List Bool) (a k : Nat) (ha : a < L.length) : (L.set a true).getD k false = (decide (k = a) || L.getD k false) := by
  rw [List.getD_eq_getElem?_getD, List.getD_eq_getElem?_getD, List.getElem?_set]
  by_cases h : a = k
  · subst h; simp [ha]
  · rw [if_neg h]
    have : ¬ k = a := fun e => h e.symm
    simp [this]
theorem L16_len : L16.length = 16 := rfl
theorem L16_get (k : Nat) : L16.getD k false = false := by
  rw [List.getD_eq_getElem?_getD]
  cases h : L16[k]? with
  | none => rfl
  | some b =>
    have := List.mem_of_getElem? h
    simp only [L16, List.mem_replicate] at this
    rw [this.2]; rfl

theorem regAt_set {s : St} {r v : Nat} {k : Int} (h : k.toNat ≠ r) : regAt (sv s (s.regs.set r v)) k = regAt s k := by
  simp only [regAt, sv, List.getD_eq_getElem?_getD]
  rw [List.getElem?_set_ne (fun e => h e.symm)]

/-- Is it one over a value? -/
def isOver (op : Int) : Bool := decide (op = 1) || decide (op = 2) || (decide (6 ≤ op) && decide (op ≤ 18)) || (decide (20 ≤ op) && decide (op ≤ 27))
theorem over_value {s : St} {op : Int} {d b : Nat} (h : isOver op = true) : ∃ s1 r, valueF s op d b = some (s1, r) := by
  have hr : op = 1 ∨ op = 2 ∨ op = 6 ∨ op = 7 ∨ op = 8 ∨ op = 9 ∨ op = 10 ∨ op = 11 ∨ op = 12 ∨ op = 13 ∨ op = 14 ∨ op = 15 ∨ op = 16 ∨ op = 17 ∨ op = 18 ∨ op = 20 ∨ op = 21 ∨ op = 22 ∨ op = 23 ∨ op = 24 ∨ op = 25 ∨ op = 26 ∨ op = 27 := by
    simp only [isOver, Bool.or_eq_true, Bool.and_eq_true, decide_eq_true_eq] at h
    omega
  rcases hr with rfl | rfl | rfl | rfl | rfl | rfl | rfl | rfl | rfl | rfl | rfl | rfl | rfl | rfl | rfl | rfl | rfl | rfl | rfl | rfl | rfl | rfl | rfl <;> exact ⟨_, _, rfl⟩

theorem rd_SD {s d r : Nat} (hs : s < 16) (hd : d < 16) (h : ((L16.set s true).set d true).getD r false = false) : s ≠ r ∧ d ≠ r := by
  rw [getD_set _ _ _ (by simpa [L16] using hd), getD_set _ _ _ (by simpa [L16] using hs), L16_get] at h
  simp at h
  exact ⟨fun e => h.2 e.symm, fun e => h.1 e.symm⟩
theorem rd_S {s r : Nat} (hs : s < 16) (h : (L16.set s true).getD r false = false) : s ≠ r := by
  rw [getD_set _ _ _ (by simpa [L16] using hs), L16_get] at h
  simp at h
  exact fun e => h e.symm
theorem wr_D {d : Nat} (hd : d < 16) (r : Nat) : (L16.set d true).getD r false = decide (r = d) := by
  rw [getD_set _ _ _ (by simpa [L16] using hd), L16_get]; simp

/-- What an operation over a value takes, and makes, as numbers. -/
theorem over_rw {i : Ins} (hc : chkP i = true) (h : isOver i.op = true) : ∃ D : Nat, i.d = D ∧ D < 16 ∧
    (∀ r, (readsL (formR i.op) i).getD r false = false → (takesS i.op = true → i.s.toNat ≠ r) ∧ (i.op = 1 ∨ i.op = 2 ∨ D ≠ r)) ∧
    (∀ r, (writesL (formR i.op) i).getD r false = (!keepsD i.op && decide (r = D))) := by
  obtain ⟨op, d, s, t, ba, ix, sc, di, im⟩ := i
  obtain ⟨_, _, hd1, hs1, _, _⟩ := chk_parts hc
  have hr : op = 1 ∨ op = 2 ∨ op = 6 ∨ op = 7 ∨ op = 8 ∨ op = 9 ∨ op = 10 ∨ op = 11 ∨ op = 12 ∨ op = 13 ∨ op = 14 ∨ op = 15 ∨ op = 16 ∨ op = 17 ∨ op = 18 ∨ op = 20 ∨ op = 21 ∨ op = 22 ∨ op = 23 ∨ op = 24 ∨ op = 25 ∨ op = 26 ∨ op = 27 := by
    simp only [isOver, Bool.or_eq_true, Bool.and_eq_true, decide_eq_true_eq] at h
    omega
  rcases hr with rfl | rfl | rfl | rfl | rfl | rfl | rfl | rfl | rfl | rfl | rfl | rfl | rfl | rfl | rfl | rfl | rfl | rfl | rfl | rfl | rfl | rfl | rfl
  · obtain ⟨D, rfl, hDl⟩ := hasOk_yes hd1 (by kernel_rfl)
    obtain ⟨S, rfl, hSl⟩ := hasOk_yes hs1 (by kernel_rfl)
    exact ⟨D, rfl, hDl, fun r hr => ⟨fun _ => rd_S hSl hr, .inl rfl⟩, fun r => (wr_D hDl r).trans (by simp [keepsD])⟩
  · obtain ⟨D, rfl, hDl⟩ := hasOk_yes hd1 (by kernel_rfl)
    exact ⟨D, rfl, hDl, fun r hr => ⟨(fun h => by cases h), .inr (.inl rfl)⟩, fun r => (wr_D hDl r).trans (by simp [keepsD])⟩
  · obtain ⟨D, rfl, hDl⟩ := hasOk_yes hd1 (by kernel_rfl)
    obtain ⟨S, rfl, hSl⟩ := hasOk_yes hs1 (by kernel_rfl)
    exact ⟨D, rfl, hDl, fun r hr => ⟨fun _ => (rd_SD hSl hDl hr).1, .inr (.inr (rd_SD hSl hDl hr).2)⟩, fun r => (wr_D hDl r).trans (by simp [keepsD])⟩
  · obtain ⟨D, rfl, hDl⟩ := hasOk_yes hd1 (by kernel_rfl)
    obtain ⟨S, rfl, hSl⟩ := hasOk_yes hs1 (by kernel_rfl)
    exact ⟨D, rfl, hDl, fun r hr => ⟨fun _ => (rd_SD hSl hDl hr).1, .inr (.inr (rd_SD hSl hDl hr).2)⟩, fun r => (wr_D hDl r).trans (by simp [keepsD])⟩
  · obtain ⟨D, rfl, hDl⟩ := hasOk_yes hd1 (by kernel_rfl)
    obtain ⟨S, rfl, hSl⟩ := hasOk_yes hs1 (by kernel_rfl)
    exact ⟨D, rfl, hDl, fun r hr => ⟨fun _ => (rd_SD hSl hDl hr).1, .inr (.inr (rd_SD hSl hDl hr).2)⟩, fun r => (wr_D hDl r).trans (by simp [keepsD])⟩
  · obtain ⟨D, rfl, hDl⟩ := hasOk_yes hd1 (by kernel_rfl)
    obtain ⟨S, rfl, hSl⟩ := hasOk_yes hs1 (by kernel_rfl)
    exact ⟨D, rfl, hDl, fun r hr => ⟨fun _ => (rd_SD hSl hDl hr).1, .inr (.inr (rd_SD hSl hDl hr).2)⟩, fun r => (wr_D hDl r).trans (by simp [keepsD])⟩
  · obtain ⟨D, rfl, hDl⟩ := hasOk_yes hd1 (by kernel_rfl)
    obtain ⟨S, rfl, hSl⟩ := hasOk_yes hs1 (by kernel_rfl)
    exact ⟨D, rfl, hDl, fun r hr => ⟨fun _ => (rd_SD hSl hDl hr).1, .inr (.inr (rd_SD hSl hDl hr).2)⟩, fun r => (wr_D hDl r).trans (by simp [keepsD])⟩
  · obtain ⟨D, rfl, hDl⟩ := hasOk_yes hd1 (by kernel_rfl)
    obtain ⟨S, rfl, hSl⟩ := hasOk_yes hs1 (by kernel_rfl)
    exact ⟨D, rfl, hDl, fun r hr => ⟨fun _ => (rd_SD hSl hDl hr).1, .inr (.inr (rd_SD hSl hDl hr).2)⟩, fun r => (wr_D hDl r).trans (by simp [keepsD])⟩
  · obtain ⟨D, rfl, hDl⟩ := hasOk_yes hd1 (by kernel_rfl)
    obtain ⟨S, rfl, hSl⟩ := hasOk_yes hs1 (by kernel_rfl)
    exact ⟨D, rfl, hDl, fun r hr => ⟨fun _ => (rd_SD hSl hDl hr).1, .inr (.inr (rd_SD hSl hDl hr).2)⟩, fun r => (wr_D hDl r).trans (by simp [keepsD])⟩
  · obtain ⟨D, rfl, hDl⟩ := hasOk_yes hd1 (by kernel_rfl)
    obtain ⟨S, rfl, hSl⟩ := hasOk_yes hs1 (by kernel_rfl)
    exact ⟨D, rfl, hDl, fun r hr => ⟨fun _ => (rd_SD hSl hDl hr).1, .inr (.inr (rd_SD hSl hDl hr).2)⟩, fun r => (L16_get r).trans (by simp [keepsD])⟩
  · obtain ⟨D, rfl, hDl⟩ := hasOk_yes hd1 (by kernel_rfl)
    obtain ⟨S, rfl, hSl⟩ := hasOk_yes hs1 (by kernel_rfl)
    exact ⟨D, rfl, hDl, fun r hr => ⟨fun _ => (rd_SD hSl hDl hr).1, .inr (.inr (rd_SD hSl hDl hr).2)⟩, fun r => (L16_get r).trans (by simp [keepsD])⟩
  · obtain ⟨D, rfl, hDl⟩ := hasOk_yes hd1 (by kernel_rfl)
    exact ⟨D, rfl, hDl, fun r hr => ⟨(fun h => by cases h), .inr (.inr (rd_S hDl hr))⟩, fun r => (wr_D hDl r).trans (by simp [keepsD])⟩
  · obtain ⟨D, rfl, hDl⟩ := hasOk_yes hd1 (by kernel_rfl)
    exact ⟨D, rfl, hDl, fun r hr => ⟨(fun h => by cases h), .inr (.inr (rd_S hDl hr))⟩, fun r => (wr_D hDl r).trans (by simp [keepsD])⟩
  · obtain ⟨D, rfl, hDl⟩ := hasOk_yes hd1 (by kernel_rfl)
    exact ⟨D, rfl, hDl, fun r hr => ⟨(fun h => by cases h), .inr (.inr (rd_S hDl hr))⟩, fun r => (wr_D hDl r).trans (by simp [keepsD])⟩
  · obtain ⟨D, rfl, hDl⟩ := hasOk_yes hd1 (by kernel_rfl)
    exact ⟨D, rfl, hDl, fun r hr => ⟨(fun h => by cases h), .inr (.inr (rd_S hDl hr))⟩, fun r => (L16_get r).trans (by simp [keepsD])⟩
  · obtain ⟨D, rfl, hDl⟩ := hasOk_yes hd1 (by kernel_rfl)
    obtain ⟨S, rfl, hSl⟩ := hasOk_yes hs1 (by kernel_rfl)
    exact ⟨D, rfl, hDl, fun r hr => ⟨fun _ => (rd_SD hSl hDl hr).1, .inr (.inr (rd_SD hSl hDl hr).2)⟩, fun r => (wr_D hDl r).trans (by simp [keepsD])⟩
  · obtain ⟨D, rfl, hDl⟩ := hasOk_yes hd1 (by kernel_rfl)
    obtain ⟨S, rfl, hSl⟩ := hasOk_yes hs1 (by kernel_rfl)
    exact ⟨D, rfl, hDl, fun r hr => ⟨fun _ => (rd_SD hSl hDl hr).1, .inr (.inr (rd_SD hSl hDl hr).2)⟩, fun r => (wr_D hDl r).trans (by simp [keepsD])⟩
  · obtain ⟨D, rfl, hDl⟩ := hasOk_yes hd1 (by kernel_rfl)
    exact ⟨D, rfl, hDl, fun r hr => ⟨(fun h => by cases h), .inr (.inr (rd_S hDl hr))⟩, fun r => (wr_D hDl r).trans (by simp [keepsD])⟩
  · obtain ⟨D, rfl, hDl⟩ := hasOk_yes hd1 (by kernel_rfl)
    exact ⟨D, rfl, hDl, fun r hr => ⟨(fun h => by cases h), .inr (.inr (rd_S hDl hr))⟩, fun r => (wr_D hDl r).trans (by simp [keepsD])⟩
  · obtain ⟨D, rfl, hDl⟩ := hasOk_yes hd1 (by kernel_rfl)
    exact ⟨D, rfl, hDl, fun r hr => ⟨(fun h => by cases h), .inr (.inr (rd_S hDl hr))⟩, fun r => (wr_D hDl r).trans (by simp [keepsD])⟩
  · obtain ⟨D, rfl, hDl⟩ := hasOk_yes hd1 (by kernel_rfl)
    exact ⟨D, rfl, hDl, fun r hr => ⟨(fun h => by cases h), .inr (.inr (rd_S hDl hr))⟩, fun r => (wr_D hDl r).trans (by simp [keepsD])⟩
  · obtain ⟨D, rfl, hDl⟩ := hasOk_yes hd1 (by kernel_rfl)
    obtain ⟨S, rfl, hSl⟩ := hasOk_yes hs1 (by kernel_rfl)
    exact ⟨D, rfl, hDl, fun r hr => ⟨fun _ => (rd_SD hSl hDl hr).1, .inr (.inr (rd_SD hSl hDl hr).2)⟩, fun r => (wr_D hDl r).trans (by simp [keepsD])⟩
  · obtain ⟨D, rfl, hDl⟩ := hasOk_yes hd1 (by kernel_rfl)
    obtain ⟨S, rfl, hSl⟩ := hasOk_yes hs1 (by kernel_rfl)
    exact ⟨D, rfl, hDl, fun r hr => ⟨fun _ => (rd_SD hSl hDl hr).1, .inr (.inr (rd_SD hSl hDl hr).2)⟩, fun r => (wr_D hDl r).trans (by simp [keepsD])⟩

/-- Over a value: what does not matter. -/
theorem over_stays {s s2 : St} {i : Ins} (hc : chkP i = true) (h : isOver i.op = true) (ho : overF s i = some s2) :
    (∀ k, (writesL (formR i.op) i).getD k false = false → s2.regs.getD k 0 = s.regs.getD k 0) ∧
    (∀ r v, (readsL (formR i.op) i).getD r false = false → overF (sv s (s.regs.set r v)) i = some (if (writesL (formR i.op) i).getD r false then s2 else sv s2 (s2.regs.set r v))) := by
  obtain ⟨D, hD, hDl, hR, hW⟩ := over_rw hc h
  have hT : i.d.toNat = D := by omega
  obtain ⟨s1, x, hv⟩ := over_value (s := s) (d := regAt s i.d) (b := if takesS i.op then regAt s i.s else u64 i.imm) h
  obtain ⟨k1, k2⟩ := value_keep hv
  have ho' : s2 = if keepsD i.op then s1 else { s1 with regs := s1.regs.set D x } := by
    unfold overF at ho
    rw [hv] at ho
    simp only [hT] at ho
    exact (Option.some.inj ho).symm
  refine ⟨fun k hk => ?_, fun r v hr => ?_⟩
  · rw [hW] at hk
    rw [ho']
    cases hkp : keepsD i.op with
    | true => simp [k1]
    | false =>
      rw [hkp] at hk
      simp at hk
      simp only [if_neg (by decide : ¬ (false = true)), List.getD_eq_getElem?_getD, k1]
      rw [List.getElem?_set_ne (fun e => hk e.symm)]
  · obtain ⟨r1, r2⟩ := hR r hr
    have e1 : (if takesS i.op then regAt (sv s (s.regs.set r v)) i.s else u64 i.imm) = (if takesS i.op then regAt s i.s else u64 i.imm) := by
      cases ht : takesS i.op with
      | true => simp only [if_true]; exact regAt_set (r1 ht)
      | false => rfl
    have e2 : valueF (sv s (s.regs.set r v)) i.op (regAt (sv s (s.regs.set r v)) i.d) (if takesS i.op then regAt (sv s (s.regs.set r v)) i.s else u64 i.imm) = some (sv s1 (s.regs.set r v), x) := by
      rw [e1, value_sv]
      rcases r2 with h1 | h1 | h1
      · rw [value_mov (.inl h1) _ (regAt s i.d), hv]; rfl
      · rw [value_mov (.inr h1) _ (regAt s i.d), hv]; rfl
      · rw [regAt_set (by rw [hT]; exact h1), hv]; rfl
    unfold overF
    rw [e2]
    simp only [hT, hW]
    rw [ho']
    cases hkp : keepsD i.op with
    | true => simp [sv, k1]
    | false =>
      by_cases hrd : r = D
      · subst hrd
        simp [sv, k1]
      · simp only [Bool.not_false, Bool.true_and, hrd, decide_false, if_neg (by decide : ¬ (false = true)), sv, k1]
        rw [List.set_comm _ _ hrd]
end Go.Proofs.YtmanhikpccnfaaaGreat

/- What a step leaves, and what does not matter to it: plain, the other operations; the whole. -/
namespace Go.Proofs.YtmanhikpccnfaaaGreat
open Go.RowKit

theorem regF_set {s : St} {r v : Nat} {k : Int} (h : ugly k = false → k.toNat ≠ r) : regF (sv s (s.regs.set r v)) k = regF s k := by
  unfold regF
  cases hu : ugly k with
  | true => simp
  | false =>
    simp only [if_neg (by decide : ¬ (false = true)), sv, List.getD_eq_getElem?_getD]
    rw [List.getElem?_set_ne (fun e => h hu e.symm)]
theorem addr_set {s : St} {i : Ins} {r v : Nat} (h1 : ugly i.base = false → i.base.toNat ≠ r) (h2 : ugly i.index = false → i.index.toNat ≠ r) : addrF (sv s (s.regs.set r v)) i = addrF s i := by
  unfold addrF
  rw [regF_set h1, regF_set h2]

theorem rd_BX {b r : Nat} {x : Int} {L : List Bool} (hl : L.length = 16) (hb : b < 16) (hx : x = -1 ∨ ∃ X : Nat, x = X ∧ X < 16)
    (h : (let L' := L.set b true; if x != -1 then L'.set x.toNat true else L').getD r false = false) : b ≠ r ∧ (ugly x = false → x.toNat ≠ r) ∧ L.getD r false = false := by
  rcases hx with rfl | ⟨X, rfl, hX⟩
  · have h' : (L.set b true).getD r false = false := h
    rw [getD_set _ _ _ (by omega)] at h'
    simp at h'
    exact ⟨fun e => h'.1 e.symm, (fun hu => by simp [ugly] at hu), by rw [List.getD_eq_getElem?_getD]; exact h'.2⟩
  · have hne : ((X : Int) != -1) = true := by simp
    simp only [hne, if_true] at h
    have h' : ((L.set b true).set X true).getD r false = false := h
    rw [getD_set _ _ _ (by rw [List.length_set]; omega), getD_set _ _ _ (by omega)] at h'
    simp at h'
    exact ⟨fun e => h'.2.1 e.symm, fun _ e => h'.1 e.symm, by rw [List.getD_eq_getElem?_getD]; exact h'.2.2⟩
theorem place_of {i : Ins} (hc : chkP i = true) (h : hasB (formF i.op).is 8 = true) : placeB i = true := by
  have := chk_place hc
  rw [h] at this
  exact this
theorem place_two {i : Ins} (h : placeB i = true) : ∃ B : Nat, i.base = B ∧ B < 16 ∧ (i.index = -1 ∨ ∃ X : Nat, i.index = X ∧ X < 16) := by
  obtain ⟨B, h1, h2⟩ := place_base h
  by_cases hx : i.index = -1
  · exact ⟨B, h1, h2, .inl hx⟩
  · exact ⟨B, h1, h2, .inr (place_index h hx)⟩

/-- What a step that does not go over a value leaves, and what does not matter to it. -/
def DoStays (s : St) (i : Ins) (rs : List Reg) : Prop :=
  (∀ k, (writesL (formR i.op) i).getD k false = false → (doF s i rs 0).1.regs.getD k 0 = s.regs.getD k 0) ∧
  (∀ r v, (readsL (formR i.op) i).getD r false = false → doF (sv s (s.regs.set r v)) i rs 0 = (if (writesL (formR i.op) i).getD r false then (doF s i rs 0).1 else sv (doF s i rs 0).1 ((doF s i rs 0).1.regs.set r v), (doF s i rs 0).2.1, (doF s i rs 0).2.2.1, (doF s i rs 0).2.2.2)) ∧
  ((doF s i rs 0).1.cf = s.cf ∧ (doF s i rs 0).1.of_ = s.of_ ∧ (doF s i rs 0).1.zf = s.zf)

theorem set_ne_getD {R : List Nat} {a k x : Nat} (h : k ≠ a) : (R.set a x).getD k 0 = R.getD k 0 := by
  rw [List.getD_eq_getElem?_getD, List.getD_eq_getElem?_getD, List.getElem?_set_ne (fun e => h e.symm)]

variable {s : St} {i : Ins} {rs : List Reg}
theorem do3_stays (hop : i.op = 3) (hc : chkP i = true) : DoStays s i rs := by
  obtain ⟨op, d, s_, t, ba, ix, sc, di, im⟩ := i
  simp only at hop
  subst hop
  obtain ⟨_, _, hd1, _⟩ := chk_parts hc
  obtain ⟨D, rfl, hDl⟩ := hasOk_yes hd1 (by kernel_rfl)
  obtain ⟨B, hB, hBl, hX⟩ := place_two (place_of hc (by kernel_rfl))
  simp only at hB hX
  subst hB
  have hw : ∀ r, (writesL (formR 3) ⟨3, D, s_, t, B, ix, sc, di, im⟩).getD r false = decide (r = D) := fun r => wr_D hDl r
  refine ⟨fun k hk => ?_, fun r v hr => ?_, rfl, rfl, rfl⟩
  · have h : decide (k = D) = false := (hw k).symm.trans hk
    exact set_ne_getD (by simpa using h)
  · obtain ⟨h1, h2, _⟩ := rd_BX (L := L16) rfl hBl hX hr
    have ha : addrF (sv s (s.regs.set r v)) ⟨3, D, s_, t, B, ix, sc, di, im⟩ = addrF s ⟨3, D, s_, t, B, ix, sc, di, im⟩ := addr_set (fun _ => h1) h2
    have e1 : doF (sv s (s.regs.set r v)) ⟨3, D, s_, t, B, ix, sc, di, im⟩ rs 0 = (sv s ((s.regs.set r v).set D (loadVE (loadF rs (addrF s ⟨3, D, s_, t, B, ix, sc, di, im⟩))).1), [⟨2, addrF s ⟨3, D, s_, t, B, ix, sc, di, im⟩⟩], (loadVE (loadF rs (addrF s ⟨3, D, s_, t, B, ix, sc, di, im⟩))).2, rs) := by
      rw [← ha]; rfl
    rw [e1]
    simp only [hw]
    by_cases hrd : r = D
    · subst hrd
      simp only [decide_true, if_true, List.set_set]
      rfl
    · simp only [hrd, decide_false, if_neg (by decide : ¬ (false = true))]
      rw [List.set_comm _ _ hrd]
      rfl

theorem do5_stays (hop : i.op = 5) (hc : chkP i = true) : DoStays s i rs := by
  obtain ⟨op, d, s_, t, ba, ix, sc, di, im⟩ := i
  simp only at hop
  subst hop
  obtain ⟨_, _, hd1, _⟩ := chk_parts hc
  obtain ⟨D, rfl, hDl⟩ := hasOk_yes hd1 (by kernel_rfl)
  obtain ⟨B, hB, hBl, hX⟩ := place_two (place_of hc (by kernel_rfl))
  simp only at hB hX
  subst hB
  have hw : ∀ r, (writesL (formR 5) ⟨5, D, s_, t, B, ix, sc, di, im⟩).getD r false = decide (r = D) := fun r => wr_D hDl r
  refine ⟨fun k hk => ?_, fun r v hr => ?_, rfl, rfl, rfl⟩
  · have h : decide (k = D) = false := (hw k).symm.trans hk
    exact set_ne_getD (by simpa using h)
  · obtain ⟨h1, h2, _⟩ := rd_BX (L := L16) rfl hBl hX hr
    have ha : addrF (sv s (s.regs.set r v)) ⟨5, D, s_, t, B, ix, sc, di, im⟩ = addrF s ⟨5, D, s_, t, B, ix, sc, di, im⟩ := addr_set (fun _ => h1) h2
    have e1 : doF (sv s (s.regs.set r v)) ⟨5, D, s_, t, B, ix, sc, di, im⟩ rs 0 = (sv s ((s.regs.set r v).set D (addrF s ⟨5, D, s_, t, B, ix, sc, di, im⟩)), [], 0, rs) := by
      rw [← ha]; rfl
    rw [e1]
    simp only [hw]
    by_cases hrd : r = D
    · subst hrd
      simp only [decide_true, if_true, List.set_set]
      rfl
    · simp only [hrd, decide_false, if_neg (by decide : ¬ (false = true))]
      rw [List.set_comm _ _ hrd]
      rfl
theorem do4_stays (hop : i.op = 4) (hc : chkP i = true) : DoStays s i rs := by
  obtain ⟨op, d, s_, t, ba, ix, sc, di, im⟩ := i
  simp only at hop
  subst hop
  obtain ⟨_, _, _, hs1, _⟩ := chk_parts hc
  obtain ⟨S, rfl, hSl⟩ := hasOk_yes hs1 (by kernel_rfl)
  obtain ⟨B, hB, hBl, hX⟩ := place_two (place_of hc (by kernel_rfl))
  simp only at hB hX
  subst hB
  have hw : ∀ r, (writesL (formR 4) ⟨4, d, S, t, B, ix, sc, di, im⟩).getD r false = false := fun r => L16_get r
  refine ⟨fun k hk => rfl, fun r v hr => ?_, rfl, rfl, rfl⟩
  obtain ⟨h1, h2, h3⟩ := rd_BX (L := L16.set S true) (by rw [List.length_set]; rfl) hBl hX hr
  have h4 := rd_S hSl h3
  have ha : addrF (sv s (s.regs.set r v)) ⟨4, d, S, t, B, ix, sc, di, im⟩ = addrF s ⟨4, d, S, t, B, ix, sc, di, im⟩ := addr_set (fun _ => h1) h2
  have hs : regAt (sv s (s.regs.set r v)) (S : Int) = regAt s (S : Int) := regAt_set (by simpa using h4)
  have e1 : doF (sv s (s.regs.set r v)) ⟨4, d, S, t, B, ix, sc, di, im⟩ rs 0 = (sv s (s.regs.set r v), [⟨3, addrF s ⟨4, d, S, t, B, ix, sc, di, im⟩⟩], (storeVE rs (addrF s ⟨4, d, S, t, B, ix, sc, di, im⟩) (regAt s (S : Int))).1, (storeVE rs (addrF s ⟨4, d, S, t, B, ix, sc, di, im⟩) (regAt s (S : Int))).2) := by
    rw [← ha, ← hs]; rfl
  rw [e1]
  simp only [hw, if_neg (by decide : ¬ (false = true))]
  rfl
theorem rd_T {t r : Nat} (ht : t < 16) (h : ((L16.set t true).set 2 true).getD r false = false) : t ≠ r ∧ 2 ≠ r := by
  rw [getD_set _ _ _ (by simp [L16]), getD_set _ _ _ (by simpa [L16] using ht), L16_get] at h
  simp at h
  exact ⟨fun e => h.2 e.symm, fun e => h.1 e.symm⟩
theorem do19_stays (hop : i.op = 19) (hc : chkP i = true) : DoStays s i rs := by
  obtain ⟨op, d, s_, t, ba, ix, sc, di, im⟩ := i
  simp only at hop
  subst hop
  obtain ⟨_, _, hd1, hs1, ht1, hds⟩ := chk_parts hc
  obtain ⟨D, rfl, hDl⟩ := hasOk_yes hd1 (by kernel_rfl)
  obtain ⟨S, rfl, hSl⟩ := hasOk_yes hs1 (by kernel_rfl)
  obtain ⟨T, rfl, hTl⟩ := hasOk_yes ht1 (by kernel_rfl)
  have hDS : D ≠ S := fun e => by
    subst e
    have : (hasB (formF 19).is 4 && (D : Int) == (D : Int)) = false := hds
    rw [show hasB (formF 19).is 4 = true by kernel_rfl] at this
    simp at this
  have hw : ∀ r, (writesL (formR 19) ⟨19, D, S, T, ba, ix, sc, di, im⟩).getD r false = (decide (r = S) || decide (r = D)) := fun r => by
    show ((L16.set D true).set S true).getD r false = _
    rw [getD_set _ _ _ (by simpa [L16] using hSl), wr_D hDl]
  refine ⟨fun k hk => ?_, fun r v hr => ?_, rfl, rfl, rfl⟩
  · have h : (decide (k = S) || decide (k = D)) = false := (hw k).symm.trans hk
    simp at h
    exact (set_ne_getD h.1).trans (set_ne_getD h.2)
  · obtain ⟨h1, h2⟩ := rd_T hTl hr
    have ht : regAt (sv s (s.regs.set r v)) (T : Int) = regAt s (T : Int) := regAt_set (by simpa using h1)
    have h2' : regAt (sv s (s.regs.set r v)) 2 = regAt s 2 := regAt_set (by simpa using h2)
    have e1 : doF (sv s (s.regs.set r v)) ⟨19, D, S, T, ba, ix, sc, di, im⟩ rs 0 = (sv s (((s.regs.set r v).set D (mulF (regAt s (T : Int)) (regAt s 2)).1).set S (mulF (regAt s (T : Int)) (regAt s 2)).2), [], 0, rs) := by
      rw [← ht, ← h2']; rfl
    rw [e1]
    simp only [hw]
    by_cases hrs : r = S
    · subst hrs
      simp only [decide_true, Bool.true_or, if_true]
      rw [List.set_comm _ _ (fun e => hDS e.symm), List.set_set, List.set_comm _ _ hDS]
      refine congrArg (fun q => (sv s q, _)) ?_
      show _ = ((s.regs.set D _).set r _)
      rw [List.set_comm _ _ hDS]
    · by_cases hrd : r = D
      · subst hrd
        simp only [decide_true, Bool.or_true, if_true, List.set_set]
        rfl
      · simp only [hrs, hrd, decide_false, Bool.or_false, if_neg (by decide : ¬ (false = true))]
        rw [List.set_comm _ _ hrd, List.set_comm _ _ hrs]
        rfl
theorem rd_S4 {s r : Nat} (hs : s < 16) (h : ((L16.set s true).set 4 true).getD r false = false) : s ≠ r ∧ 4 ≠ r := by
  rw [getD_set _ _ _ (by simp [L16]), getD_set _ _ _ (by simpa [L16] using hs), L16_get] at h
  simp at h
  exact ⟨fun e => h.2 e.symm, fun e => h.1 e.symm⟩
theorem do28_stays (hop : i.op = 28) (hc : chkP i = true) : DoStays s i rs := by
  obtain ⟨op, d, s_, t, ba, ix, sc, di, im⟩ := i
  simp only at hop
  subst hop
  obtain ⟨_, _, _, hs1, _⟩ := chk_parts hc
  obtain ⟨S, rfl, hSl⟩ := hasOk_yes hs1 (by kernel_rfl)
  have hw : ∀ r, (writesL (formR 28) ⟨28, d, S, t, ba, ix, sc, di, im⟩).getD r false = decide (r = 4) := fun r => wr_D (by decide) r
  refine ⟨fun k hk => ?_, fun r v hr => ?_, rfl, rfl, rfl⟩
  · have h : decide (k = 4) = false := (hw k).symm.trans hk
    exact set_ne_getD (by simpa using h)
  · obtain ⟨h1, h2⟩ := rd_S4 hSl hr
    have hs : regAt (sv s (s.regs.set r v)) (S : Int) = regAt s (S : Int) := regAt_set (by simpa using h1)
    have h4 : regAt (sv s (s.regs.set r v)) 4 = regAt s 4 := regAt_set (by simpa using h2)
    have e1 : doF (sv s (s.regs.set r v)) ⟨28, d, S, t, ba, ix, sc, di, im⟩ rs 0 = (sv s ((s.regs.set r v).set 4 ((18446744073709551616 + regAt s 4 - 8) % 18446744073709551616)), [⟨3, (18446744073709551616 + regAt s 4 - 8) % 18446744073709551616⟩], (storeVE rs ((18446744073709551616 + regAt s 4 - 8) % 18446744073709551616) (regAt s (S : Int))).1, (storeVE rs ((18446744073709551616 + regAt s 4 - 8) % 18446744073709551616) (regAt s (S : Int))).2) := by
      rw [← hs, ← h4]; rfl
    rw [e1]
    have hr4 : ¬ r = 4 := fun e => h2 e.symm
    simp only [hw, hr4, decide_false, if_neg (by decide : ¬ (false = true))]
    rw [List.set_comm _ _ hr4]
    rfl
theorem do29_stays (hop : i.op = 29) (hc : chkP i = true) : DoStays s i rs := by
  obtain ⟨op, d, s_, t, ba, ix, sc, di, im⟩ := i
  simp only at hop
  subst hop
  obtain ⟨_, _, hd1, _⟩ := chk_parts hc
  obtain ⟨D, rfl, hDl⟩ := hasOk_yes hd1 (by kernel_rfl)
  have hw : ∀ r, (writesL (formR 29) ⟨29, D, s_, t, ba, ix, sc, di, im⟩).getD r false = (decide (r = 4) || decide (r = D)) := fun r => by
    show ((L16.set D true).set 4 true).getD r false = _
    rw [getD_set _ _ _ (by simp [L16]), wr_D hDl]
  refine ⟨fun k hk => ?_, fun r v hr => ?_, rfl, rfl, rfl⟩
  · have h : (decide (k = 4) || decide (k = D)) = false := (hw k).symm.trans hk
    simp at h
    exact (set_ne_getD h.2).trans (set_ne_getD h.1)
  · have h2 : 4 ≠ r := rd_S (s := 4) (by decide) hr
    have h4 : regAt (sv s (s.regs.set r v)) 4 = regAt s 4 := regAt_set (by simpa using h2)
    have e1 : doF (sv s (s.regs.set r v)) ⟨29, D, s_, t, ba, ix, sc, di, im⟩ rs 0 = (sv s (((s.regs.set r v).set 4 ((regAt s 4 + 8) % 18446744073709551616)).set D (loadVE (loadF rs (regAt s 4))).1), [⟨2, regAt s 4⟩], (loadVE (loadF rs (regAt s 4))).2, rs) := by
      rw [← h4]; rfl
    rw [e1]
    have hr4 : ¬ r = 4 := fun e => h2 e.symm
    simp only [hw, hr4, decide_false, Bool.false_or]
    by_cases hrd : r = D
    · subst hrd
      simp only [decide_true, if_true]
      rw [List.set_comm _ _ hr4, List.set_set]
      rfl
    · simp only [hrd, decide_false, if_neg (by decide : ¬ (false = true))]
      rw [List.set_comm _ _ hr4, List.set_comm _ _ hrd]
      rfl
theorem do33_stays (hop : i.op = 33) : DoStays s i rs := by
  obtain ⟨op, d, s_, t, ba, ix, sc, di, im⟩ := i
  simp only at hop
  subst hop
  have hw : ∀ r, (writesL (formR 33) ⟨33, d, s_, t, ba, ix, sc, di, im⟩).getD r false = decide (r = 4) := fun r => wr_D (by decide) r
  refine ⟨fun k hk => ?_, fun r v hr => ?_, rfl, rfl, rfl⟩
  · have h : decide (k = 4) = false := (hw k).symm.trans hk
    exact set_ne_getD (by simpa using h)
  · have h2 : 4 ≠ r := rd_S (s := 4) (by decide) hr
    have h4 : regAt (sv s (s.regs.set r v)) 4 = regAt s 4 := regAt_set (by simpa using h2)
    have hr4 : ¬ r = 4 := fun e => h2 e.symm
    have e1 : doF (sv s (s.regs.set r v)) ⟨33, d, s_, t, ba, ix, sc, di, im⟩ rs 0 = ({ sv s ((s.regs.set r v).set 4 ((regAt s 4 + 8) % 18446744073709551616)) with pc := (loadVE (loadF rs (regAt s 4))).1 }, [⟨2, regAt s 4⟩, ⟨4, (loadVE (loadF rs (regAt s 4))).1⟩], (loadVE (loadF rs (regAt s 4))).2, rs) := by
      rw [← h4]; rfl
    rw [e1]
    simp only [hw, hr4, decide_false, if_neg (by decide : ¬ (false = true))]
    rw [List.set_comm _ _ hr4]
    rfl
theorem jump_stays (hop : i.op = 30 ∨ i.op = 31 ∨ i.op = 32) : DoStays s i rs := by
  obtain ⟨op, d, s_, t, ba, ix, sc, di, im⟩ := i
  simp only at hop
  have hw : ∀ r, (writesL (formR op) ⟨op, d, s_, t, ba, ix, sc, di, im⟩).getD r false = false := fun r => by
    rcases hop with rfl | rfl | rfl <;> exact L16_get r
  have hj : ∀ (s : St) (b : Bool), (jumpS s b im).regs = s.regs ∧ (jumpS s b im).cf = s.cf ∧ (jumpS s b im).of_ = s.of_ ∧ (jumpS s b im).zf = s.zf := fun s b => by cases b <;> exact ⟨rfl, rfl, rfl, rfl⟩
  have hk : ∀ (s : St) (b : Bool) (R : List Nat), jumpS (sv s R) b im = sv (jumpS s b im) R := fun s b R => by cases b <;> rfl
  have hd : ∀ s : St, doF s ⟨op, d, s_, t, ba, ix, sc, di, im⟩ rs 0 = (jumpS s (if op = 30 then true else if op = 31 then !s.zf else s.cf) im, [⟨4, (jumpS s (if op = 30 then true else if op = 31 then !s.zf else s.cf) im).pc⟩], 0, rs) := fun s => by
    rcases hop with rfl | rfl | rfl <;> rfl
  refine ⟨fun k _ => ?_, fun r v hr => ?_, ?_⟩
  · rw [hd, (hj _ _).1]
  · rw [hd, hd, hk]
    simp only [hw, if_neg (by decide : ¬ (false = true))]
    rw [(hj _ _).1]
    rfl
  · rw [hd]
    exact (hj _ _).2

theorem do_stays {s : St} {i : Ins} {rs : List Reg} (hc : chkP i = true) (ho : overF s i = none) : DoStays s i rs := by
  rcases (over_none (chk_range hc) ho) with h | h | h | h | h | h | h | h | h | h
  · exact do3_stays h hc
  · exact do4_stays h hc
  · exact do5_stays h hc
  · exact do19_stays h hc
  · exact do28_stays h hc
  · exact do29_stays h hc
  · exact jump_stays (.inl h)
  · exact jump_stays (.inr (.inl h))
  · exact jump_stays (.inr (.inr h))
  · exact do33_stays h
end Go.Proofs.YtmanhikpccnfaaaGreat

/- What a step leaves, and what does not matter to it: plain, the whole. -/
namespace Go.Proofs.YtmanhikpccnfaaaGreat
open Go.RowKit

/-- The flags that an operation makes. -/
def flagsW (op : Int) : Nat := if (6 ≤ op ∧ op ≤ 18) ∨ op = 22 then 7 else if op = 24 ∨ op = 25 then 5 else if op = 20 then 1 else if op = 21 then 2 else 0
def flagsR (op : Int) : Nat := if op = 7 ∨ op = 9 ∨ op = 20 ∨ op = 26 ∨ op = 32 then 1 else if op = 21 then 2 else if op = 27 ∨ op = 31 then 4 else 0
/-- The flags that are not made stay. -/
def FlagsStay (op : Int) (s n : St) : Prop := (flagsW op &&& 1 = 0 → n.cf = s.cf) ∧ (flagsW op &&& 2 = 0 → n.of_ = s.of_) ∧ (flagsW op &&& 4 = 0 → n.zf = s.zf)
theorem flags_none {op : Int} {s n : St} (h : n.cf = s.cf ∧ n.of_ = s.of_ ∧ n.zf = s.zf) : FlagsStay op s n := ⟨fun _ => h.1, fun _ => h.2.1, fun _ => h.2.2⟩
theorem value_flags {s s1 : St} {op : Int} {d b r : Nat} (h : valueF s op d b = some (s1, r)) : FlagsStay op s s1 := by
  unfold valueF at h
  by_cases h0 : op = 1 ∨ op = 2
  · rw [if_pos h0] at h; cases h; exact flags_none ⟨rfl, rfl, rfl⟩
  rw [if_neg h0] at h
  by_cases h1 : op = 6 ∨ op = 15
  · have hf : flagsW op = 7 := by unfold flagsW; rw [if_pos (by omega)]
    exact ⟨fun h => by rw [hf] at h; exact absurd h (by decide), fun h => by rw [hf] at h; exact absurd h (by decide), fun h => by rw [hf] at h; exact absurd h (by decide)⟩
  rw [if_neg h1] at h
  by_cases h2 : op = 7
  · have hf : flagsW op = 7 := by unfold flagsW; rw [if_pos (by omega)]
    exact ⟨fun h => by rw [hf] at h; exact absurd h (by decide), fun h => by rw [hf] at h; exact absurd h (by decide), fun h => by rw [hf] at h; exact absurd h (by decide)⟩
  rw [if_neg h2] at h
  by_cases h3 : op = 8 ∨ op = 17 ∨ op = 13 ∨ op = 18
  · have hf : flagsW op = 7 := by unfold flagsW; rw [if_pos (by omega)]
    exact ⟨fun h => by rw [hf] at h; exact absurd h (by decide), fun h => by rw [hf] at h; exact absurd h (by decide), fun h => by rw [hf] at h; exact absurd h (by decide)⟩
  rw [if_neg h3] at h
  by_cases h4 : op = 9
  · have hf : flagsW op = 7 := by unfold flagsW; rw [if_pos (by omega)]
    exact ⟨fun h => by rw [hf] at h; exact absurd h (by decide), fun h => by rw [hf] at h; exact absurd h (by decide), fun h => by rw [hf] at h; exact absurd h (by decide)⟩
  rw [if_neg h4] at h
  by_cases h5 : op = 10 ∨ op = 16 ∨ op = 14
  · have hf : flagsW op = 7 := by unfold flagsW; rw [if_pos (by omega)]
    exact ⟨fun h => by rw [hf] at h; exact absurd h (by decide), fun h => by rw [hf] at h; exact absurd h (by decide), fun h => by rw [hf] at h; exact absurd h (by decide)⟩
  rw [if_neg h5] at h
  by_cases h6 : op = 11
  · have hf : flagsW op = 7 := by unfold flagsW; rw [if_pos (by omega)]
    exact ⟨fun h => by rw [hf] at h; exact absurd h (by decide), fun h => by rw [hf] at h; exact absurd h (by decide), fun h => by rw [hf] at h; exact absurd h (by decide)⟩
  rw [if_neg h6] at h
  by_cases h7 : op = 12
  · have hf : flagsW op = 7 := by unfold flagsW; rw [if_pos (by omega)]
    exact ⟨fun h => by rw [hf] at h; exact absurd h (by decide), fun h => by rw [hf] at h; exact absurd h (by decide), fun h => by rw [hf] at h; exact absurd h (by decide)⟩
  rw [if_neg h7] at h
  by_cases h8 : op = 22
  · have hf : flagsW op = 7 := by unfold flagsW; rw [if_pos (by omega)]
    exact ⟨fun h => by rw [hf] at h; exact absurd h (by decide), fun h => by rw [hf] at h; exact absurd h (by decide), fun h => by rw [hf] at h; exact absurd h (by decide)⟩
  rw [if_neg h8] at h
  by_cases h9 : op = 23
  · rw [if_pos h9] at h; cases h; exact flags_none ⟨rfl, rfl, rfl⟩
  rw [if_neg h9] at h
  by_cases h10 : op = 24
  · have hf : flagsW op = 5 := by unfold flagsW; rw [if_neg (by omega), if_pos (by omega)]
    rw [if_pos h10] at h
    cases h
    exact ⟨(fun h => by rw [hf] at h; exact absurd h (by decide)), fun _ => rfl, (fun h => by rw [hf] at h; exact absurd h (by decide))⟩
  rw [if_neg h10] at h
  by_cases h11 : op = 25
  · have hf : flagsW op = 5 := by unfold flagsW; rw [if_neg (by omega), if_pos (by omega)]
    rw [if_pos h11] at h
    cases h
    exact ⟨(fun h => by rw [hf] at h; exact absurd h (by decide)), fun _ => rfl, (fun h => by rw [hf] at h; exact absurd h (by decide))⟩
  rw [if_neg h11] at h
  by_cases h12 : op = 20
  · have hf : flagsW op = 1 := by unfold flagsW; rw [if_neg (by omega), if_neg (by omega), if_pos (by omega)]
    rw [if_pos h12] at h
    cases h
    exact ⟨(fun h => by rw [hf] at h; exact absurd h (by decide)), fun _ => rfl, fun _ => rfl⟩
  rw [if_neg h12] at h
  by_cases h13 : op = 21
  · have hf : flagsW op = 2 := by unfold flagsW; rw [if_neg (by omega), if_neg (by omega), if_neg (by omega), if_pos (by omega)]
    rw [if_pos h13] at h
    cases h
    exact ⟨fun _ => rfl, (fun h => by rw [hf] at h; exact absurd h (by decide)), fun _ => rfl⟩
  rw [if_neg h13] at h
  by_cases h14 : op = 26
  · rw [if_pos h14] at h; cases h; exact flags_none ⟨rfl, rfl, rfl⟩
  rw [if_neg h14] at h
  by_cases h15 : op = 27
  · rw [if_pos h15] at h; cases h; exact flags_none ⟨rfl, rfl, rfl⟩
  rw [if_neg h15] at h
  cases h
theorem over_flags {s s2 : St} {i : Ins} (ho : overF s i = some s2) : FlagsStay i.op s s2 := by
  unfold overF at ho
  split at ho
  · cases ho
  · rename_i s1 r hv
    have hf := value_flags hv
    obtain rfl := Option.some.inj ho
    split <;> exact hf

theorem over_is {s s2 : St} {i : Ins} (hc : chkP i = true) (ho : overF s i = some s2) : isOver i.op = true := by
  have hr := chk_range hc
  cases h : isOver i.op with
  | true => rfl
  | false =>
    exfalso
    have h1 : i.op = 3 ∨ i.op = 4 ∨ i.op = 5 ∨ i.op = 19 ∨ 28 ≤ i.op := by
      simp only [isOver, Bool.or_eq_false_iff, Bool.and_eq_false_iff, decide_eq_false_iff_not] at h
      omega
    unfold overF at ho
    have hv : ∀ d b, valueF s i.op d b = none := fun d b => by
      unfold valueF
      rw [if_neg (by omega), if_neg (by omega), if_neg (by omega), if_neg (by omega), if_neg (by omega), if_neg (by omega), if_neg (by omega), if_neg (by omega), if_neg (by omega), if_neg (by omega), if_neg (by omega), if_neg (by omega), if_neg (by omega), if_neg (by omega), if_neg (by omega), if_neg (by omega)]
    rw [hv] at ho
    cases ho
theorem over_none_sv {s : St} {i : Ins} (R : List Nat) (hc : chkP i = true) (ho : overF s i = none) : overF (sv s R) i = none := by
  cases h : overF (sv s R) i with
  | none => rfl
  | some s2 =>
    obtain ⟨s1, r, hv⟩ := over_value (s := s) (d := regAt s i.d) (b := if takesS i.op then regAt s i.s else u64 i.imm) (over_is hc h)
    unfold overF at ho
    rw [hv] at ho
    cases ho

/-- A step: what it leaves, and what does not matter to it. -/
theorem step_stays {s : St} {i : Ins} {size : Int} {rs : List Reg} (h : (stepF s i size rs).code = 0) : chkP i = true ∧
    (∀ k, (writesL (formR i.op) i).getD k false = false → (stepF s i size rs).st.regs.getD k 0 = s.regs.getD k 0) ∧ FlagsStay i.op s (stepF s i size rs).st ∧
    (∀ r v, (readsL (formR i.op) i).getD r false = false → stepF (sv s (s.regs.set r v)) i size rs = ⟨0, if (writesL (formR i.op) i).getD r false then (stepF s i size rs).st else sv (stepF s i size rs).st ((stepF s i size rs).st.regs.set r v), (stepF s i size rs).evs, (stepF s i size rs).rs⟩) := by
  by_cases hg : (chkP i && (decide (1 ≤ size) && decide (size ≤ 15))) = true
  · have hc : chkP i = true := by rw [Bool.and_eq_true] at hg; exact hg.1
    refine ⟨hc, ?_⟩
    cases ho : overF { s with pc := (s.pc + u64 size) % 18446744073709551616 } i with
    | some s2 =>
      have e : stepF s i size rs = ⟨0, s2, [⟨1, s.pc⟩], rs⟩ := by unfold stepF; rw [if_pos hg, ho]
      obtain ⟨hA, hC⟩ := over_stays hc (over_is hc ho) ho
      have hF := over_flags ho
      rw [e]
      refine ⟨hA, hF, fun r v hr => ?_⟩
      have h2 : overF { sv s (s.regs.set r v) with pc := ((sv s (s.regs.set r v)).pc + u64 size) % 18446744073709551616 } i = _ := hC r v hr
      unfold stepF
      rw [if_pos hg, h2]
      rfl
    | none =>
      have hD := do_stays (rs := rs) hc ho
      have e : stepF s i size rs = (let r := doF { s with pc := (s.pc + u64 size) % 18446744073709551616 } i rs 0; if r.2.2.1 = 0 then ⟨0, r.1, ⟨1, s.pc⟩ :: r.2.1, r.2.2.2⟩ else ⟨r.2.2.1, s, [], r.2.2.2⟩) := by unfold stepF; rw [if_pos hg, ho]
      have hz : (doF { s with pc := (s.pc + u64 size) % 18446744073709551616 } i rs 0).2.2.1 = 0 := by
        by_cases hz : (doF { s with pc := (s.pc + u64 size) % 18446744073709551616 } i rs 0).2.2.1 = 0
        · exact hz
        · rw [e] at h
          simp only [if_neg hz] at h
          exact absurd h hz
      simp only [if_pos hz] at e
      obtain ⟨hA, hC, hF⟩ := hD
      rw [e]
      refine ⟨hA, flags_none hF, fun r v hr => ?_⟩
      have h2 := hC r v hr
      have h3 : doF { sv s (s.regs.set r v) with pc := ((sv s (s.regs.set r v)).pc + u64 size) % 18446744073709551616 } i rs 0 = _ := h2
      have h4 : overF { sv s (s.regs.set r v) with pc := ((sv s (s.regs.set r v)).pc + u64 size) % 18446744073709551616 } i = none := over_none_sv (s.regs.set r v) hc ho
      unfold stepF
      rw [if_pos hg, h4]
      simp only [h3, if_pos hz]
      rfl
  · have e : stepF s i size rs = ⟨2, s, [], rs⟩ := by unfold stepF; rw [if_neg hg]
    rw [e] at h
    cases h
theorem storeVE_bad {rs : List Reg} {a v : Nat} (h : (storeVE rs a v).1 ≠ 0) : (storeVE rs a v).2 = rs := by
  unfold storeVE at h ⊢
  split
  · rfl
  · rename_i r hr
    rw [hr] at h
    exact absurd rfl h
theorem doF_bad {s : St} {i : Ins} {rs : List Reg} (h : (doF s i rs 0).2.2.1 ≠ 0) : (doF s i rs 0).2.2.2 = rs := by
  unfold doF at h ⊢
  by_cases h3 : i.op = 3
  · rw [if_pos h3]
  rw [if_neg h3] at h ⊢
  by_cases h4 : i.op = 4
  · rw [if_pos h4] at h ⊢; exact storeVE_bad h
  rw [if_neg h4] at h ⊢
  by_cases h5 : i.op = 5
  · rw [if_pos h5]
  rw [if_neg h5] at h ⊢
  by_cases h19 : i.op = 19
  · rw [if_pos h19]
  rw [if_neg h19] at h ⊢
  by_cases h28 : i.op = 28
  · rw [if_pos h28] at h ⊢; exact storeVE_bad h
  rw [if_neg h28] at h ⊢
  by_cases h29 : i.op = 29
  · rw [if_pos h29]
  rw [if_neg h29] at h ⊢
  by_cases h33 : i.op = 33
  · rw [if_pos h33]
  rw [if_neg h33]
theorem step_bad {s : St} {i : Ins} {size : Int} {rs : List Reg} (h : (stepF s i size rs).code ≠ 0) : (stepF s i size rs).st = s ∧ (stepF s i size rs).evs = [] ∧ (stepF s i size rs).rs = rs := by
  unfold stepF at h ⊢
  split
  · rename_i hg
    rw [if_pos hg] at h
    split
    · rename_i s2 ho
      rw [ho] at h
      exact absurd rfl h
    · rename_i ho
      rw [ho] at h
      by_cases hz : (doF { s with pc := (s.pc + u64 size) % 18446744073709551616 } i rs 0).2.2.1 = 0
      · simp only [if_pos hz] at h
        exact absurd rfl h
      · simp only [if_neg hz]
        exact ⟨trivial, trivial, doF_bad hz⟩
  · exact ⟨rfl, rfl, rfl⟩
end Go.Proofs.YtmanhikpccnfaaaGreat

/- What a step comes to is a state: plain. -/
namespace Go.Proofs.YtmanhikpccnfaaaGreat
open Go.RowKit

theorem value_lt {s s1 : St} {op : Int} {d b r : Nat} (hd : d < 18446744073709551616) (hb : b < 18446744073709551616) (h : valueF s op d b = some (s1, r)) : r < 18446744073709551616 := by
  unfold valueF at h
  by_cases h0 : op = 1 ∨ op = 2
  · rw [if_pos h0] at h; cases h; exact hb
  rw [if_neg h0] at h
  by_cases h1 : op = 6 ∨ op = 15
  · rw [if_pos h1] at h; cases h; exact addF_lt _ _ _
  rw [if_neg h1] at h
  by_cases h2 : op = 7
  · rw [if_pos h2] at h; cases h; exact addF_lt _ _ _
  rw [if_neg h2] at h
  by_cases h3 : op = 8 ∨ op = 17 ∨ op = 13 ∨ op = 18
  · rw [if_pos h3] at h; cases h; exact subF_lt _ _ _
  rw [if_neg h3] at h
  by_cases h4 : op = 9
  · rw [if_pos h4] at h; cases h; exact subF_lt _ _ _
  rw [if_neg h4] at h
  by_cases h5 : op = 10 ∨ op = 16 ∨ op = 14
  · rw [if_pos h5] at h; cases h; exact and_lt hd
  rw [if_neg h5] at h
  by_cases h6 : op = 11
  · rw [if_pos h6] at h; cases h; exact or_lt hd hb
  rw [if_neg h6] at h
  by_cases h7 : op = 12
  · rw [if_pos h7] at h; cases h; exact xor_lt hd hb
  rw [if_neg h7] at h
  by_cases h8 : op = 22
  · rw [if_pos h8] at h; cases h; exact subF_lt _ _ _
  rw [if_neg h8] at h
  by_cases h9 : op = 23
  · rw [if_pos h9] at h; cases h; exact (by omega)
  rw [if_neg h9] at h
  by_cases h10 : op = 24
  · rw [if_pos h10] at h; cases h; exact Nat.mod_lt _ (by decide)
  rw [if_neg h10] at h
  by_cases h11 : op = 25
  · rw [if_pos h11] at h; cases h; exact Nat.lt_of_le_of_lt (Nat.div_le_self _ _) hd
  rw [if_neg h11] at h
  by_cases h12 : op = 20
  · rw [if_pos h12] at h; cases h; exact addF_lt _ _ _
  rw [if_neg h12] at h
  by_cases h13 : op = 21
  · rw [if_pos h13] at h; cases h; exact addF_lt _ _ _
  rw [if_neg h13] at h
  by_cases h14 : op = 26
  · rw [if_pos h14] at h; cases h; exact ite_lt hb hd
  rw [if_neg h14] at h
  by_cases h15 : op = 27
  · rw [if_pos h15] at h; cases h; exact ite_lt hd hb
  rw [if_neg h15] at h
  cases h
theorem regAt_lt {s : St} (hs : StOk s) (k : Int) : regAt s k < 18446744073709551616 := by
  unfold regAt
  rw [List.getD_eq_getElem?_getD]
  cases h : s.regs[k.toNat]? with
  | none => simp
  | some r => exact hs.regs r (List.mem_of_getElem? h)
theorem StOk.pc_ {s : St} (h : StOk s) {q : Nat} (hq : q < 18446744073709551616) : StOk { s with pc := q } := ⟨h.len, h.regs, hq⟩
theorem over_ok {s s2 : St} {i : Ins} (hs : StOk s) (ho : overF s i = some s2) : StOk s2 := by
  unfold overF at ho
  split at ho
  · cases ho
  · rename_i s1 r hv
    obtain ⟨k1, k2⟩ := value_keep hv
    have hb : (if takesS i.op then regAt s i.s else u64 i.imm) < 18446744073709551616 := by
      split
      · exact regAt_lt hs _
      · exact u64_lt _
    have hr := value_lt (regAt_lt hs _) hb hv
    have h1 : StOk s1 := ⟨by rw [k1]; exact hs.len, by rw [k1]; exact hs.regs, by rw [k2]; exact hs.pc⟩
    obtain rfl := Option.some.inj ho
    split
    · exact h1
    · exact h1.set _ hr
theorem jump_ok {s : St} (hs : StOk s) (b : Bool) (n : Int) : StOk (jumpS s b n) := by
  unfold jumpS
  split
  · exact hs.pc_ (Nat.mod_lt _ (by decide))
  · exact hs
theorem do_ok {s : St} {i : Ins} {rs : List Reg} (hs : StOk s) : StOk (doF s i rs 0).1 := by
  unfold doF
  by_cases h3 : i.op = 3
  · rw [if_pos h3]; exact hs.set _ loadF_lt
  rw [if_neg h3]
  by_cases h4 : i.op = 4
  · rw [if_pos h4]; exact hs
  rw [if_neg h4]
  by_cases h5 : i.op = 5
  · rw [if_pos h5]; exact hs.set _ (Nat.mod_lt _ (by decide))
  rw [if_neg h5]
  by_cases h19 : i.op = 19
  · rw [if_pos h19]
    have h1 := regAt_lt hs i.t
    have h2 := regAt_lt hs 2
    refine (hs.set _ ?_).set _ (Nat.mod_lt _ (by decide))
    show regAt s i.t * regAt s 2 / 18446744073709551616 < _
    have h3 := Nat.mul_le_mul (Nat.le_of_lt_succ h1) (Nat.le_of_lt_succ h2)
    omega
  rw [if_neg h19]
  by_cases h28 : i.op = 28
  · rw [if_pos h28]; exact hs.set _ (Nat.mod_lt _ (by decide))
  rw [if_neg h28]
  by_cases h29 : i.op = 29
  · rw [if_pos h29]; exact (hs.set _ (Nat.mod_lt _ (by decide))).set _ loadF_lt
  rw [if_neg h29]
  by_cases h33 : i.op = 33
  · rw [if_pos h33]; exact (hs.set 4 (Nat.mod_lt _ (by decide))).pc_ loadF_lt
  rw [if_neg h33]
  exact jump_ok hs _ _
theorem step_ok {s : St} (hs : StOk s) (i : Ins) (size : Int) (rs : List Reg) : StOk (stepF s i size rs).st := by
  unfold stepF
  split
  · have h1 : StOk { s with pc := (s.pc + u64 size) % 18446744073709551616 } := hs.pc_ (Nat.mod_lt _ (by decide))
    split
    · rename_i s2 ho; exact over_ok h1 ho
    · by_cases hz : (doF { s with pc := (s.pc + u64 size) % 18446744073709551616 } i rs 0).2.2.1 = 0
      · simp only [if_pos hz]; exact do_ok h1
      · simp only [if_neg hz]; exact hs
  · exact hs
end Go.Proofs.YtmanhikpccnfaaaGreat

/- Words of StepStays', StepSeen's and StepCalls' walks. -/
namespace Go.Proofs.YtmanhikpccnfaaaGreat
open Go.RowKit

theorem regs_next {w w' : World} {v : Value} {rs : List Reg} (h : RegsAt w (fun k => k < w.heap.size) v rs) (hb : Below w.heap.size w w') : RegsAt w' (fun k => k < w'.heap.size) v rs :=
  (h.below hb fun _ hk => hk).mono fun _ hk => Nat.lt_of_lt_of_le hk hb.size
theorem two_boxes (w : World) (s : St) (i : Ins) : ∃ W, W = (w.alloc (.cells (stRow s).toArray 25)).alloc (.cells (insRow i).toArray 29) ∧ Below w.heap.size w W ∧ W.heap.size = w.heap.size + 1 + 1 ∧
    W.heap[w.heap.size]? = some (.cells (stRow s).toArray 25 (0, 0)) ∧ W.heap[w.heap.size + 1]? = some (.cells (insRow i).toArray 29 (0, 0)) := by
  have z1 : (w.alloc (.cells (stRow s).toArray 25)).heap.size = w.heap.size + 1 := by simp
  refine ⟨_, rfl, ((Below.refl _ _).alloc (Nat.le_refl _) _).alloc (by simp) _, by simp, ?_, ?_⟩
  · exact (Below.heap_alloc _ _ _ (by omega)).trans (heap_alloc_new w _)
  · rw [← z1]; exact heap_alloc_new _ _

section
variable {ops : Array Oper} {rest : List Oper} {o : Oper} {a : Act} {w : World} {Q : Exit → Act → World → Prop}
theorem Held2.load_row_w {w0 wf : World} {F G : Nat → Prop} {m : Value} {rs : List Reg} {B : List (Nat × St)} {E : List (Value × List Ev)} (h : Held2 w0 wf w F G m rs B E) (i : Nat) {g : Nat} {s : St} (hi : B[i]? = some (g, s)) (y : Operand) (ho : o.op = .load 25 y) (hx : a.eval y = .pointer (some ⟨g, 0, none⟩)) (hw : Region.wanted o (yielded ops a.tmps) = true) (k : wpList Tryz.prog ops Q rest (a.put o.dst (.agg (stRow s).toArray)) w) : wpList Tryz.prog ops Q (o :: rest) a w :=
  wpList_val_w hw (exec_load_row 25 y ho g hx _ _ _ (h.held.get hi).1 _ Tryz.underlying25 rfl (by rw [stRow_size (h.held.ok i hi)]; exact infoSt)) k
theorem exec_eq_st (x y : Operand) (ho : o.op = .binOp .eql 25 x y 25) {s t : St} (hs : StOk s) (ht : StOk t) (hx : a.eval x = .agg (stRow s).toArray) (hy : a.eval y = .agg (stRow t).toArray) : (execOp a.eval o).run Tryz.prog w = .ok (.value (.bool (eqSt s t))) w := by
  unfold execOp
  simp only [ho, hx, hy, Sem.run_bind, run_eqGuard_agg _ _ _ _ _ _ _ Tryz.eqGuardType25, Result.andThen_ok, run_eql_struct, eq_st s t hs ht, Sem.run_pure]
theorem wl_eq_st (x y : Operand) (ho : o.op = .binOp .eql 25 x y 25) {s t : St} (hs : StOk s) (ht : StOk t) (hx : a.eval x = .agg (stRow s).toArray) (hy : a.eval y = .agg (stRow t).toArray) (hw : Region.wanted o (yielded ops a.tmps) = true) {q : Bool} (hq : eqSt s t = q)
    (k : wpList Tryz.prog ops Q rest (a.put o.dst (.bool q)) w) : wpList Tryz.prog ops Q (o :: rest) a w :=
  wpList_val_w hw (exec_eq_st x y ho hs ht hx hy) (hq.symm ▸ k)
end

theorem stRow_get {s : St} {k r : Nat} (h : s.regs[k]? = some r) : (stRow s)[k]? = some (.int .u64 r) := by
  have hk := (List.getElem?_eq_some_iff.1 h).1
  simp only [stRow]
  rw [List.getElem?_append_left (by simpa using hk), List.getElem?_map, h]
  rfl
theorem stRow_cf {s : St} (h : StOk s) : (stRow s)[17]? = some (.bool s.cf) := by
  rw [stRow, List.getElem?_append_right (by simp [h.len])]; simp [h.len]
theorem stRow_of {s : St} (h : StOk s) : (stRow s)[18]? = some (.bool s.of_) := by
  rw [stRow, List.getElem?_append_right (by simp [h.len])]; simp [h.len]
theorem stRow_zf {s : St} (h : StOk s) : (stRow s)[19]? = some (.bool s.zf) := by
  rw [stRow, List.getElem?_append_right (by simp [h.len])]; simp [h.len]
theorem stRow_reg (s : St) (k : Nat) (hk : k < s.regs.length) (n : Nat) : (stRow s).set k (.int .u64 n) = stRow { s with regs := s.regs.set k n } := by
  rw [stRow, List.set_append_left _ _ (by simpa using hk), stRow, List.map_set]
theorem pick16 (x : Int) : ∃ X : Nat, x % ((16 : Nat) : Int) = X ∧ X < 16 := ⟨(x % 16).toNat, by omega, by omega⟩
theorem step_evs (s : St) (i : Ins) (size : Int) (rs : List Reg) : (stepF s i size rs).evs.length ≤ 100 := by
  have h : ∀ (s : St) (rs : List Reg) (e : Int), (doF s i rs e).2.1.length ≤ 90 := fun s rs e => by
    unfold doF
    repeat' split
    all_goals simp
  unfold stepF
  split
  · split
    · simp
    · simp only []
      split
      · have := h { s with pc := (s.pc + u64 size) % 18446744073709551616 } rs 0
        simp only [List.length_cons]
        omega
      · simp
  · simp
theorem set_lt16 {L : List Nat} (h : ∀ r ∈ L, r < 18446744073709551616) (k : Nat) {v : Nat} (hv : v < 18446744073709551616) : ∀ r ∈ L.set k v, r < 18446744073709551616 := fun r hr => by
  rcases List.mem_or_eq_of_mem_set hr with hr | rfl
  · exact h r hr
  · exact hv
theorem mem_good {w : World} {F : Nat → Prop} {p : Value} {rs : List Reg} (h : MemAt w F p rs) : Good rs := by
  obtain ⟨_, _, _, _, _, _, h⟩ := h
  exact h
theorem Regions_at {p : Value} {w : World} {F : Nat → Prop} {rs : List Reg} (hm : MemAt w F p rs) (hF : ∀ k, F k → k < w.heap.size) :
    Calls Tryz.prog 15 #[p] w fun e w' => ∃ A c, e = .returned (.slice A rs.length c) ∧ RegsAt w' (fun k => k < w'.heap.size) (.slice A rs.length c) rs ∧ Below w.heap.size w w' := by
  refine (Regions_any p w F rs hm hF).mono ?_
  rintro e w' ⟨v, rfl, ho, hb⟩
  have h := (ho.at_ (mem_good hm).base).mono (G := fun k => k < w'.heap.size) fun k hk => hk.2
  obtain ⟨A, c, rfl, _⟩ := h.form
  exact ⟨A, c, rfl, h, hb⟩
theorem Same_true {v u : Value} {w : World} {l : List Reg} (hn : l.length ≤ 9223372036854775807) (ha : RegsAt w (fun k => k < w.heap.size) v l) (hb : RegsAt w (fun k => k < w.heap.size) u l) :
    Calls Tryz.prog 14 #[v, u] w fun e w' => e = .returned (.bool true) ∧ Below w.heap.size w w' :=
  (Same_any v u w _ l l hn ha hb fun _ h => h).mono fun e w' ⟨h1, h2⟩ => ⟨by rw [h1, (sameR_iff l l).2 rfl], h2⟩

end Go.Proofs.YtmanhikpccnfaaaGreat

/- step.Do without a memory; step.Same. -/
namespace Go.Proofs.YtmanhikpccnfaaaGreat
open Go.RowKit

set_option maxRecDepth 100000 in
set_option maxHeartbeats 1600000 in
theorem Do_nil (s : St) (i : Ins) (size : Int) (w : World) (hs : StOk s) (hi : InsOk i) (hgood : (chkP i && (decide (1 ≤ size) && decide (size ≤ 15))) = true) :
    Calls Tryz.prog 11 #[.agg (stRow s).toArray, .agg (insRow i).toArray, .int .i64 size, .pointer none] w fun e w' => e = .returned (.tuple #[.agg (stRow s).toArray, .slice none 0 0, .int .i64 1]) ∧ Below w.heap.size w w' := by
  have HS := Lib.hid hs
  have HCHK := Lib.hid (fun w => iCheck_any i hi w)
  obtain ⟨hz, _⟩ := zero_of_info zeroInfoSt
  obtain ⟨W1, hW1, hb1, hs1, _, _⟩ := boxed w (stRow s).toArray 25
  have k1 : W1.heap[w.heap.size]? = some (.cells (stRow s).toArray 25 (0, 0)) := by rw [hW1]; exact heap_alloc_new w _
  obtain ⟨W2, hW2, hb2, hs2, hn2, _⟩ := boxed W1 (insRow i).toArray 29
  obtain ⟨W3, hW3, hb3, hs3, _, _⟩ := boxed W2 zeroSt.toArray 25
  have HSZ := Lib.hid (stRow_size hs)
  have HONE := Lib.hid (stRow_one s)
  generalize hcs : (stRow s).toArray = cs at *
  generalize hzs : zeroSt.toArray = zs at *
  have HCS := Lib.hid hcs
  have HZS := Lib.hid hzs
  have e1 : W1.heap.size = w.heap.size + 1 := hs1
  have e2 : W2.heap.size = w.heap.size + 1 + 1 := by omega
  have e3 : W3.heap.size = w.heap.size + 1 + 1 + 1 := by omega
  have b0 : W3.heap[w.heap.size]? = some (.cells cs 25 (0, 0)) := (hb3.block _ (by omega)).trans ((hb2.block _ (by omega)).trans k1)
  have b1 : W3.heap[w.heap.size + 1]? = some (.cells (insRow i).toArray 29 (0, 0)) := (hb3.block _ (by omega)).trans (by rw [hW2, ← e1]; exact heap_alloc_new W1 _)
  have b2 : W3.heap[w.heap.size + 1 + 1]? = some (.cells zs 25 (0, 0)) := by rw [hW3, ← e2]; exact heap_alloc_new W2 _
  have HB0 := Lib.hid b0
  have HB1 := Lib.hid b1
  have HB2 := Lib.hid b2
  have HW := Lib.hid (show W3 = ((w.alloc (.cells cs 25)).alloc (.cells (insRow i).toArray 29)).alloc (.cells zs 25) by rw [hW3, hW2, hW1])
  have HBW := Lib.hid (hb1.trans ((hb2.trans (hb3.mono (by omega))).mono (by omega)))
  have HE3 := Lib.hid e3
  clear hs hi hW1 hW2 hW3 hb1 hb2 hb3 hs1 hs2 hs3 k1 hn2 e1 e2 e3 hcs hzs b0 b1 b2
  go_enter Tryz.func11, Tryz.ntmps11
  go_wp2_with (rw [← HW.out]; refine wpList_load_row rfl 29 _ rfl (w.heap.size + 1) rfl 29 (insRow i).toArray (0, 0) _ HB1.out Tryz.underlying29 rfl infoIns ?_)
  refine (HCHK.out W3).mono ?_
  rintro e w4 ⟨rfl, hb4⟩
  have C0 := Lib.hid ((hb4.block _ (by have := HE3.out; omega)).trans HB0.out)
  have C1 := Lib.hid ((hb4.block _ (by have := HE3.out; omega)).trans HB1.out)
  have C2 := Lib.hid ((hb4.block _ (by have := HE3.out; omega)).trans HB2.out)
  have HB4 := Lib.hid (HBW.out.trans (hb4.mono (by have := HE3.out; omega)))
  have HSZ4 := Lib.hid (show w.heap.size + 1 + 1 + 1 ≤ w4.heap.size by have := hb4.size; have := HE3.out; omega)
  clear hb4 HB0 HB1 HB2 HW HBW hz
  have hbad : Below w.heap.size w (w4.setRow (w.heap.size + 1 + 1) cs) := Below.setRow HB4.out (by omega) _
  have HBAD := Lib.hid hbad
  rw [Bool.and_eq_true, Bool.and_eq_true, decide_eq_true_eq, decide_eq_true_eq] at hgood
  obtain ⟨hc, hz1, hz2⟩ := hgood
  have HC := Lib.hid hc
  have d1 : decide (size < 1) = false := by simp; omega
  have d2 : decide (15 < size) = false := by simp; omega
  clear hbad hc hz1 hz2
  rw [HC.out]
  unfold errOf
  go_wp2_with (first | (refine wpList_load_row rfl 25 _ rfl w.heap.size rfl 25 cs (0, 0) _ C0.out Tryz.underlying25 rfl (by rw [HSZ.out]; exact infoSt) ?_) | (refine wpList_store_row rfl 25 _ _ rfl (w.heap.size + 1 + 1) cs rfl rfl 25 zs C2.out (by rw [HSZ.out]; exact infoSt) (by rw [HSZ.out, ← HZS.out]; rfl) HONE.out ?_))
  refine bodyPost_ret (results3 (ty := 25) rfl _ _ (w.heap.size + 1 + 1) 25 cs (0, 0) _ rfl (setRow_heap _ _ _ _ _ _ C2.out) Tryz.underlying25 rfl (by rw [HSZ.out]; exact infoSt)) rfl ?_
  exact ⟨rfl, HBAD.out⟩

theorem SSame_any (v u : Value) (w : World) (F : Nat → Prop) (a b : List Ev) (hn : a.length ≤ 9223372036854775807) (ha : EvsAt w F v a) (hb : EvsAt w F u b) (hF : ∀ k, F k → k < w.heap.size) :
    Calls Tryz.prog 25 #[v, u] w fun e w' => e = .returned (.bool (sameE a b)) ∧ Below w.heap.size w w' := by
  have H := Lib.hid (EqualEv_any v u w F a b hn ha hb hF)
  obtain ⟨A, c, rfl, _⟩ := ha.form
  obtain ⟨B, d, rfl, _⟩ := hb.form
  clear hn ha hb hF
  go_enter Tryz.func25, Tryz.ntmps25
  go_wp2_with fail
  refine H.out.mono ?_
  rintro e w1 ⟨rfl, hb1⟩
  have HB := Lib.hid hb1
  clear hb1
  go_wp2
  go_ret
  exact ⟨rfl, HB.out⟩

section
variable {w0 w w' : World} {F : Nat → Prop} {m : Value} {rs rs' : List Reg} {B : List (Nat × St)} {E : List (Value × List Ev)}
theorem Held.same (h : Held w0 w F m rs B E) (i j : Nat) {v u : Value} {l q : List Ev} (hi : E[i]? = some (v, l)) (hj : E[j]? = some (u, q)) (hl : l.length ≤ 100) :
    Calls Tryz.prog 25 #[v, u] w fun e w' => e = .returned (.bool (sameE l q)) ∧ Held w0 w' F m rs B E :=
  (SSame_any v u w _ l q (by omega) (h.evs i hi) (h.evs j hj) (fun _ hk => hk)).mono fun _ _ ⟨he, hb⟩ => ⟨he, h.next hb⟩
theorem Held.DoNil (h : Held w0 w F m rs B E) (i : Nat) {g : Nat} {s : St} (hi : B[i]? = some (g, s)) (ins : Ins) (hio : InsOk ins) (size : Int) (hgood : (chkP ins && (decide (1 ≤ size) && decide (size ≤ 15))) = true) :
    Calls Tryz.prog 11 #[.agg (stRow s).toArray, .agg (insRow ins).toArray, .int .i64 size, .pointer none] w fun e w' => e = .returned (.tuple #[.agg (stRow s).toArray, .slice none 0 0, .int .i64 1]) ∧ Held w0 w' F m rs B E :=
  (Do_nil s ins size w (h.ok i hi) hio hgood).mono fun _ _ ⟨he, hb⟩ => ⟨he, h.next hb⟩
theorem Held.Address (h : Held w0 w F m rs B E) {s : St} (hs : StOk s) (i : Ins) :
    Calls Tryz.prog 23 #[.agg (stRow s).toArray, .agg #[.int .i64 i.base, .int .i64 i.index, .int .i64 i.scale, .int .i64 i.disp]] w fun e w' => e = .returned (.int .u64 (addrF s i)) ∧ Held w0 w' F m rs B E :=
  (Address_any s i hs w).mono fun _ _ ⟨he, hb⟩ => ⟨he, h.next hb⟩
end
end Go.Proofs.YtmanhikpccnfaaaGreat

/- An argument of type []Region, opened. -/
namespace Go.Proofs.YtmanhikpccnfaaaGreat
open Go.ChangeShapes Go.WideShapes Go.Deep Go.RowKit

theorem list_of_all {α : Type} (Q : Nat → α → Prop) : ∀ n, (∀ i, i < n → ∃ x, Q i x) → ∃ L : List α, L.length = n ∧ ∀ (i : Nat) (x : α), L[i]? = some x → Q i x
  | 0, _ => ⟨[], rfl, fun i x h => by simp at h⟩
  | n + 1, h => by
    obtain ⟨L, hl, hq⟩ := list_of_all Q n (fun i hi => h i (by omega))
    obtain ⟨x, hx⟩ := h n (by omega)
    refine ⟨L ++ [x], by simp [hl], fun i y hy => ?_⟩
    rcases Nat.lt_or_ge i n with hi | hi
    · rw [List.getElem?_append_left (by omega)] at hy; exact hq i y hy
    · rw [List.getElem?_append_right (by omega)] at hy
      have : i - L.length = 0 := by
        rcases Nat.eq_zero_or_pos (i - L.length) with h | h
        · exact h
        · rw [List.getElem?_eq_none (by simp; omega)] at hy; cases hy
      rw [this] at hy
      simp at hy
      subst hy
      rw [show i = n from by omega]; exact hx

theorem plain_addr {w : World} {a : Addr} {k : Nat} {v : Value} (h : w.cell? (a.add k) = some v) (h0 : ∃ u, w.cell? a = some u) : a = ⟨a.block, a.off, none⟩ ∧ a.block < w.heap.size ∧ a.add k = ⟨a.block, a.off + k, none⟩ := by
  obtain ⟨u, hu⟩ := h0
  have hb := World.block_lt_of_cell? w a hu
  have hs : a.spot = none := by
    cases hsp : a.spot with
    | none => rfl
    | some s =>
      unfold World.cell? at hu
      split at hu
      · simp [hsp] at hu
      · cases hu
  have ha : a = ⟨a.block, a.off, none⟩ := by cases a; simp_all
  refine ⟨ha, hb, ?_⟩
  unfold Addr.add
  split
  · rename_i hk; subst hk; simpa using ha
  · rfl

section
variable {H : Type} {enc : TypeId × Value → H} {w : World}

theorem open_bytes {fuel : Nat} {v : Value} {x : DataW H × List MemPlace} (h : DataW.trod enc Tryz.prog w 0 (fun _ => true) true fuel 36 [v] = some x) :
    ∃ A n c l, v = .slice A n c ∧ l.length = n ∧ n ≤ 9223372036854775807 ∧ BytesAt w (fun k => k < w.heap.size) (.slice A n c) l := by
  rcases open_ints Tryz.underlying36 Tryz.underlying5 (by kernel_rfl) h with ⟨hcs, _⟩ | ⟨a, len, cap, zs, hcs, _, hl, hm, hz, _, hcell, hwf⟩
  · cases hcs
    exact ⟨none, 0, 0, [], rfl, rfl, by omega, ⟨none, 0, by simp, by simp, by simp, fun h => absurd rfl h⟩⟩
  · cases hcs
    simp only [if_true] at hz
    refine ⟨some a, len, cap, (zs.take len).map fun z => UInt8.ofNat z.toNat, rfl, by simp; omega, by unfold maxLen at hm; omega, ⟨some a, cap, by simp; omega, by simp; omega, fun r hr => ?_, fun hne => ?_⟩⟩
    · obtain ⟨x, _, rfl⟩ := List.mem_map.1 hr; rfl
    · have hlen : 0 < len := by
        rcases Nat.eq_zero_or_pos len with h0 | h0
        · subst h0; simp at hne
        · exact h0
      have h0 := hcell 0 (by omega)
      have h00 : ∃ u, w.cell? a = some u := ⟨_, by simpa [Addr.add] using h0⟩
      obtain ⟨ha, hb, _⟩ := plain_addr h0 h00
      refine ⟨a.block, a.off, by rw [← ha], hb, fun i j r u hr hu => ?_⟩
      rw [List.getElem?_map, List.getElem?_map] at hr
      cases hzi : (zs.take len)[i]? with
      | none => rw [hzi] at hr; cases hr
      | some z =>
        rw [hzi] at hr
        cases hr
        cases j with
        | succ j => simp at hu
        | zero =>
          simp at hu
          subst hu
          rw [List.getElem?_take] at hzi
          split at hzi
          · rename_i hlt
            have hzl : i < zs.length := (List.getElem?_eq_some_iff.1 hzi).1
            have hc := hcell i hzl
            obtain ⟨_, _, hadd⟩ := plain_addr hc h00
            rw [hadd] at hc
            have hzd : zs.getD i 0 = z := by simp [List.getD, hzi]
            rw [hzd] at hc
            have hw := hwf z (List.mem_of_getElem? hzi)
            have hbd : 0 ≤ z ∧ z ≤ 255 := by simpa [Lit.wf, IntKind.min, IntKind.max, IntKind.bits, IntKind.signed] using hw
            have : byteV (UInt8.ofNat z.toNat) = .int .u8 z := by
              unfold byteV
              congr 1
              simp only [UInt8.toNat_ofNat']
              omega
            rw [this]
            simpa using hc
          · cases hzi

set_option maxRecDepth 100000 in
theorem open_regs {A : Option Addr} {n c : Nat} {d : DataW H} {ps : List MemPlace} (h : DataW.Trod enc Tryz.prog w 0 (fun _ => true) true 30 (.slice A n c) d ps) :
    ∃ l : List Reg, RegsAt w (fun k => k < w.heap.size) (.slice A n c) l ∧ l.length ≤ 9223372036854775807 := by
  obtain ⟨fuel, hf⟩ := h
  rcases open_slice Tryz.underlying30 hf with ⟨hcs, _⟩ | ⟨a, len, cap, m, q, D, Pl, hcs, _, hl, hm, hmm, _, hi⟩
  · simp [Value.cells] at hcs
    obtain ⟨rfl, rfl, rfl⟩ := hcs
    exact ⟨[], ⟨[], rfl, ⟨none, 0, rfl, by simp, by simp, fun h => absurd rfl h⟩, by simp⟩, by simp⟩
  · simp [Value.cells] at hcs
    obtain ⟨rfl, rfl, rfl⟩ := hcs
    simp only [if_true] at hmm
    have hC : Tryz.prog.cellsOf 38 = 3 := by kernel_rfl
    have each : ∀ i, i < n → ∃ x : Reg × Ent, EntSrc w (fun k => k < w.heap.size) x.1 x.2 ∧ ∀ (j : Nat) (u : Value), (entRow x.2)[j]? = some u → w.cell? (a.add (i * 3 + j)) = some u := fun i hin => by
      obtain ⟨cs', hc, ht⟩ := hi i (by omega)
      rw [hC] at hc
      obtain ⟨xs, f, _, _, hlen, hxl, hfs⟩ := DataW.trod_struct Tryz.underlying38 ht
      rw [hC] at hlen
      obtain ⟨_, _, hat⟩ := World.cells?_some hc
      match cs', hlen with
      | [c0, c1, c2], _ =>
        match xs, hxl with
        | [y0, y1, y2], _ =>
          have t0 : DataW.trod enc Tryz.prog w 0 (fun _ => true) true f 22 (([c0, c1, c2].drop 0).take (Tryz.prog.cellsOf 22)) = some y0 := hfs 0 _ rfl
          have t1 : DataW.trod enc Tryz.prog w 0 (fun _ => true) true f 36 (([c0, c1, c2].drop 1).take (Tryz.prog.cellsOf 36)) = some y1 := hfs 1 _ rfl
          have t2 : DataW.trod enc Tryz.prog w 0 (fun _ => true) true f 4 (([c0, c1, c2].drop 2).take (Tryz.prog.cellsOf 4)) = some y2 := hfs 2 _ rfl
          have k0 : Tryz.prog.cellsOf 22 = 1 := by kernel_rfl
          have k1 : Tryz.prog.cellsOf 36 = 1 := by kernel_rfl
          have k2 : Tryz.prog.cellsOf 4 = 1 := by kernel_rfl
          rw [k0] at t0
          rw [k1] at t1
          rw [k2] at t2
          simp only [List.drop_zero, List.drop_succ_cons, List.take_succ_cons, List.take_zero] at t0 t1 t2
          obtain ⟨z, hz, _, hwf⟩ := DataW.trod_int Tryz.underlying22 t0
          obtain ⟨b, hb, _⟩ := DataW.trod_bool Tryz.underlying4 t2
          obtain ⟨A', n', c', l, hv, hln, hmx, hby⟩ := open_bytes t1
          cases hz
          cases hb
          subst hv
          have hzb : 0 ≤ z ∧ z ≤ 18446744073709551615 := by simpa [Lit.wf, IntKind.min, IntKind.max, IntKind.bits, IntKind.signed] using hwf
          refine ⟨(⟨z.toNat, l, b⟩, ⟨z.toNat, A', n', c', b⟩), ⟨rfl, hln.symm, rfl, hby, by show z.toNat < _; omega, by show l.length ≤ _; omega⟩, fun j u hu => ?_⟩
          have hz2 : ((z.toNat : Nat) : Int) = z := by omega
          simp only [entRow, hz2] at hu
          have hj : j < 3 := by
            rcases Nat.lt_or_ge j 3 with h | h
            · exact h
            · rw [List.getElem?_eq_none (by simpa using h)] at hu; cases hu
          have := hat j (by simpa using hj)
          rw [← add_add, this, hu]
    obtain ⟨P, hPl, hP⟩ := list_of_all _ n each
    refine ⟨P.map (·.1), ⟨P, rfl, ⟨some a, c, by simp [hPl], by simp [hPl]; omega, fun r hr => by obtain ⟨x, _, rfl⟩ := List.mem_map.1 hr; rfl, fun hne => ?_⟩, fun x hx => ?_⟩, by simp [hPl]; unfold maxLen at hm; omega⟩
    · have hpos : 0 < P.length := by
        cases P with
        | nil => simp at hne
        | cons => simp
      have hp0 := (hP 0 P[0] (List.getElem?_eq_getElem hpos)).2 0 _ rfl
      have h00 : ∃ u, w.cell? a = some u := ⟨_, by simpa [Addr.add] using hp0⟩
      obtain ⟨ha, hb, _⟩ := plain_addr hp0 h00
      refine ⟨a.block, a.off, by rw [← ha], hb, fun i j r u hr hu => ?_⟩
      rw [List.getElem?_map] at hr
      cases hpi : P[i]? with
      | none => rw [hpi] at hr; cases hr
      | some x =>
        rw [hpi] at hr
        cases hr
        have hc := (hP i x hpi).2 j u hu
        obtain ⟨_, _, hadd⟩ := plain_addr hc h00
        rw [hadd] at hc
        rw [show a.off + i * 3 + j = a.off + (i * 3 + j) from by omega]
        exact hc
    · obtain ⟨i, hi⟩ := List.mem_iff_getElem?.1 hx
      exact (hP i x hi).1
end
end Go.Proofs.YtmanhikpccnfaaaGreat
