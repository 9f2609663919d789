/- What a step leaves, and what does not matter to it: plain. -/
import Derived.Test.YtmanhikpccnfaaaGreatRef05d
namespace Go.Proofs.YtmanhikpccnfaaaGreat
open Go.RowKit

def sv (s : St) (R : List Nat) : St := { s with regs := R }
theorem value_sv (s : St) (R : List Nat) (op : Int) (d b : Nat) : valueF (sv s R) op d b = (valueF s op d b).map fun x => (sv x.1 R, x.2) := by
  unfold valueF
  by_cases h0 : op = 1 ∨ op = 2
  · rw [if_pos h0, if_pos h0]; rfl
  rw [if_neg h0, if_neg h0]
  by_cases h1 : op = 6 ∨ op = 15
  · rw [if_pos h1, if_pos h1]; rfl
  rw [if_neg h1, if_neg h1]
  by_cases h2 : op = 7
  · rw [if_pos h2, if_pos h2]; rfl
  rw [if_neg h2, if_neg h2]
  by_cases h3 : op = 8 ∨ op = 17 ∨ op = 13 ∨ op = 18
  · rw [if_pos h3, if_pos h3]; rfl
  rw [if_neg h3, if_neg h3]
  by_cases h4 : op = 9
  · rw [if_pos h4, if_pos h4]; rfl
  rw [if_neg h4, if_neg h4]
  by_cases h5 : op = 10 ∨ op = 16 ∨ op = 14
  · rw [if_pos h5, if_pos h5]; rfl
  rw [if_neg h5, if_neg h5]
  by_cases h6 : op = 11
  · rw [if_pos h6, if_pos h6]; rfl
  rw [if_neg h6, if_neg h6]
  by_cases h7 : op = 12
  · rw [if_pos h7, if_pos h7]; rfl
  rw [if_neg h7, if_neg h7]
  by_cases h8 : op = 22
  · rw [if_pos h8, if_pos h8]; rfl
  rw [if_neg h8, if_neg h8]
  by_cases h9 : op = 23
  · rw [if_pos h9, if_pos h9]; rfl
  rw [if_neg h9, if_neg h9]
  by_cases h10 : op = 24
  · rw [if_pos h10, if_pos h10]; rfl
  rw [if_neg h10, if_neg h10]
  by_cases h11 : op = 25
  · rw [if_pos h11, if_pos h11]; rfl
  rw [if_neg h11, if_neg h11]
  by_cases h12 : op = 20
  · rw [if_pos h12, if_pos h12]; rfl
  rw [if_neg h12, if_neg h12]
  by_cases h13 : op = 21
  · rw [if_pos h13, if_pos h13]; rfl
  rw [if_neg h13, if_neg h13]
  by_cases h14 : op = 26
  · rw [if_pos h14, if_pos h14]; rfl
  rw [if_neg h14, if_neg h14]
  by_cases h15 : op = 27
  · rw [if_pos h15, if_pos h15]; rfl
  rw [if_neg h15, if_neg h15]
  rfl
theorem value_keep {s s1 : St} {op : Int} {d b r : Nat} (h : valueF s op d b = some (s1, r)) : s1.regs = s.regs ∧ s1.pc = s.pc := by
  unfold valueF at h
  by_cases h0 : op = 1 ∨ op = 2
  · rw [if_pos h0] at h; cases h; exact ⟨rfl, rfl⟩
  rw [if_neg h0] at h
  by_cases h1 : op = 6 ∨ op = 15
  · rw [if_pos h1] at h; cases h; exact ⟨rfl, rfl⟩
  rw [if_neg h1] at h
  by_cases h2 : op = 7
  · rw [if_pos h2] at h; cases h; exact ⟨rfl, rfl⟩
  rw [if_neg h2] at h
  by_cases h3 : op = 8 ∨ op = 17 ∨ op = 13 ∨ op = 18
  · rw [if_pos h3] at h; cases h; exact ⟨rfl, rfl⟩
  rw [if_neg h3] at h
  by_cases h4 : op = 9
  · rw [if_pos h4] at h; cases h; exact ⟨rfl, rfl⟩
  rw [if_neg h4] at h
  by_cases h5 : op = 10 ∨ op = 16 ∨ op = 14
  · rw [if_pos h5] at h; cases h; exact ⟨rfl, rfl⟩
  rw [if_neg h5] at h
  by_cases h6 : op = 11
  · rw [if_pos h6] at h; cases h; exact ⟨rfl, rfl⟩
  rw [if_neg h6] at h
  by_cases h7 : op = 12
  · rw [if_pos h7] at h; cases h; exact ⟨rfl, rfl⟩
  rw [if_neg h7] at h
  by_cases h8 : op = 22
  · rw [if_pos h8] at h; cases h; exact ⟨rfl, rfl⟩
  rw [if_neg h8] at h
  by_cases h9 : op = 23
  · rw [if_pos h9] at h; cases h; exact ⟨rfl, rfl⟩
  rw [if_neg h9] at h
  by_cases h10 : op = 24
  · rw [if_pos h10] at h; cases h; exact ⟨rfl, rfl⟩
  rw [if_neg h10] at h
  by_cases h11 : op = 25
  · rw [if_pos h11] at h; cases h; exact ⟨rfl, rfl⟩
  rw [if_neg h11] at h
  by_cases h12 : op = 20
  · rw [if_pos h12] at h; cases h; exact ⟨rfl, rfl⟩
  rw [if_neg h12] at h
  by_cases h13 : op = 21
  · rw [if_pos h13] at h; cases h; exact ⟨rfl, rfl⟩
  rw [if_neg h13] at h
  by_cases h14 : op = 26
  · rw [if_pos h14] at h; cases h; exact ⟨rfl, rfl⟩
  rw [if_neg h14] at h
  by_cases h15 : op = 27
  · rw [if_pos h15] at h; cases h; exact ⟨rfl, rfl⟩
  rw [if_neg h15] at h
  cases h
theorem value_mov {s : St} {op : Int} (h : op = 1 ∨ op = 2) (d d' b : Nat) : valueF s op d b = valueF s op d' b := by
  unfold valueF
  rw [if_pos h, if_pos h]

theorem getD_set (L : List Bool) (a k : Nat) (ha : a < L.length) : (L.set a true).getD k false = (decide (k = a) || L.getD k false) := by
  rw [List.getD_eq_getElem?_getD, List.getD_eq_getElem?_getD, List.getElem?_set]
  by_cases h : a = k
  · subst h; simp [ha]
  · rw [if_neg h]
    have : ¬ k = a := fun e => h e.symm
    simp [this]
theorem L16_len : L16.length = 16 := rfl
theorem L16_get (k : Nat) : L16.getD k false = false := by
  rw [List.getD_eq_getElem?_getD]
  cases h : L16[k]? with
  | none => rfl
  | some b =>
    have := List.mem_of_getElem? h
    simp only [L16, List.mem_replicate] at this
    rw [this.2]; rfl

theorem regAt_set {s : St} {r v : Nat} {k : Int} (h : k.toNat ≠ r) : regAt (sv s (s.regs.set r v)) k = regAt s k := by
  simp only [regAt, sv, List.getD_eq_getElem?_getD]
  rw [List.getElem?_set_ne (fun e => h e.symm)]

/-- Is it one over a value? -/
def isOver (op : Int) : Bool := decide (op = 1) || decide (op = 2) || (decide (6 ≤ op) && decide (op ≤ 18)) || (decide (20 ≤ op) && decide (op ≤ 27))
theorem over_value {s : St} {op : Int} {d b : Nat} (h : isOver op = true) : ∃ s1 r, valueF s op d b = some (s1, r) := by
  have hr : op = 1 ∨ op = 2 ∨ op = 6 ∨ op = 7 ∨ op = 8 ∨ op = 9 ∨ op = 10 ∨ op = 11 ∨ op = 12 ∨ op = 13 ∨ op = 14 ∨ op = 15 ∨ op = 16 ∨ op = 17 ∨ op = 18 ∨ op = 20 ∨ op = 21 ∨ op = 22 ∨ op = 23 ∨ op = 24 ∨ op = 25 ∨ op = 26 ∨ op = 27 := by
    simp only [isOver, Bool.or_eq_true, Bool.and_eq_true, decide_eq_true_eq] at h
    omega
  rcases hr with rfl | rfl | rfl | rfl | rfl | rfl | rfl | rfl | rfl | rfl | rfl | rfl | rfl | rfl | rfl | rfl | rfl | rfl | rfl | rfl | rfl | rfl | rfl <;> exact ⟨_, _, rfl⟩

theorem rd_SD {s d r : Nat} (hs : s < 16) (hd : d < 16) (h : ((L16.set s true).set d true).getD r false = false) : s ≠ r ∧ d ≠ r := by
  rw [getD_set _ _ _ (by simpa [L16] using hd), getD_set _ _ _ (by simpa [L16] using hs), L16_get] at h
  simp at h
  exact ⟨fun e => h.2 e.symm, fun e => h.1 e.symm⟩
theorem rd_S {s r : Nat} (hs : s < 16) (h : (L16.set s true).getD r false = false) : s ≠ r := by
  rw [getD_set _ _ _ (by simpa [L16] using hs), L16_get] at h
  simp at h
  exact fun e => h e.symm
theorem wr_D {d : Nat} (hd : d < 16) (r : Nat) : (L16.set d true).getD r false = decide (r = d) := by
  rw [getD_set _ _ _ (by simpa [L16] using hd), L16_get]; simp

/-- What an operation over a value takes, and makes, as numbers. -/
theorem over_rw {i : Ins} (hc : chkP i = true) (h : isOver i.op = true) : ∃ D : Nat, i.d = D ∧ D < 16 ∧
    (∀ r, (readsL (formR i.op) i).getD r false = false → (takesS i.op = true → i.s.toNat ≠ r) ∧ (i.op = 1 ∨ i.op = 2 ∨ D ≠ r)) ∧
    (∀ r, (writesL (formR i.op) i).getD r false = (!keepsD i.op && decide (r = D))) := by
  obtain ⟨op, d, s, t, ba, ix, sc, di, im⟩ := i
  obtain ⟨_, _, hd1, hs1, _, _⟩ := chk_parts hc
  have hr : op = 1 ∨ op = 2 ∨ op = 6 ∨ op = 7 ∨ op = 8 ∨ op = 9 ∨ op = 10 ∨ op = 11 ∨ op = 12 ∨ op = 13 ∨ op = 14 ∨ op = 15 ∨ op = 16 ∨ op = 17 ∨ op = 18 ∨ op = 20 ∨ op = 21 ∨ op = 22 ∨ op = 23 ∨ op = 24 ∨ op = 25 ∨ op = 26 ∨ op = 27 := by
    simp only [isOver, Bool.or_eq_true, Bool.and_eq_true, decide_eq_true_eq] at h
    omega
  rcases hr with rfl | rfl | rfl | rfl | rfl | rfl | rfl | rfl | rfl | rfl | rfl | rfl | rfl | rfl | rfl | rfl | rfl | rfl | rfl | rfl | rfl | rfl | rfl
  · obtain ⟨D, rfl, hDl⟩ := hasOk_yes hd1 (by kernel_rfl)
    obtain ⟨S, rfl, hSl⟩ := hasOk_yes hs1 (by kernel_rfl)
    exact ⟨D, rfl, hDl, fun r hr => ⟨fun _ => rd_S hSl hr, .inl rfl⟩, fun r => (wr_D hDl r).trans (by simp [keepsD])⟩
  · obtain ⟨D, rfl, hDl⟩ := hasOk_yes hd1 (by kernel_rfl)
    exact ⟨D, rfl, hDl, fun r hr => ⟨(fun h => by cases h), .inr (.inl rfl)⟩, fun r => (wr_D hDl r).trans (by simp [keepsD])⟩
  · obtain ⟨D, rfl, hDl⟩ := hasOk_yes hd1 (by kernel_rfl)
    obtain ⟨S, rfl, hSl⟩ := hasOk_yes hs1 (by kernel_rfl)
    exact ⟨D, rfl, hDl, fun r hr => ⟨fun _ => (rd_SD hSl hDl hr).1, .inr (.inr (rd_SD hSl hDl hr).2)⟩, fun r => (wr_D hDl r).trans (by simp [keepsD])⟩
  · obtain ⟨D, rfl, hDl⟩ := hasOk_yes hd1 (by kernel_rfl)
    obtain ⟨S, rfl, hSl⟩ := hasOk_yes hs1 (by kernel_rfl)
    exact ⟨D, rfl, hDl, fun r hr => ⟨fun _ => (rd_SD hSl hDl hr).1, .inr (.inr (rd_SD hSl hDl hr).2)⟩, fun r => (wr_D hDl r).trans (by simp [keepsD])⟩
  · obtain ⟨D, rfl, hDl⟩ := hasOk_yes hd1 (by kernel_rfl)
    obtain ⟨S, rfl, hSl⟩ := hasOk_yes hs1 (by kernel_rfl)
    exact ⟨D, rfl, hDl, fun r hr => ⟨fun _ => (rd_SD hSl hDl hr).1, .inr (.inr (rd_SD hSl hDl hr).2)⟩, fun r => (wr_D hDl r).trans (by simp [keepsD])⟩
  · obtain ⟨D, rfl, hDl⟩ := hasOk_yes hd1 (by kernel_rfl)
    obtain ⟨S, rfl, hSl⟩ := hasOk_yes hs1 (by kernel_rfl)
    exact ⟨D, rfl, hDl, fun r hr => ⟨fun _ => (rd_SD hSl hDl hr).1, .inr (.inr (rd_SD hSl hDl hr).2)⟩, fun r => (wr_D hDl r).trans (by simp [keepsD])⟩
  · obtain ⟨D, rfl, hDl⟩ := hasOk_yes hd1 (by kernel_rfl)
    obtain ⟨S, rfl, hSl⟩ := hasOk_yes hs1 (by kernel_rfl)
    exact ⟨D, rfl, hDl, fun r hr => ⟨fun _ => (rd_SD hSl hDl hr).1, .inr (.inr (rd_SD hSl hDl hr).2)⟩, fun r => (wr_D hDl r).trans (by simp [keepsD])⟩
  · obtain ⟨D, rfl, hDl⟩ := hasOk_yes hd1 (by kernel_rfl)
    obtain ⟨S, rfl, hSl⟩ := hasOk_yes hs1 (by kernel_rfl)
    exact ⟨D, rfl, hDl, fun r hr => ⟨fun _ => (rd_SD hSl hDl hr).1, .inr (.inr (rd_SD hSl hDl hr).2)⟩, fun r => (wr_D hDl r).trans (by simp [keepsD])⟩
  · obtain ⟨D, rfl, hDl⟩ := hasOk_yes hd1 (by kernel_rfl)
    obtain ⟨S, rfl, hSl⟩ := hasOk_yes hs1 (by kernel_rfl)
    exact ⟨D, rfl, hDl, fun r hr => ⟨fun _ => (rd_SD hSl hDl hr).1, .inr (.inr (rd_SD hSl hDl hr).2)⟩, fun r => (wr_D hDl r).trans (by simp [keepsD])⟩
  · obtain ⟨D, rfl, hDl⟩ := hasOk_yes hd1 (by kernel_rfl)
    obtain ⟨S, rfl, hSl⟩ := hasOk_yes hs1 (by kernel_rfl)
    exact ⟨D, rfl, hDl, fun r hr => ⟨fun _ => (rd_SD hSl hDl hr).1, .inr (.inr (rd_SD hSl hDl hr).2)⟩, fun r => (L16_get r).trans (by simp [keepsD])⟩
  · obtain ⟨D, rfl, hDl⟩ := hasOk_yes hd1 (by kernel_rfl)
    obtain ⟨S, rfl, hSl⟩ := hasOk_yes hs1 (by kernel_rfl)
    exact ⟨D, rfl, hDl, fun r hr => ⟨fun _ => (rd_SD hSl hDl hr).1, .inr (.inr (rd_SD hSl hDl hr).2)⟩, fun r => (L16_get r).trans (by simp [keepsD])⟩
  · obtain ⟨D, rfl, hDl⟩ := hasOk_yes hd1 (by kernel_rfl)
    exact ⟨D, rfl, hDl, fun r hr => ⟨(fun h => by cases h), .inr (.inr (rd_S hDl hr))⟩, fun r => (wr_D hDl r).trans (by simp [keepsD])⟩
  · obtain ⟨D, rfl, hDl⟩ := hasOk_yes hd1 (by kernel_rfl)
    exact ⟨D, rfl, hDl, fun r hr => ⟨(fun h => by cases h), .inr (.inr (rd_S hDl hr))⟩, fun r => (wr_D hDl r).trans (by simp [keepsD])⟩
  · obtain ⟨D, rfl, hDl⟩ := hasOk_yes hd1 (by kernel_rfl)
    exact ⟨D, rfl, hDl, fun r hr => ⟨(fun h => by cases h), .inr (.inr (rd_S hDl hr))⟩, fun r => (wr_D hDl r).trans (by simp [keepsD])⟩
  · obtain ⟨D, rfl, hDl⟩ := hasOk_yes hd1 (by kernel_rfl)
    exact ⟨D, rfl, hDl, fun r hr => ⟨(fun h => by cases h), .inr (.inr (rd_S hDl hr))⟩, fun r => (L16_get r).trans (by simp [keepsD])⟩
  · obtain ⟨D, rfl, hDl⟩ := hasOk_yes hd1 (by kernel_rfl)
    obtain ⟨S, rfl, hSl⟩ := hasOk_yes hs1 (by kernel_rfl)
    exact ⟨D, rfl, hDl, fun r hr => ⟨fun _ => (rd_SD hSl hDl hr).1, .inr (.inr (rd_SD hSl hDl hr).2)⟩, fun r => (wr_D hDl r).trans (by simp [keepsD])⟩
  · obtain ⟨D, rfl, hDl⟩ := hasOk_yes hd1 (by kernel_rfl)
    obtain ⟨S, rfl, hSl⟩ := hasOk_yes hs1 (by kernel_rfl)
    exact ⟨D, rfl, hDl, fun r hr => ⟨fun _ => (rd_SD hSl hDl hr).1, .inr (.inr (rd_SD hSl hDl hr).2)⟩, fun r => (wr_D hDl r).trans (by simp [keepsD])⟩
  · obtain ⟨D, rfl, hDl⟩ := hasOk_yes hd1 (by kernel_rfl)
    exact ⟨D, rfl, hDl, fun r hr => ⟨(fun h => by cases h), .inr (.inr (rd_S hDl hr))⟩, fun r => (wr_D hDl r).trans (by simp [keepsD])⟩
  · obtain ⟨D, rfl, hDl⟩ := hasOk_yes hd1 (by kernel_rfl)
    exact ⟨D, rfl, hDl, fun r hr => ⟨(fun h => by cases h), .inr (.inr (rd_S hDl hr))⟩, fun r => (wr_D hDl r).trans (by simp [keepsD])⟩
  · obtain ⟨D, rfl, hDl⟩ := hasOk_yes hd1 (by kernel_rfl)
    exact ⟨D, rfl, hDl, fun r hr => ⟨(fun h => by cases h), .inr (.inr (rd_S hDl hr))⟩, fun r => (wr_D hDl r).trans (by simp [keepsD])⟩
  · obtain ⟨D, rfl, hDl⟩ := hasOk_yes hd1 (by kernel_rfl)
    exact ⟨D, rfl, hDl, fun r hr => ⟨(fun h => by cases h), .inr (.inr (rd_S hDl hr))⟩, fun r => (wr_D hDl r).trans (by simp [keepsD])⟩
  · obtain ⟨D, rfl, hDl⟩ := hasOk_yes hd1 (by kernel_rfl)
    obtain ⟨S, rfl, hSl⟩ := hasOk_yes hs1 (by kernel_rfl)
    exact ⟨D, rfl, hDl, fun r hr => ⟨fun _ => (rd_SD hSl hDl hr).1, .inr (.inr (rd_SD hSl hDl hr).2)⟩, fun r => (wr_D hDl r).trans (by simp [keepsD])⟩
  · obtain ⟨D, rfl, hDl⟩ := hasOk_yes hd1 (by kernel_rfl)
    obtain ⟨S, rfl, hSl⟩ := hasOk_yes hs1 (by kernel_rfl)
    exact ⟨D, rfl, hDl, fun r hr => ⟨fun _ => (rd_SD hSl hDl hr).1, .inr (.inr (rd_SD hSl hDl hr).2)⟩, fun r => (wr_D hDl r).trans (by simp [keepsD])⟩

/-- Over a value: what does not matter. -/
theorem over_stays {s s2 : St} {i : Ins} (hc : chkP i = true) (h : isOver i.op = true) (ho : overF s i = some s2) :
    (∀ k, (writesL (formR i.op) i).getD k false = false → s2.regs.getD k 0 = s.regs.getD k 0) ∧
    (∀ r v, (readsL (formR i.op) i).getD r false = false → overF (sv s (s.regs.set r v)) i = some (if (writesL (formR i.op) i).getD r false then s2 else sv s2 (s2.regs.set r v))) := by
  obtain ⟨D, hD, hDl, hR, hW⟩ := over_rw hc h
  have hT : i.d.toNat = D := by omega
  obtain ⟨s1, x, hv⟩ := over_value (s := s) (d := regAt s i.d) (b := if takesS i.op then regAt s i.s else u64 i.imm) h
  obtain ⟨k1, k2⟩ := value_keep hv
  have ho' : s2 = if keepsD i.op then s1 else { s1 with regs := s1.regs.set D x } := by
    unfold overF at ho
    rw [hv] at ho
    simp only [hT] at ho
    exact (Option.some.inj ho).symm
  refine ⟨fun k hk => ?_, fun r v hr => ?_⟩
  · rw [hW] at hk
    rw [ho']
    cases hkp : keepsD i.op with
    | true => simp [k1]
    | false =>
      rw [hkp] at hk
      simp at hk
      simp only [if_neg (by decide : ¬ (false = true)), List.getD_eq_getElem?_getD, k1]
      rw [List.getElem?_set_ne (fun e => hk e.symm)]
  · obtain ⟨r1, r2⟩ := hR r hr
    have e1 : (if takesS i.op then regAt (sv s (s.regs.set r v)) i.s else u64 i.imm) = (if takesS i.op then regAt s i.s else u64 i.imm) := by
      cases ht : takesS i.op with
      | true => simp only [if_true]; exact regAt_set (r1 ht)
      | false => rfl
    have e2 : valueF (sv s (s.regs.set r v)) i.op (regAt (sv s (s.regs.set r v)) i.d) (if takesS i.op then regAt (sv s (s.regs.set r v)) i.s else u64 i.imm) = some (sv s1 (s.regs.set r v), x) := by
      rw [e1, value_sv]
      rcases r2 with h1 | h1 | h1
      · rw [value_mov (.inl h1) _ (regAt s i.d), hv]; rfl
      · rw [value_mov (.inr h1) _ (regAt s i.d), hv]; rfl
      · rw [regAt_set (by rw [hT]; exact h1), hv]; rfl
    unfold overF
    rw [e2]
    simp only [hT, hW]
    rw [ho']
    cases hkp : keepsD i.op with
    | true => simp [sv, k1]
    | false =>
      by_cases hrd : r = D
      · subst hrd
        simp [sv, k1]
      · simp only [Bool.not_false, Bool.true_and, hrd, decide_false, if_neg (by decide : ¬ (false = true)), sv, k1]
        rw [List.set_comm _ _ hrd]
end Go.Proofs.YtmanhikpccnfaaaGreat
