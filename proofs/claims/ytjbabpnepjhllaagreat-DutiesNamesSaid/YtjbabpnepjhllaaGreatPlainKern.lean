/- Loops of kernels, plain: where they end; what is known ahead of each operation. -/
import Derived.Test.YtjbabpnepjhllaaGreatPlainFact
namespace Go.Proofs.YtjbabpnepjhllaaGreat

/-- One operation more: each loop's end and each end's loop; which loops are open (the last one first). -/
def kStep (o : KOp) (i : Nat) (s : List Int × List Nat) : List Int × List Nat :=
  if o.kind = 15 then (s.1, i :: s.2)
  else if o.kind = 16 then match s.2 with
    | m :: r => ((s.1.set m (i : Int)).set i (m : Int), r)
    | [] => s
  else s
def kTo (ops : List KOp) : Nat → List Int × List Nat
  | 0 => (List.replicate ops.length (-1), [])
  | k + 1 => match ops[k]? with
    | some o => kStep o k (kTo ops k)
    | none => kTo ops k
def kEnds (ops : List KOp) : List Int := (kTo ops ops.length).1
def kS (ops : List KOp) (k : Nat) : List Nat := (kTo ops k).2
structure KBal (ops : List KOp) : Prop where
  some_ : ∀ (k : Nat) (o : KOp), ops[k]? = some o → o.kind = 16 → kS ops k ≠ []
  done : kS ops ops.length = []
theorem kTo_next {ops : List KOp} {k : Nat} {o : KOp} (ho : ops[k]? = some o) : kTo ops (k + 1) = kStep o k (kTo ops k) := by simp only [kTo, ho]
theorem kS_next {ops : List KOp} {k : Nat} {o : KOp} (ho : ops[k]? = some o) : kS ops (k + 1) = if o.kind = 15 then k :: kS ops k else if o.kind = 16 then (kS ops k).tail else kS ops k := by
  unfold kS
  rw [kTo_next ho]
  unfold kStep
  split
  · rfl
  · split
    · cases h : (kTo ops k).2 with
      | nil => simp [h]
      | cons m r => rfl
    · rfl
structure KInv (ops : List KOp) (k : Nat) : Prop where
  len : (kTo ops k).1.length = ops.length
  open_ : ∀ j ∈ kS ops k, j < k ∧ ∃ o, ops[j]? = some o ∧ o.kind = 15
  ord : (kS ops k).Pairwise fun x y => y < x
  free : ∀ j ∈ kS ops k, (kTo ops k).1[j]? = some (-1)
  loop : ∀ (j : Nat) (o : KOp), j < k → ops[j]? = some o → o.kind = 15 → j ∈ kS ops k ∨ ∃ (i : Nat) (q : KOp), j < i ∧ i < k ∧ (kTo ops k).1[j]? = some (i : Int) ∧ (kTo ops k).1[i]? = some (j : Int) ∧ ops[i]? = some q ∧ q.kind = 16 ∧ (∀ x, j < x → x ≤ i → j ∈ kS ops x) ∧ kS ops i = j :: kS ops j ∧ kS ops (i + 1) = kS ops j
  end_ : ∀ (j : Nat) (o : KOp), j < k → ops[j]? = some o → o.kind = 16 → ∃ m : Nat, m < j ∧ (kTo ops k).1[j]? = some (m : Int) ∧ (kTo ops k).1[m]? = some (j : Int)
  rest : ∀ (a : List Nat) (l : Nat) (r : List Nat), kS ops k = a ++ l :: r → kS ops l = r
  held : ∀ j ∈ kS ops k, ∀ x, j < x → x ≤ k → j ∈ kS ops x
theorem kS_lt (ops : List KOp) : ∀ k, ∀ m ∈ kS ops k, m < k := by
  intro k
  induction k with
  | zero => intro m hm; simp [kS, kTo] at hm
  | succ k ih =>
    intro m hm
    cases ho : ops[k]? with
    | none =>
      have : kS ops (k + 1) = kS ops k := by unfold kS; simp only [kTo, ho]
      rw [this] at hm
      have := ih m hm; omega
    | some o =>
      rw [kS_next ho] at hm
      split at hm
      · rcases List.mem_cons.1 hm with rfl | hm
        · omega
        · have := ih m hm; omega
      · split at hm
        · have := ih m (List.mem_of_mem_tail hm); omega
        · have := ih m hm; omega
theorem kTo_fresh (ops : List KOp) : ∀ k j, k ≤ j → j < ops.length → (kTo ops k).1[j]? = some (-1) := by
  intro k
  induction k with
  | zero => intro j _ hj; simp [kTo, hj]
  | succ k ih =>
    intro j hk hj
    have h1 := ih j (by omega) hj
    cases ho : ops[k]? with
    | none => simp only [kTo, ho]; exact h1
    | some o =>
      rw [kTo_next ho]
      unfold kStep
      split
      · exact h1
      · split
        · cases hs : (kTo ops k).2 with
          | nil => exact h1
          | cons m r =>
            have hm : m < k := kS_lt ops k m (by unfold kS; rw [hs]; exact List.mem_cons_self)
            simp only
            rw [List.getElem?_set_ne (by omega), List.getElem?_set_ne (by omega)]
            exact h1
        · exact h1
theorem k_inv {ops : List KOp} (h : KBal ops) : ∀ k, k ≤ ops.length → KInv ops k := by
  intro k
  induction k with
  | zero => exact fun _ => ⟨by simp [kTo], fun j hj => by simp [kS, kTo] at hj, List.Pairwise.nil, fun j hj => by simp [kS, kTo] at hj, fun j o hj => absurd hj (by omega), fun j o hj => absurd hj (by omega), fun a l r e => by simp [kS, kTo] at e, fun j hj => by simp [kS, kTo] at hj⟩
  | succ k ih =>
    intro hk
    have I := ih (by omega)
    obtain ⟨o, ho⟩ : ∃ o, ops[k]? = some o := ⟨_, List.getElem?_eq_getElem (by omega)⟩
    have hS := kS_next ho
    have hT := kTo_next ho
    have hke : ∀ x, x < k + 1 → x = k ∨ x < k := fun x hx => by omega
    by_cases h15 : o.kind = 15
    · rw [if_pos h15] at hS
      have hE : (kTo ops (k + 1)).1 = (kTo ops k).1 := by rw [hT]; unfold kStep; rw [if_pos h15]
      refine ⟨by rw [hE]; exact I.len, fun j hj => ?_, ?_, fun j hj => ?_, fun j q hj hq h15' => ?_, fun j q hj hq h16' => ?_, fun a l r e => ?_, fun j hj x h1 h2 => ?_⟩
      · rw [hS] at hj
        rcases List.mem_cons.1 hj with rfl | hj
        · exact ⟨by omega, o, ho, h15⟩
        · have := I.open_ j hj; exact ⟨by omega, this.2⟩
      · rw [hS]; exact List.pairwise_cons.2 ⟨fun y hy => (I.open_ y hy).1, I.ord⟩
      · rw [hS] at hj; rw [hE]
        rcases List.mem_cons.1 hj with rfl | hj
        · -- a place that nothing has written
          rcases Classical.em ((kTo ops j).1[j]? = some (-1)) with h1 | h1
          · exact h1
          · exact absurd (kTo_fresh ops j j (Nat.le_refl _) (by omega)) h1
        · exact I.free j hj
      · rw [hS, hE]
        rcases hke j hj with rfl | hj
        · exact .inl List.mem_cons_self
        · rcases I.loop j q hj hq h15' with h1 | ⟨i, q', h1, h2, h3⟩
          · exact .inl (List.mem_cons_of_mem _ h1)
          · exact .inr ⟨i, q', h1, by omega, h3⟩
      · rcases hke j hj with rfl | hj
        · rw [ho] at hq; cases hq; omega
        · rw [hE]; exact I.end_ j q hj hq h16'
      · rw [hS] at e
        cases a with
        | nil => simp at e; rw [← e.1]; exact e.2
        | cons y a => simp at e; exact I.rest a l r e.2
      · rw [hS] at hj
        rcases List.mem_cons.1 hj with rfl | hj
        · obtain rfl : x = j + 1 := by omega
          rw [hS]; exact List.mem_cons_self
        · rcases Nat.lt_or_ge k x with h3 | h3
          · obtain rfl : x = k + 1 := by omega
            rw [hS]; exact List.mem_cons_of_mem _ hj
          · exact I.held j hj x h1 h3
    rw [if_neg h15] at hS
    by_cases h16 : o.kind = 16
    · rw [if_pos h16] at hS
      obtain ⟨m, r, hmr⟩ : ∃ m r, kS ops k = m :: r := by
        cases hs : kS ops k with
        | nil => exact absurd hs (h.some_ k o ho h16)
        | cons m r => exact ⟨m, r, rfl⟩
      rw [hmr] at hS
      simp only [List.tail_cons] at hS
      have hE : (kTo ops (k + 1)).1 = ((kTo ops k).1.set m (k : Int)).set k (m : Int) := by
        rw [hT]; unfold kStep; rw [if_neg h15, if_pos h16]
        have : (kTo ops k).2 = m :: r := hmr
        rw [this]
      have hm := I.open_ m (by rw [hmr]; exact List.mem_cons_self)
      have hord := I.ord
      rw [hmr] at hord
      have hord := List.pairwise_cons.1 hord
      have hlen := I.len
      have hget : ∀ j, j ≠ m → j ≠ k → (kTo ops (k + 1)).1[j]? = (kTo ops k).1[j]? := fun j h1 h2 => by rw [hE, List.getElem?_set_ne (by omega), List.getElem?_set_ne (by omega)]
      have hgm : (kTo ops (k + 1)).1[m]? = some (k : Int) := by rw [hE, List.getElem?_set_ne (by omega), List.getElem?_set_self (by omega)]
      have hgk : (kTo ops (k + 1)).1[k]? = some (m : Int) := by rw [hE, List.getElem?_set_self (by simp; omega)]
      have hfree : (kTo ops k).1[m]? = some (-1) := I.free m (by rw [hmr]; exact List.mem_cons_self)
      have hrest : kS ops m = r := I.rest [] m r hmr
      refine ⟨by rw [hE]; simp [hlen], fun j hj => ?_, by rw [hS]; exact hord.2, fun j hj => ?_, fun j q hj hq h15' => ?_, fun j q hj hq h16' => ?_, fun a l r' e => ?_, fun j hj x h1 h2 => ?_⟩
      · rw [hS] at hj
        have := I.open_ j (by rw [hmr]; exact List.mem_cons_of_mem _ hj)
        exact ⟨by omega, this.2⟩
      · rw [hS] at hj
        have h1 := hord.1 j hj
        rw [hget j (by omega) (by have := hm.1; omega)]
        exact I.free j (by rw [hmr]; exact List.mem_cons_of_mem _ hj)
      · rcases hke j hj with rfl | hj
        · rw [ho] at hq; cases hq; omega
        · rcases I.loop j q hj hq h15' with h1 | ⟨i, q', h1, h2, h3, h4, h5⟩
          · rw [hmr] at h1
            rcases List.mem_cons.1 h1 with rfl | h1
            · exact .inr ⟨k, o, by omega, by omega, hgm, hgk, ho, h16, fun x h1 h2 => I.held j (by rw [hmr]; exact List.mem_cons_self) x h1 h2, by rw [hmr, hrest], by rw [hS, hrest]⟩
            · exact .inl (by rw [hS]; exact h1)
          · have hjm : j ≠ m := fun e => by subst e; rw [hfree] at h3; cases h3
            have him : i ≠ m := fun e => by subst e; rw [hfree] at h4; cases h4
            exact .inr ⟨i, q', h1, by omega, by rw [hget j hjm (by omega)]; exact h3, by rw [hget i him (by omega)]; exact h4, h5⟩
      · rcases hke j hj with rfl | hj
        · exact ⟨m, hm.1, hgk, hgm⟩
        · obtain ⟨m', h1, h2, h3⟩ := I.end_ j q hj hq h16'
          have hjm : j ≠ m := fun e => by subst e; rw [hfree] at h2; cases h2
          have hmm : m' ≠ m := fun e => by subst e; rw [hfree] at h3; cases h3
          exact ⟨m', h1, by rw [hget j hjm (by omega)]; exact h2, by rw [hget m' hmm (by omega)]; exact h3⟩
      · rw [hS] at e
        exact I.rest (m :: a) l r' (by rw [hmr, e]; rfl)
      · rw [hS] at hj
        rcases Nat.lt_or_ge k x with h3 | h3
        · obtain rfl : x = k + 1 := by omega
          rw [hS]; exact hj
        · exact I.held j (by rw [hmr]; exact List.mem_cons_of_mem _ hj) x h1 h3
    rw [if_neg h16] at hS
    have hE : (kTo ops (k + 1)) = (kTo ops k) := by rw [hT]; unfold kStep; rw [if_neg h15, if_neg h16]
    refine ⟨by rw [hE]; exact I.len, fun j hj => ?_, by rw [hS]; exact I.ord, fun j hj => by rw [hS] at hj; rw [hE]; exact I.free j hj, fun j q hj hq h15' => ?_, fun j q hj hq h16' => ?_, fun a l r e => I.rest a l r (by rw [← hS]; exact e), fun j hj x h1 h2 => ?_⟩
    · rw [hS] at hj; have := I.open_ j hj; exact ⟨by omega, this.2⟩
    · rcases hke j hj with rfl | hj
      · rw [ho] at hq; cases hq; exact absurd h15' h15
      · rw [hS, hE]
        rcases I.loop j q hj hq h15' with h1 | ⟨i, q', h1, h2, h3⟩
        · exact .inl h1
        · exact .inr ⟨i, q', h1, by omega, h3⟩
    · rcases hke j hj with rfl | hj
      · rw [ho] at hq; cases hq; exact absurd h16' h16
      · rw [hE]; exact I.end_ j q hj hq h16'
    · rw [hS] at hj
      rcases Nat.lt_or_ge k x with h3 | h3
      · obtain rfl : x = k + 1 := by omega
        rw [hS]; exact hj
      · exact I.held j hj x h1 h3
/-- Each loop's end. -/
theorem k_loop {ops : List KOp} (h : KBal ops) {j : Nat} {o : KOp} (ho : ops[j]? = some o) (hk : o.kind = 15) : ∃ (e : Nat) (q : KOp), j < e ∧ e < ops.length ∧ (kEnds ops).getD j 0 = (e : Int) ∧ ops[e]? = some q ∧ q.kind = 16 ∧ (∀ x, j < x → x ≤ e → j ∈ kS ops x) ∧ kS ops e = j :: kS ops j ∧ kS ops (e + 1) = kS ops j := by
  have hj := (List.getElem?_eq_some_iff.1 ho).1
  rcases (k_inv h ops.length (Nat.le_refl _)).loop j o hj ho hk with h1 | ⟨e, q, h1, h2, h3, h4, h5, h6, h7, h8, h9⟩
  · rw [h.done] at h1; cases h1
  · exact ⟨e, q, h1, h2, by unfold kEnds; rw [List.getD_eq_getElem?_getD, h3]; rfl, h5, h6, h7, h8, h9⟩
end Go.Proofs.YtjbabpnepjhllaaGreat
