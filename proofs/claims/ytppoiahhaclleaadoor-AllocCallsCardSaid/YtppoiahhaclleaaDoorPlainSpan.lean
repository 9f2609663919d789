/- Limb programs: loops and their ends; what a register's span is. -/
import Derived.Test.YtppoiahhaclleaaDoorPlainLimb
namespace Go.Proofs.YtppoiahhaclleaaDoor

/-- Each end has a loop, each loop an end. -/
structure Bal (ops : List LOp) : Prop where
  some_ : ∀ (k : Nat) (o : LOp), ops[k]? = some o → o.kind = 17 → (endsTo ops k).2 ≠ []
  done : (endsTo ops ops.length).2 = []

structure EndsInv (ops : List LOp) (k : Nat) (s : List Int × List Nat) : Prop where
  len : s.1.length = ops.length
  open_ : ∀ j ∈ s.2, j < k ∧ ∃ o, ops[j]? = some o ∧ o.kind = 16
  nd : s.2.Nodup
  loop : ∀ (j : Nat) (o : LOp), j < k → ops[j]? = some o → o.kind = 16 → j ∈ s.2 ∨ ∃ i : Nat, j < i ∧ i < k ∧ s.1[j]? = some (i : Int)
  end_ : ∀ (j : Nat) (o : LOp), j < k → ops[j]? = some o → o.kind = 17 → ∃ (m : Nat) (q : LOp), m < j ∧ s.1[j]? = some (m : Int) ∧ ops[m]? = some q ∧ q.kind = 16

theorem ends_inv {ops : List LOp} (h : Bal ops) (k : Nat) (hk : k ≤ ops.length) : EndsInv ops k (endsTo ops k) := by
  induction k with
  | zero => exact ⟨by simp [endsTo], by simp [endsTo], by simp [endsTo], fun j o hj => absurd hj (by omega), fun j o hj => absurd hj (by omega)⟩
  | succ k ih =>
    have ih := ih (by omega)
    obtain ⟨o, ho⟩ : ∃ o, ops[k]? = some o := ⟨_, List.getElem?_eq_getElem (by omega)⟩
    have he : endsTo ops (k + 1) = endsStep o k (endsTo ops k) := by simp only [endsTo, ho]
    rw [he]
    have hs := h.some_ k o ho
    generalize endsTo ops k = s at ih hs
    obtain ⟨E, st⟩ := s
    unfold endsStep
    by_cases h16 : o.kind = 16
    · rw [if_pos h16]
      refine ⟨ih.len, fun j hj => ?_, List.nodup_cons.2 ⟨fun hm => absurd (ih.open_ k hm).1 (by omega), ih.nd⟩, fun j q hj hq hk' => ?_, fun j q hj hq hk' => ?_⟩
      · rcases List.mem_cons.1 hj with rfl | hj
        · exact ⟨by omega, o, ho, h16⟩
        · exact ⟨by have := (ih.open_ j hj).1; omega, (ih.open_ j hj).2⟩
      · by_cases e : j = k
        · exact .inl (by rw [e]; exact List.mem_cons_self)
        · rcases ih.loop j q (by omega) hq hk' with h1 | ⟨i, h1, h2, h3⟩
          · exact .inl (List.mem_cons_of_mem _ h1)
          · exact .inr ⟨i, h1, by omega, h3⟩
      · by_cases e : j = k
        · subst e; rw [ho] at hq; cases hq; omega
        · exact ih.end_ j q (by omega) hq hk'
    · rw [if_neg h16]
      by_cases h17 : o.kind = 17
      · rw [if_pos h17]
        cases st with
        | nil => exact absurd rfl (hs h17)
        | cons m l =>
          simp only
          obtain ⟨hmk, q0, hq0, hk0⟩ := ih.open_ m List.mem_cons_self
          have hnd := List.nodup_cons.1 ih.nd
          have hlen := ih.len
          simp only at hlen
          have hget : ∀ j, j ≠ k → j ≠ m → ((E.set k (m : Int)).set m (k : Int))[j]? = E[j]? := fun j h1 h2 => by
            rw [List.getElem?_set_ne (fun e => h2 e.symm), List.getElem?_set_ne (fun e => h1 e.symm)]
          have hgk : ((E.set k (m : Int)).set m (k : Int))[k]? = some (m : Int) := by
            rw [List.getElem?_set_ne (by omega), List.getElem?_set_self (by omega)]
          have hgm : ((E.set k (m : Int)).set m (k : Int))[m]? = some (k : Int) := by
            rw [List.getElem?_set_self (by simp; omega)]
          refine ⟨by simpa using hlen, fun j hj => ?_, hnd.2, fun j q hj hq hk' => ?_, fun j q hj hq hk' => ?_⟩
          · have := ih.open_ j (List.mem_cons_of_mem _ hj)
            exact ⟨by omega, this.2⟩
          · by_cases e : j = k
            · subst e; rw [ho] at hq; cases hq; exact absurd hk' h16
            · by_cases e2 : j = m
              · subst e2; exact .inr ⟨k, hmk, by omega, hgm⟩
              · rcases ih.loop j q (by omega) hq hk' with h1 | ⟨i, h1, h2, h3⟩
                · rcases List.mem_cons.1 h1 with h1 | h1
                  · exact absurd h1 e2
                  · exact .inl h1
                · exact .inr ⟨i, h1, by omega, by rw [hget j e e2]; exact h3⟩
          · by_cases e : j = k
            · subst e; exact ⟨m, q0, hmk, hgk, hq0, hk0⟩
            · obtain ⟨m', q', h1, h2, h3, h4⟩ := ih.end_ j q (by omega) hq hk'
              have e2 : j ≠ m := fun e2 => by subst e2; rw [hq0] at hq; cases hq; omega
              exact ⟨m', q', h1, by rw [hget j e e2]; exact h2, h3, h4⟩
      · rw [if_neg h17]
        refine ⟨ih.len, fun j hj => ⟨by have := (ih.open_ j hj).1; omega, (ih.open_ j hj).2⟩, ih.nd, fun j q hj hq hk' => ?_, fun j q hj hq hk' => ?_⟩
        · by_cases e : j = k
          · subst e; rw [ho] at hq; cases hq; exact absurd hk' h16
          · rcases ih.loop j q (by omega) hq hk' with h1 | ⟨i, h1, h2, h3⟩
            · exact .inl h1
            · exact .inr ⟨i, h1, by omega, h3⟩
        · by_cases e : j = k
          · subst e; rw [ho] at hq; cases hq; exact absurd hk' h17
          · exact ih.end_ j q (by omega) hq hk'

theorem ends_loop {ops : List LOp} (h : Bal ops) {j : Nat} {o : LOp} (ho : ops[j]? = some o) (hk : o.kind = 16) : ∃ i : Nat, j < i ∧ i < ops.length ∧ (endsF ops).getD j 0 = i := by
  have hj := (List.getElem?_eq_some_iff.1 ho).1
  rcases (ends_inv h ops.length (Nat.le_refl _)).loop j o hj ho hk with h1 | ⟨i, h1, h2, h3⟩
  · rw [h.done] at h1; cases h1
  · exact ⟨i, h1, h2, by unfold endsF; rw [List.getD_eq_getElem?_getD, h3]; rfl⟩
theorem ends_end {ops : List LOp} (h : Bal ops) {j : Nat} {o : LOp} (ho : ops[j]? = some o) (hk : o.kind = 17) : ∃ (m : Nat) (q : LOp), m < j ∧ (endsF ops).getD j 0 = m ∧ ops[m]? = some q ∧ q.kind = 16 := by
  have hj := (List.getElem?_eq_some_iff.1 ho).1
  obtain ⟨m, q, h1, h2, h3, h4⟩ := (ends_inv h ops.length (Nat.le_refl _)).end_ j o hj ho hk
  exact ⟨m, q, h1, by unfold endsF; rw [List.getD_eq_getElem?_getD, h2]; rfl, h3, h4⟩
theorem ends_len {ops : List LOp} (h : Bal ops) : (endsF ops).length = ops.length := (ends_inv h ops.length (Nat.le_refl _)).len

/-! Notes. -/
theorem noteR_len (sp : List (Int × Int)) (r i : Int) : (noteR sp r i).length = sp.length := by unfold noteR; split <;> simp
theorem notes_fold_len (l : List Int) (i : Int) : ∀ sp : List (Int × Int), (l.foldl (fun sp r => noteR sp r i) sp).length = sp.length := by
  induction l with
  | nil => exact fun _ => rfl
  | cons r l ih => intro sp; rw [List.foldl_cons, ih, noteR_len]
theorem notes_len (p : LP) (ends : List Int) (k : Nat) : (notesTo p ends k).length = p.regs.toNat := by
  induction k with
  | zero => simp [notesTo]
  | succ k ih =>
    simp only [notesTo]
    split
    · unfold noteOp; rw [notes_fold_len, ih]
    · exact ih
theorem spans_len (p : LP) : (spansF p).length = p.regs.toNat := by unfold spansF; rw [more_len, notes_len]
theorem noteR_get (sp : List (Int × Int)) (r i : Int) (j : Nat) : (noteR sp r i)[j]? = (sp[j]?).map fun s => if r = j then noteF s i else s := by
  unfold noteR
  split
  · rw [List.getElem?_modify]
    by_cases e : r.toNat = j
    · have : r = j := by omega
      cases sp[j]? <;> simp [this]
    · have : ¬ r = j := by omega
      cases sp[j]? <;> simp [this, e]
  · have : ¬ r = j := by omega
    simp [this]
theorem note_twice (s : Int × Int) (i : Int) : noteF (noteF s i) i = noteF s i := by
  unfold noteF
  simp only
  refine Prod.ext ?_ ?_
  · simp only
    by_cases h : s.1 < 0
    · rw [if_pos h]; split <;> rfl
    · rw [if_neg h, if_neg h]
  · simp only; omega
theorem notes_fold_get (l : List Int) (i : Int) (j : Nat) : ∀ sp : List (Int × Int), (l.foldl (fun sp r => noteR sp r i) sp)[j]? = (sp[j]?).map fun s => if (j : Int) ∈ l then noteF s i else s := by
  induction l with
  | nil => intro sp; simp
  | cons r l ih =>
    intro sp
    rw [List.foldl_cons, ih, noteR_get]
    cases sp[j]? with
    | none => rfl
    | some s =>
      simp only [Option.map_some, List.mem_cons]
      by_cases e : r = j
      · subst e
        simp only [if_pos, true_or]
        split
        · rw [note_twice]
        · rfl
      · have e' : ¬ (j : Int) = r := fun h => e h.symm
        simp [e, e']
/-- A register's first and last operation so far. -/
structure NoteInv (p : LP) (ends : List Int) (k r : Nat) (s : Int × Int) : Prop where
  none_ : s.1 < 0 → s = (-1, -1) ∧ ∀ (i : Nat) (o : LOp), i < k → p.ops[i]? = some o → (r : Int) ∉ regsOf p.ops ends o i
  some_ : 0 ≤ s.1 → ∃ (i : Nat) (o : LOp), s.1 = i ∧ i < k ∧ p.ops[i]? = some o ∧ (r : Int) ∈ regsOf p.ops ends o i ∧ ∀ (j : Nat) (q : LOp), j < i → p.ops[j]? = some q → (r : Int) ∉ regsOf p.ops ends q j
  last : ∀ (i : Nat) (o : LOp), i < k → p.ops[i]? = some o → (r : Int) ∈ regsOf p.ops ends o i → (i : Int) ≤ s.2
  lt : s.2 < k
  le : 0 ≤ s.1 → s.1 ≤ s.2
theorem notes_inv (p : LP) (ends : List Int) (k : Nat) (hk : k ≤ p.ops.length) : ∀ (r : Nat) (s : Int × Int), (notesTo p ends k)[r]? = some s → NoteInv p ends k r s := by
  induction k with
  | zero =>
    intro r s hs
    simp only [notesTo] at hs
    have : s = (-1, -1) := by
      have := List.mem_of_getElem? hs
      exact (List.mem_replicate.1 this).2
    subst this
    exact ⟨fun _ => ⟨rfl, fun i o hi => absurd hi (by omega)⟩, fun h => absurd h (by simp), fun i o hi => absurd hi (by omega), by simp, fun h => absurd h (by simp)⟩
  | succ k ih =>
    intro r s hs
    obtain ⟨o, ho⟩ : ∃ o, p.ops[k]? = some o := ⟨_, List.getElem?_eq_getElem (by omega)⟩
    simp only [notesTo, ho, noteOp] at hs
    rw [notes_fold_get] at hs
    cases ht : (notesTo p ends k)[r]? with
    | none => rw [ht] at hs; cases hs
    | some t =>
      rw [ht] at hs
      simp only [Option.map_some, Option.some.injEq] at hs
      have hi := ih (by omega) r t ht
      by_cases hm : (r : Int) ∈ regsOf p.ops ends o k
      · rw [if_pos hm] at hs
        subst hs
        by_cases h0 : t.1 < 0
        · obtain ⟨h1, h2⟩ := hi.none_ h0
          subst h1
          have e : noteF (-1, -1) (k : Int) = ((k : Int), (k : Int)) := by unfold noteF; simp; omega
          rw [e]
          refine ⟨fun h => absurd h (by simp), fun _ => ⟨k, o, rfl, by omega, ho, hm, fun j q hj hq => h2 j q hj hq⟩, fun i q hi' _ _ => by simp only; omega, by simp only; omega, fun _ => Int.le_refl _⟩
        · have h0' : 0 ≤ t.1 := by omega
          have e : noteF t (k : Int) = (t.1, max t.2 k) := by unfold noteF; rw [if_neg h0]
          rw [e]
          obtain ⟨i, q, h1, h2, h3, h4, h5⟩ := hi.some_ h0'
          refine ⟨fun h => absurd h (by simp only; omega), fun _ => ⟨i, q, h1, by omega, h3, h4, h5⟩, fun j q' hj hq' hm' => ?_, ?_, fun _ => ?_⟩
          · by_cases e : j = k
            · subst e; simp only; omega
            · have := hi.last j q' (by omega) hq' hm'; simp only; omega
          · have := hi.lt; simp only; omega
          · have := hi.le h0'; simp only; omega
      · rw [if_neg hm] at hs
        subst hs
        refine ⟨fun h => ⟨(hi.none_ h).1, fun i q hi' hq => ?_⟩, fun h => ?_, fun i q hi' hq hm' => ?_, by have := hi.lt; omega, hi.le⟩
        · by_cases e : i = k
          · subst e; rw [ho] at hq; cases hq; exact hm
          · exact (hi.none_ h).2 i q (by omega) hq
        · obtain ⟨i, q, h1, h2, h3⟩ := hi.some_ h
          exact ⟨i, q, h1, by omega, h3⟩
        · by_cases e : i = k
          · subst e; rw [ho] at hq; cases hq; exact absurd hm' hm
          · exact hi.last i q (by omega) hq hm'

/-- What an operation has by itself. -/
def hasF (o : LOp) (r : Int) : Bool := o.d == r || o.e == r || o.a == r || o.b == r || o.c == r
theorem has_iff (o : LOp) (r : Int) : hasF o r = true ↔ r ∈ [o.a, o.b, o.c, o.d, o.e] := by
  unfold hasF
  simp only [Bool.or_eq_true, beq_iff_eq, List.mem_cons, List.not_mem_nil, or_false]
  constructor
  · rintro ((((h | h) | h) | h) | h) <;> simp [h]
  · rintro (h | h | h | h | h) <;> simp [h]
/-- A span, as it is told. -/
structure SpanIs (p : LP) (r : Nat) (s : Int × Int) : Prop where
  none_ : s.1 < 0 → s.1 = -1 ∧ s.2 < 0 ∧ ∀ (i : Nat) (o : LOp), p.ops[i]? = some o → hasF o r = false
  some_ : 0 ≤ s.1 → 0 ≤ s.2 ∧ ∃ (i : Nat) (o : LOp), s.1 = i ∧ p.ops[i]? = some o ∧ hasF o r = true ∧ ∀ (j : Nat) (q : LOp), j < i → p.ops[j]? = some q → hasF q r = false
  last : ∀ (i : Nat) (o : LOp), p.ops[i]? = some o → hasF o r = true → (i : Int) ≤ s.2
  lt : s.2 < p.ops.length
  lasts : ∀ (i : Nat) (o : LOp), p.ops[i]? = some o → o.kind = 16 → 0 ≤ s.1 → s.1 < i → (i : Int) ≤ s.2 → (endsF p.ops).getD i 0 ≤ s.2
theorem span_is {p : LP} (hb : Bal p.ops) {r : Nat} {s : Int × Int} (hs : (spansF p)[r]? = some s) : SpanIs p r s := by
  have hmem : s ∈ spansF p := List.mem_of_getElem? hs
  have hstill := more_still (ends := endsF p.ops) (fun k o ho hk => by obtain ⟨i, _, h1, h2⟩ := ends_loop hb ho hk; rw [h2]; omega) (leftF p.ops.length (notesTo p (endsF p.ops) p.ops.length) + 1) _ (Nat.lt_succ_self _)
  -- what the passes keep
  let I : Nat → Int × Int → Prop := fun r s => ∃ t, NoteInv p (endsF p.ops) p.ops.length r t ∧ s.1 = t.1 ∧ t.2 ≤ s.2 ∧ s.2 < p.ops.length ∧ (s.1 < 0 → s.2 = t.2)
  have hI : I r s := more_keeps I (fun r k o s ho hk hl ⟨t, h1, h2, h3, h4, h5⟩ => by
    unfold Go.Proofs.YtppoiahhaclleaaDoor.lasts at hl
    simp only [Bool.and_eq_true, decide_eq_true_eq] at hl
    obtain ⟨i, _, h6, h7⟩ := ends_loop hb ho hk
    refine ⟨t, h1, h2, ?_, ?_, fun h => ?_⟩
    · simp only; omega
    · simp only; rw [h7]; omega
    · simp only at h; omega) _ (fun r s hs => ⟨s, notes_inv p _ _ (Nat.le_refl _) r s hs, rfl, Int.le_refl _, (notes_inv p _ _ (Nat.le_refl _) r s hs).lt, fun _ => rfl⟩) r s hs
  obtain ⟨t, hn, h1, h2, h3, h4⟩ := hI
  have hdir : ∀ (i : Nat) (o : LOp), hasF o r = true → (r : Int) ∈ regsOf p.ops (endsF p.ops) o i := fun i o h => by
    unfold regsOf
    exact List.mem_append_left _ ((has_iff o r).1 h)
  refine ⟨fun h => ?_, fun h => ?_, fun i o ho hh => ?_, h3, fun i o ho hk ha hb' hc => ?_⟩
  · have ht : t.1 < 0 := by omega
    obtain ⟨h5, h6⟩ := hn.none_ ht
    have h7 := h4 h
    rw [h5] at h1 h7
    refine ⟨h1, by rw [h7]; decide, fun i o ho => ?_⟩
    cases hh : hasF o r
    · rfl
    · exact absurd (hdir i o hh) (h6 i o (List.getElem?_eq_some_iff.1 ho).1 ho)
  · have ht : 0 ≤ t.1 := by omega
    obtain ⟨i, o, h5, h6, h7, h8, h9⟩ := hn.some_ ht
    refine ⟨by have := hn.le ht; omega, i, o, by omega, h7, ?_, fun j q hj hq => ?_⟩
    · unfold regsOf at h8
      rcases List.mem_append.1 h8 with h8 | h8
      · exact (has_iff o r).2 h8
      · split at h8
        · rename_i h17
          obtain ⟨m, q, hm, he, hq, hk⟩ := ends_end hb h7 h17
          rw [he] at h8
          simp only [Int.toNat_natCast, hq, Option.map_some, Option.getD_some, List.mem_singleton] at h8
          have := h9 m q hm hq
          exact absurd (hdir m q ((has_iff q r).2 (by rw [h8]; simp))) this
        · cases h8
    · cases hh : hasF q r
      · rfl
      · exact absurd (hdir j q hh) (h9 j q hj hq)
  · have := hn.last i o (List.getElem?_eq_some_iff.1 ho).1 ho (hdir i o hh)
    omega
  · have h5 := hstill i o ho hk
    rw [List.any_eq_false] at h5
    have h6 := h5 s hmem
    unfold Go.Proofs.YtppoiahhaclleaaDoor.lasts at h6
    simp only [Bool.and_eq_true, decide_eq_true_eq] at h6
    omega
end Go.Proofs.YtppoiahhaclleaaDoor
