/- What an operation takes and makes, as the reference tells it. -/
import Derived.Test.YtppoiahhaclleaaDoorLimbJ
namespace Go.Proofs.YtppoiahhaclleaaDoor

def takesF (o : LOp) : List Int :=
  if o.kind = 2 ∨ o.kind = 8 ∨ o.kind = 9 then [o.a]
  else if (3 ≤ o.kind ∧ o.kind ≤ 7) ∨ o.kind = 10 then [o.a, o.b]
  else if o.kind = 11 ∨ o.kind = 12 ∨ o.kind = 13 then [o.a, o.b, o.c]
  else if o.kind = 14 ∧ o.a ≠ -1 then [o.a]
  else if o.kind = 15 ∧ o.a ≠ -1 then [o.a, o.b]
  else if o.kind = 15 then [o.b]
  else []
def makesF (o : LOp) : List Int :=
  if o.kind = 10 ∨ o.kind = 11 ∨ o.kind = 12 then [o.d, o.e]
  else if o.kind = 15 ∨ o.kind = 17 then []
  else [o.d]
/-- What each kind's registers are. -/
structure RegsIs (p : LP) (o : LOp) : Prop where
  d : if kD o.kind = true then 0 ≤ o.d ∧ o.d < p.regs else o.d = -1
  e : if kE o.kind = true then 0 ≤ o.e ∧ o.e < p.regs else o.e = -1
  a : if kA o.kind = true then (0 ≤ o.a ∧ o.a < p.regs) ∨ (kM o.kind = true ∧ o.a = -1) else o.a = -1
  b : if kB o.kind = true then 0 ≤ o.b ∧ o.b < p.regs else o.b = -1
  c : if kC o.kind = true then 0 ≤ o.c ∧ o.c < p.regs else o.c = -1
theorem regs_is {p : LP} {o : LOp} (h : fieldsF p o = true) : 1 ≤ o.kind ∧ o.kind ≤ 17 ∧ RegsIs p o := by
  unfold fieldsF regsOk at h
  simp only [Bool.and_eq_true, decide_eq_true_eq] at h
  obtain ⟨h1, h2, ⟨hd, he, ha, hb, hc⟩, _⟩ := h
  have key : ∀ (r : Int) (q : Bool), regIs p r q = true → if q = true then 0 ≤ r ∧ r < p.regs else r = -1 := fun r q h => by
    unfold regIs at h
    cases q <;> simpa using h
  refine ⟨h1, h2, key _ _ hd, key _ _ he, ?_, key _ _ hb, key _ _ hc⟩
  rw [Bool.or_eq_true] at ha
  rcases ha with ha | ha
  · have := key _ _ ha
    split
    · rename_i h; rw [if_pos h] at this; exact .inl this
    · rename_i h; rw [if_neg h] at this; exact this
  · simp only [Bool.and_eq_true, beq_iff_eq] at ha
    split
    · exact .inr ha
    · exact ha.2
theorem kind_all {k : Int} (h1 : 1 ≤ k) (h2 : k ≤ 17) : k = 1 ∨ k = 2 ∨ k = 3 ∨ k = 4 ∨ k = 5 ∨ k = 6 ∨ k = 7 ∨ k = 8 ∨ k = 9 ∨ k = 10 ∨ k = 11 ∨ k = 12 ∨ k = 13 ∨ k = 14 ∨ k = 15 ∨ k = 16 ∨ k = 17 := by omega
theorem takes_in {p : LP} {o : LOp} (h : fieldsF p o = true) : ∀ r ∈ takesF o, 0 ≤ r ∧ r < p.regs := by
  obtain ⟨h1, h2, hr⟩ := regs_is h
  obtain ⟨-, -, ha, hb, hc⟩ := hr
  intro r hm
  rcases kind_all h1 h2 with hk | hk | hk | hk | hk | hk | hk | hk | hk | hk | hk | hk | hk | hk | hk | hk | hk <;>
    simp only [takesF, hk, kA, kB, kC, kM] at hm ha hb hc <;> simp at hm ha hb hc <;> (try split at hm) <;> (try simp at hm) <;> omega
theorem makes_in {p : LP} {o : LOp} (h : fieldsF p o = true) : ∀ r ∈ makesF o, 0 ≤ r ∧ r < p.regs := by
  obtain ⟨h1, h2, hr⟩ := regs_is h
  obtain ⟨hd, he, -, -, -⟩ := hr
  intro r hm
  rcases kind_all h1 h2 with hk | hk | hk | hk | hk | hk | hk | hk | hk | hk | hk | hk | hk | hk | hk | hk | hk <;>
    simp only [makesF, hk, kD, kE] at hm hd he <;> simp at hm hd he <;> omega
theorem inF_neg (l : List Int) : inF l (-1) = false := rfl
theorem inF_pos (l : List Int) {r : Int} (h : 0 ≤ r) : inF l r = l.contains r := by unfold inF; rw [decide_eq_true h]; rfl
theorem makes_any {p : LP} {o : LOp} (h : fieldsF p o = true) (l : List Int) : ((makesF o).any fun r => l.contains r) = (inF l o.d || inF l o.e) := by
  obtain ⟨h1, h2, hr⟩ := regs_is h
  obtain ⟨hd, he, -, -, -⟩ := hr
  rcases kind_all h1 h2 with hk | hk | hk | hk | hk | hk | hk | hk | hk | hk | hk | hk | hk | hk | hk | hk | hk <;>
    simp only [makesF, hk, kD, kE] at hd he ⊢ <;> simp at hd he ⊢ <;>
    (first | (rw [hd, he]; simp [inF_neg]; done) | (rw [he, inF_pos l hd.1, inF_neg]; simp; done) | (rw [inF_pos l hd.1, inF_pos l he.1]; simp; done))
theorem lackF_neg (m : List Bool) : lackF m (-1) = false := rfl
theorem lackF_pos (m : List Bool) {r : Int} (h : 0 ≤ r) : lackF m r = !madeF m r := by unfold lackF; rw [decide_eq_true h]; rfl
theorem takes_any {p : LP} {o : LOp} (h : fieldsF p o = true) (m : List Bool) : ((takesF o).any fun r => !madeF m r) = (lackF m o.a || lackF m o.b || lackF m o.c) := by
  obtain ⟨h1, h2, hr⟩ := regs_is h
  obtain ⟨-, -, ha, hb, hc⟩ := hr
  rcases kind_all h1 h2 with hk | hk | hk | hk | hk | hk | hk | hk | hk | hk | hk | hk | hk | hk | hk | hk | hk <;>
    simp only [takesF, hk, kA, kB, kC, kM] at ha hb hc ⊢ <;> simp at ha hb hc ⊢ <;>
    (first
      | (rw [ha, hb, hc]; simp [lackF_neg]; done)
      | (rw [hb, hc, lackF_pos m ha.1]; simp [lackF_neg]; done)
      | (rw [hc, lackF_pos m ha.1, lackF_pos m hb.1]; simp [lackF_neg]; done)
      | (rw [lackF_pos m ha.1, lackF_pos m hb.1, lackF_pos m hc.1]; simp [Bool.or_assoc]; done)
      | (by_cases e : o.a = -1
         · simp [e, hb, hc, lackF_neg, lackF_pos]
         · have : 0 ≤ o.a := by omega
           simp [e, hb, hc, lackF_neg, lackF_pos, this]))
theorem putF_neg (m : List Bool) (x : Bool) : putF m (-1) x = m := rfl
theorem makes_put {p : LP} {o : LOp} (h : fieldsF p o = true) (m : List Bool) : putL (makesF o) m true = putF (putF m o.d true) o.e true := by
  obtain ⟨h1, h2, hr⟩ := regs_is h
  obtain ⟨hd, he, -, -, -⟩ := hr
  rcases kind_all h1 h2 with hk | hk | hk | hk | hk | hk | hk | hk | hk | hk | hk | hk | hk | hk | hk | hk | hk <;>
    simp only [makesF, hk, kD, kE] at hd he ⊢ <;> simp at hd he ⊢ <;>
    (first | (rw [hd, he]; rfl) | (rw [he]; rfl) | rfl)
end Go.Proofs.YtppoiahhaclleaaDoor
