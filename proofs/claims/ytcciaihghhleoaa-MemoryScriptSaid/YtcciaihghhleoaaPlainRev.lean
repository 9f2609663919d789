/- Regions turned round are checked, and sorted, alike: plain. -/
import Derived.Test.YtcciaihghhleoaaPlainMem
namespace Go.Proofs.Ytcciaihghhleoaa

theorem meets_comm (a b : Reg) : meets a b = meets b a := by simp only [meets, and_comm]

theorem noneBad_iff (l : List Reg) : (List.range l.length).any (chkBad l) = false ↔ (∀ r ∈ l, r.bytes.isEmpty = false ∧ ¬ lastOf r < r.base) ∧ l.Pairwise fun a b => meets a b = false := by
  rw [List.any_eq_false]
  constructor
  · intro h
    have h' : ∀ k (hk : k < l.length), (l[k].bytes.isEmpty = false ∧ ¬ lastOf l[k] < l[k].base) ∧ ∀ o ∈ l.take k, meets o l[k] = false := fun k hk => by
      have h1 := h k (by simpa using hk)
      simp only [chkBad, List.getElem?_eq_getElem hk, Bool.not_eq_true, Bool.or_eq_false_iff, decide_eq_false_iff_not] at h1
      refine ⟨h1.1, fun o ho => ?_⟩
      have := List.any_eq_false.1 h1.2 o ho
      simpa using this
    refine ⟨fun r hr => ?_, ?_⟩
    · obtain ⟨k, hk, rfl⟩ := List.mem_iff_getElem.1 hr
      exact (h' k hk).1
    · rw [List.pairwise_iff_getElem]
      intro i j hi hj hij
      exact (h' j hj).2 _ (by rw [List.mem_iff_getElem]; exact ⟨i, by simp; omega, by simp⟩)
  · rintro ⟨h1, h2⟩ k hk
    have hk : k < l.length := by simpa using hk
    obtain ⟨a1, a2⟩ := h1 l[k] (List.getElem_mem hk)
    simp only [chkBad, List.getElem?_eq_getElem hk, Bool.not_eq_true, Bool.or_eq_false_iff, decide_eq_false_iff_not]
    refine ⟨⟨a1, a2⟩, List.any_eq_false.2 fun o ho => ?_⟩
    obtain ⟨i, hi, rfl⟩ := List.mem_iff_getElem.1 ho
    simp only [List.length_take] at hi
    have := List.pairwise_iff_getElem.1 h2 i k (by omega) hk (by omega)
    simpa using this

theorem noneBad_reverse (l : List Reg) : (List.range l.reverse.length).any (chkBad l.reverse) = (List.range l.length).any (chkBad l) := by
  have h : (List.range l.reverse.length).any (chkBad l.reverse) = false ↔ (List.range l.length).any (chkBad l) = false := by
    rw [noneBad_iff, noneBad_iff, List.pairwise_reverse]
    have e : (fun a b => meets b a = false) = fun a b => meets a b = false := by funext a b; rw [meets_comm]
    rw [e]
    simp only [List.mem_reverse]
  cases h1 : (List.range l.reverse.length).any (chkBad l.reverse) <;> cases h2 : (List.range l.length).any (chkBad l)
  · rfl
  · rw [h1, h2] at h; exact absurd (h.1 rfl) (by decide)
  · rw [h1, h2] at h; exact absurd (h.2 rfl) (by decide)
  · rfl

theorem checkF_reverse (l : List Reg) : checkF l.reverse = checkF l := by
  unfold checkF
  rw [noneBad_reverse]
  simp

theorem sorted_unique {a b : List Reg} (ha : Good a) (hb : b.Perm a) (hs : b.Pairwise fun x y => x.base ≤ y.base) : b = a := by
  have hlt : a.Pairwise fun x y => x.base < y.base := ha.gap.imp_of_mem fun {x y} hx _ h => by have := ha.pos x hx; omega
  have hne : b.Pairwise fun x y => x.base ≠ y.base := (hb.pairwise_iff (fun h => Ne.symm h)).2 (hlt.imp fun h => by omega)
  have hblt : b.Pairwise fun x y => x.base < y.base := (hs.and hne).imp fun ⟨h1, h2⟩ => by omega
  exact hb.eq_of_pairwise (fun x y _ _ h1 h2 => by omega) hblt hlt

theorem sort_reverse {l : List Reg} (h : checkF l = 0) (hb : ∀ r ∈ l, r.base < 18446744073709551616) : sortBy Reg.base l.reverse = sortBy Reg.base l :=
  sorted_unique (good_of_check h hb) (((sortBy_perm _ _).trans (List.reverse_perm _)).trans (sortBy_perm _ _).symm) (sortBy_sorted _ _)

end Go.Proofs.Ytcciaihghhleoaa
