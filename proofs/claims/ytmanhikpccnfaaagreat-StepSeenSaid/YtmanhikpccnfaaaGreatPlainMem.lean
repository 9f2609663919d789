/- Regions that may be, sorted by their addresses: plain. -/
import Derived.Test.YtmanhikpccnfaaaGreatChk
import Derived.Test.YtmanhikpccnfaaaGreatPlainSort
namespace Go.Proofs.YtmanhikpccnfaaaGreat

/-- Regions that may be, in order. -/
structure Good (rs : List Reg) : Prop where
  len : rs.length ≤ 8
  bytes : ∀ r ∈ rs, r.bytes ≠ [] ∧ r.bytes.length ≤ 1048576
  end_ : ∀ r ∈ rs, r.base + r.bytes.length ≤ 18446744073709551616
  gap : rs.Pairwise fun a b => a.base + a.bytes.length ≤ b.base

theorem Good.base {rs : List Reg} (h : Good rs) : ∀ r ∈ rs, r.base < 18446744073709551616 ∧ r.bytes.length ≤ 9223372036854775807 := fun r hr => by
  have h1 := h.end_ r hr
  have h2 := (h.bytes r hr)
  have : 0 < r.bytes.length := List.length_pos_iff.2 h2.1
  exact ⟨by omega, by omega⟩
theorem Good.pos {rs : List Reg} (h : Good rs) : ∀ r ∈ rs, 0 < r.bytes.length := fun r hr => List.length_pos_iff.2 (h.bytes r hr).1
theorem Good.last {rs : List Reg} (h : Good rs) : ∀ r ∈ rs, lastOf r = r.base + r.bytes.length - 1 := fun r hr => by
  have h1 := h.end_ r hr
  have := h.pos r hr
  unfold lastOf
  omega

/-- What Check lets by, sorted. -/
theorem good_of_check {l : List Reg} (h : checkF l = 0) (hb : ∀ r ∈ l, r.base < 18446744073709551616) : Good (sortBy Reg.base l) := by
  unfold checkF at h
  split at h
  · cases h
  · rename_i h8
    split at h
    · cases h
    · rename_i hbad
      simp only [not_or, Nat.not_lt, Bool.not_eq_true] at h8
      have hbad' : ∀ k < l.length, chkBad l k = false := fun k hk => by
        cases hc : chkBad l k
        · rfl
        · exact absurd (List.any_eq_true.2 ⟨k, by simpa using hk, hc⟩) hbad
      have hr : ∀ r ∈ l, r.bytes ≠ [] ∧ r.bytes.length ≤ 1048576 ∧ r.base + r.bytes.length ≤ 18446744073709551616 := fun r hr => by
        obtain ⟨k, hk⟩ := List.mem_iff_getElem?.1 hr
        have hkl : k < l.length := (List.getElem?_eq_some_iff.1 hk).1
        have h1 := hbad' k hkl
        simp only [chkBad, hk, Bool.or_eq_false_iff, decide_eq_false_iff_not] at h1
        have h2 : ¬ 1048576 < r.bytes.length := by
          have := List.any_eq_false.1 h8.2 r hr
          simpa using this
        have h3 : r.bytes ≠ [] := by simpa using h1.1.1
        have h4 := h1.1.2
        have h5 := hb r hr
        have : 0 < r.bytes.length := List.length_pos_iff.2 h3
        unfold lastOf at h4
        exact ⟨h3, by omega, by omega⟩
      have hpair : l.Pairwise fun a b => a.base + a.bytes.length ≤ b.base ∨ b.base + b.bytes.length ≤ a.base := by
        rw [List.pairwise_iff_getElem]
        intro i j hi hj hij
        have h1 := hbad' j hj
        simp only [chkBad, List.getElem?_eq_getElem hj, Bool.or_eq_false_iff] at h1
        have h2 := List.any_eq_false.1 h1.2 l[i] (by
          rw [List.mem_iff_getElem]
          exact ⟨i, by simp; omega, by simp⟩)
        simp only [meets, decide_eq_true_eq] at h2
        obtain ⟨a1, a2, a3⟩ := hr l[i] (List.getElem_mem hi)
        obtain ⟨b1, b2, b3⟩ := hr l[j] (List.getElem_mem hj)
        have a4 : 0 < l[i].bytes.length := List.length_pos_iff.2 a1
        have b4 : 0 < l[j].bytes.length := List.length_pos_iff.2 b1
        unfold lastOf at h2
        omega
      have hperm := sortBy_perm Reg.base l
      have hmem : ∀ r ∈ sortBy Reg.base l, r ∈ l := fun r hr => hperm.mem_iff.1 hr
      refine ⟨by rw [sortBy_length]; omega, fun r h => ⟨(hr r (hmem r h)).1, (hr r (hmem r h)).2.1⟩, fun r h => (hr r (hmem r h)).2.2, ?_⟩
      have hp2 : (sortBy Reg.base l).Pairwise fun a b => a.base + a.bytes.length ≤ b.base ∨ b.base + b.bytes.length ≤ a.base := (hperm.pairwise_iff (fun h => h.symm)).2 hpair
      have hp3 := sortBy_sorted Reg.base l
      have hp4 := hp2.and hp3
      refine List.Pairwise.imp_of_mem (fun {a b} ha hb' hab => ?_) hp4
      obtain ⟨b1, b2, b3⟩ := hr b (hmem b hb')
      have b4 : 0 < b.bytes.length := List.length_pos_iff.2 b1
      omega

/-- Where the region would be that has an address. -/
def findI (rs : List Reg) (at_ : Nat) : Nat := rs.findIdx fun r => decide (at_ ≤ lastOf r)
/-- .. that has so many bytes from it on. -/
def placeF (rs : List Reg) (at_ n : Nat) : Option (Nat × Nat) := match rs[findI rs at_]? with
  | none => none
  | some r => if at_ < r.base then none else if r.bytes.length - (at_ - r.base) < n then none else some (findI rs at_, at_ - r.base)

theorem findI_eq {rs : List Reg} {at_ i : Nat} (hi : i ≤ rs.length) (h1 : ∀ (k : Nat) (r : Reg), k < i → rs[k]? = some r → lastOf r < at_) (h2 : ∀ r, rs[i]? = some r → at_ ≤ lastOf r) : findI rs at_ = i := by
  unfold findI
  rcases Nat.lt_or_ge i rs.length with h | h
  · rw [List.findIdx_eq h]
    refine ⟨by simpa using h2 rs[i] (List.getElem?_eq_getElem h), fun j hj => ?_⟩
    have := h1 j rs[j] hj (List.getElem?_eq_getElem (by omega))
    simp; omega
  · obtain rfl : i = rs.length := by omega
    rw [List.findIdx_eq_length]
    intro r hr
    obtain ⟨k, hk⟩ := List.mem_iff_getElem?.1 hr
    have := h1 k r (List.getElem?_eq_some_iff.1 hk).1 hk
    simp; omega

theorem findI_le {rs : List Reg} {at_ : Nat} {r : Reg} (h : rs[findI rs at_]? = some r) : at_ ≤ lastOf r := by
  obtain ⟨hlt, rfl⟩ := List.getElem?_eq_some_iff.1 h
  have h3 := List.findIdx_getElem (p := fun r => decide (at_ ≤ lastOf r)) (xs := rs) (w := hlt)
  exact of_decide_eq_true h3

theorem last_mono {rs : List Reg} (h : Good rs) {i j : Nat} {a b : Reg} (ha : rs[i]? = some a) (hb : rs[j]? = some b) (hij : i ≤ j) : lastOf a ≤ lastOf b := by
  rcases Nat.eq_or_lt_of_le hij with rfl | hlt
  · rw [ha] at hb; cases hb; exact Nat.le_refl _
  · obtain ⟨hi, rfl⟩ := List.getElem?_eq_some_iff.1 ha
    obtain ⟨hj, rfl⟩ := List.getElem?_eq_some_iff.1 hb
    have := List.pairwise_iff_getElem.1 h.gap i j hi hj hlt
    rw [h.last _ (List.getElem_mem hi), h.last _ (List.getElem_mem hj)]
    have := h.pos _ (List.getElem_mem hj)
    omega

end Go.Proofs.YtmanhikpccnfaaaGreat
