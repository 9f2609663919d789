/- The sort by insertion, on lists: plain. -/
namespace Go.Proofs.YtmanhikpccnfaaaGreat

/-- x is laid among what is before it, the last one first. -/
def insBy {α : Type} (k : α → Nat) : List α → α → List α
  | [], x => [x]
  | p :: ps, x => if k x < k p then p :: insBy k ps x else x :: p :: ps
def sortBy {α : Type} (k : α → Nat) (E : List α) : List α := (E.foldl (insBy k) []).reverse

theorem insBy_length {α : Type} (k : α → Nat) (l : List α) (x : α) : (insBy k l x).length = l.length + 1 := by
  induction l with
  | nil => rfl
  | cons p ps ih => unfold insBy; split <;> simp [ih]
theorem foldl_insBy_length {α : Type} (k : α → Nat) (E a : List α) : (E.foldl (insBy k) a).length = a.length + E.length := by
  induction E generalizing a with
  | nil => rfl
  | cons x E ih => rw [List.foldl_cons, ih, insBy_length]; simp; omega
theorem insBy_map {α β : Type} (k : β → Nat) (f : α → β) (l : List α) (x : α) : insBy k (l.map f) (f x) = (insBy (fun a => k (f a)) l x).map f := by
  induction l with
  | nil => rfl
  | cons p ps ih =>
    simp only [List.map_cons, insBy]
    split
    · rw [ih]; rfl
    · rfl
theorem foldl_insBy_map {α β : Type} (k : β → Nat) (f : α → β) (E a : List α) : (E.map f).foldl (insBy k) (a.map f) = (E.foldl (insBy fun x => k (f x)) a).map f := by
  induction E generalizing a with
  | nil => rfl
  | cons x E ih => rw [List.map_cons, List.foldl_cons, List.foldl_cons, insBy_map, ih]
theorem sortBy_map {α β : Type} (k : β → Nat) (f : α → β) (E : List α) : sortBy k (E.map f) = (sortBy (fun x => k (f x)) E).map f := by
  have := foldl_insBy_map k f E []
  simp only [List.map_nil] at this
  rw [sortBy, this, sortBy, List.map_reverse]
theorem insBy_perm {α : Type} (k : α → Nat) (l : List α) (x : α) : (insBy k l x).Perm (x :: l) := by
  induction l with
  | nil => exact .refl _
  | cons p ps ih =>
    unfold insBy
    split
    · exact (ih.cons p).trans (.swap ..)
    · exact .refl _
theorem foldl_insBy_perm {α : Type} (k : α → Nat) (E a : List α) : (E.foldl (insBy k) a).Perm (E ++ a) := by
  induction E generalizing a with
  | nil => exact .refl _
  | cons x E ih => exact (ih _).trans (((insBy_perm k a x).append_left E).trans List.perm_middle)
theorem sortBy_perm {α : Type} (k : α → Nat) (E : List α) : (sortBy k E).Perm E := by
  have := foldl_insBy_perm k E []
  rw [List.append_nil] at this
  exact (List.reverse_perm _).trans this
theorem insBy_congr {α : Type} {k k' : α → Nat} (l : List α) (x : α) (hx : k x = k' x) (hl : ∀ p ∈ l, k p = k' p) : insBy k l x = insBy k' l x := by
  induction l with
  | nil => rfl
  | cons p ps ih =>
    unfold insBy
    rw [hx, hl p (List.mem_cons_self ..), ih (fun q hq => hl q (List.mem_cons_of_mem _ hq))]
theorem foldl_insBy_congr {α : Type} {k k' : α → Nat} (E a : List α) (hE : ∀ p ∈ E, k p = k' p) (ha : ∀ p ∈ a, k p = k' p) : E.foldl (insBy k) a = E.foldl (insBy k') a := by
  induction E generalizing a with
  | nil => rfl
  | cons x E ih =>
    have hx := hE x (List.mem_cons_self ..)
    rw [List.foldl_cons, List.foldl_cons, insBy_congr a x hx ha]
    refine ih _ (fun p hp => hE p (List.mem_cons_of_mem _ hp)) (fun p hp => ?_)
    rcases List.mem_cons.1 ((insBy_perm k' a x).mem_iff.1 hp) with rfl | hp
    · exact hx
    · exact ha p hp
theorem sortBy_congr {α : Type} {k k' : α → Nat} (E : List α) (hE : ∀ p ∈ E, k p = k' p) : sortBy k E = sortBy k' E := by
  rw [sortBy, sortBy, foldl_insBy_congr E [] hE (by simp)]
theorem sortBy_length {α : Type} (k : α → Nat) (E : List α) : (sortBy k E).length = E.length := (sortBy_perm k E).length_eq
theorem insBy_sorted {α : Type} (k : α → Nat) (l : List α) (x : α) (h : l.Pairwise fun a b => k b ≤ k a) : (insBy k l x).Pairwise fun a b => k b ≤ k a := by
  induction l with
  | nil => simp [insBy]
  | cons p ps ih =>
    obtain ⟨h1, h2⟩ := List.pairwise_cons.1 h
    unfold insBy
    split
    · rename_i hlt
      refine List.pairwise_cons.2 ⟨fun b hb => ?_, ih h2⟩
      rcases List.mem_cons.1 ((insBy_perm k ps x).mem_iff.1 hb) with rfl | hb
      · omega
      · exact h1 b hb
    · rename_i hge
      refine List.pairwise_cons.2 ⟨fun b hb => ?_, h⟩
      rcases List.mem_cons.1 hb with rfl | hb
      · omega
      · have := h1 b hb; omega
theorem sortBy_sorted {α : Type} (k : α → Nat) (E : List α) : (sortBy k E).Pairwise fun a b => k a ≤ k b := by
  rw [sortBy, List.pairwise_reverse]
  have : ∀ (E a : List α), a.Pairwise (fun a b => k b ≤ k a) → (E.foldl (insBy k) a).Pairwise (fun a b => k b ≤ k a) := by
    intro E
    induction E with
    | nil => intro a h; exact h
    | cons x E ih => intro a h; exact ih _ (insBy_sorted k a x h)
  exact this E [] .nil

end Go.Proofs.YtmanhikpccnfaaaGreat
