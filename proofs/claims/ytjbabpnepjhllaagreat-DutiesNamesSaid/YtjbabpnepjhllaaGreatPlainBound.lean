/- Facts that an operation makes known: their parts, how many there may be. -/
import Derived.Test.YtjbabpnepjhllaaGreatPlainDuty
import Derived.Test.YtjbabpnepjhllaaGreatPlainChk21
import Derived.Test.YtjbabpnepjhllaaGreatWords21
namespace Go.Proofs.YtjbabpnepjhllaaGreat

theorem in64_small {x : Int} (h : -1 ≤ x ∧ x < 4294967296) : In64 x := ⟨by omega, by omega⟩
theorem askF_mem {l : List Fct} {of : Int → Fct} {a b : Int} {told : List Int} {f : Fct} (h : f ∈ askF l of a b told) : ∃ v ∈ told, f = of v := by
  unfold askF at h
  split at h
  · obtain ⟨v, hv, rfl⟩ := List.mem_map.1 h; exact ⟨v, hv, rfl⟩
  · cases h
theorem bothF_mem {n : Nat} {l : List Fct} {a b p q : Int} {told : List Int} {f : Fct} (h : f ∈ bothF n l a b p q told) : ∃ v ∈ told, f = aloneF 1 v ∨ f = aloneF 3 v ∨ ∃ y : Nat, y < n ∧ (f = lessF v y ∨ f = lessF y v) := by
  unfold bothF at h
  simp only [List.mem_append, List.mem_flatten, List.mem_map, List.mem_range] at h
  rcases h with (h | h) | ⟨s, ⟨y, hy, rfl⟩, h⟩
  · obtain ⟨v, hv, rfl⟩ := askF_mem h; exact ⟨v, hv, .inl rfl⟩
  · obtain ⟨v, hv, rfl⟩ := askF_mem h; exact ⟨v, hv, .inr (.inl rfl)⟩
  · split at h
    · cases h
    · rcases List.mem_append.1 h with h | h
      · obtain ⟨v, hv, rfl⟩ := askF_mem h; exact ⟨v, hv, .inr (.inr ⟨y, hy, .inl rfl⟩)⟩
      · obtain ⟨v, hv, rfl⟩ := askF_mem h; exact ⟨v, hv, .inr (.inr ⟨y, hy, .inr rfl⟩)⟩
theorem copyF_mem {l : List Fct} {u v : Int} {f : Fct} (h : f ∈ copyF l u v) : ∃ x ∈ l, hasF x u = true ∧ f = if x.a = u then ⟨x.kind, v, x.b⟩ else ⟨x.kind, x.a, v⟩ := by
  unfold copyF at h
  obtain ⟨x, hx, rfl⟩ := List.mem_map.1 h
  obtain ⟨h1, h2⟩ := List.mem_filter.1 hx
  rw [Bool.and_eq_true] at h2
  exact ⟨x, h1, h2.1, rfl⟩
/-- What comes by an operation is of one of these forms. -/
theorem newsF_mem {vs : List KVar} {o : KOp} {l : List Fct} {f : Fct} (h : f ∈ newsF vs o l) :
    (o.kind = 1 ∧ (f = aloneF 1 o.d ∨ f = aloneF 3 o.d)) ∨ (o.kind = 2 ∧ f ∈ copyF l o.a o.d) ∨ ((o.kind = 9 ∨ o.kind = 10 ∨ o.kind = 11 ∨ o.kind = 12 ∨ o.kind = 13) ∧ o.d ≠ o.c ∧ f = lessF o.d o.c) ∨
    (o.kind = 8 ∧ f ∈ bothF vs.length l o.a o.b o.d o.d [o.d]) ∨ (o.kind = 14 ∧ f ∈ bothF vs.length l o.d o.e o.d o.e [o.d, o.e]) ∨ (o.kind = 17 ∧ f ∈ needsF o) := by
  unfold newsF at h
  split at h
  · rename_i hk
    refine .inl ⟨hk, ?_⟩
    rcases List.mem_append.1 h with h | h
    · split at h
      · exact .inl (List.mem_singleton.1 h)
      · cases h
    · split at h
      · exact .inr (List.mem_singleton.1 h)
      · cases h
  split at h
  · rename_i hk
    split at h
    · exact .inr (.inl ⟨hk, h⟩)
    · cases h
  split at h
  · rename_i hk
    split at h
    · rename_i hd
      exact .inr (.inr (.inl ⟨hk, hd, List.mem_singleton.1 h⟩))
    · cases h
  split at h
  · rename_i hk; exact .inr (.inr (.inr (.inl ⟨hk, h⟩)))
  split at h
  · rename_i hk; exact .inr (.inr (.inr (.inr (.inl ⟨hk, h⟩))))
  split at h
  · rename_i hk; exact .inr (.inr (.inr (.inr (.inr ⟨hk, h⟩))))
  · cases h
theorem needsF_mem {o : KOp} {f : Fct} (h : f ∈ needsF o) :
    (o.kind = 9 ∧ f = aloneF 3 o.c) ∨ ((o.kind = 10 ∨ o.kind = 11) ∧ (f = lessF o.a o.c ∨ f = lessF o.b o.c)) ∨ (o.kind = 12 ∧ (f = aloneF 1 o.c ∨ f = lessF o.a o.c ∨ f = lessF o.b o.c)) ∨
    (o.kind = 13 ∧ (f = aloneF 1 o.c ∨ f = lessF o.a o.c)) ∨ (o.kind = 17 ∧ ((o.imm = 2 ∧ f = lessF o.a o.b) ∨ (o.imm = 1 ∧ f = aloneF 1 o.a) ∨ (o.imm = 3 ∧ f = aloneF 3 o.a))) := by
  unfold needsF at h
  split at h
  · rename_i hk; exact .inl ⟨hk, List.mem_singleton.1 h⟩
  split at h
  · rename_i hk; exact .inr (.inl ⟨hk, by simpa using h⟩)
  split at h
  · rename_i hk; exact .inr (.inr (.inl ⟨hk, by simpa using h⟩))
  split at h
  · rename_i hk; exact .inr (.inr (.inr (.inl ⟨hk, by simpa using h⟩)))
  split at h
  · rename_i hk
    refine .inr (.inr (.inr (.inr ⟨hk, ?_⟩)))
    split at h
    · rename_i h1; exact .inl ⟨h1, List.mem_singleton.1 h⟩
    split at h
    · rename_i h1; exact .inr (.inl ⟨h1, List.mem_singleton.1 h⟩)
    split at h
    · rename_i h1; exact .inr (.inr ⟨h1, List.mem_singleton.1 h⟩)
    · cases h
  · cases h
theorem alone_ok {k a : Int} (hk : 0 ≤ k ∧ k ≤ 3) (ha : In64 a) : FctOk (aloneF k a) := ⟨in64_small (x := k) (by omega), ha, in64_small (x := -1) (by decide)⟩
theorem less_ok {a b : Int} (ha : In64 a) (hb : In64 b) : FctOk (lessF a b) := ⟨in64_small (x := 2) (by decide), ha, hb⟩
theorem needsF_ok {o : KOp} (ho : KOpOk o) : ∀ f ∈ needsF o, FctOk f := fun f h => by
  rcases needsF_mem h with ⟨_, rfl⟩ | ⟨_, rfl | rfl⟩ | ⟨_, rfl | rfl | rfl⟩ | ⟨_, rfl | rfl⟩ | ⟨_, ⟨_, rfl⟩ | ⟨_, rfl⟩ | ⟨_, rfl⟩⟩
  all_goals first | exact alone_ok (by decide) ho.c | exact less_ok ho.a ho.c | exact less_ok ho.b ho.c | exact less_ok ho.a ho.b | exact alone_ok (by decide) ho.a
theorem newsF_ok {vs : List KVar} {o : KOp} {l : List Fct} (ho : KOpOk o) (hl : ∀ f ∈ l, FctOk f) (hv : vs.length ≤ 4294967295) : ∀ f ∈ newsF vs o l, FctOk f := fun f h => by
  have hb : ∀ {a b p q : Int} {told : List Int}, (∀ v ∈ told, In64 v) → f ∈ bothF vs.length l a b p q told → FctOk f := fun ht h => by
    obtain ⟨v, hv', rfl | rfl | ⟨y, hy, rfl | rfl⟩⟩ := bothF_mem h
    · exact alone_ok (by decide) (ht v hv')
    · exact alone_ok (by decide) (ht v hv')
    · exact less_ok (ht v hv') (in64_small (by omega))
    · exact less_ok (in64_small (by omega)) (ht v hv')
  rcases newsF_mem h with ⟨_, rfl | rfl⟩ | ⟨_, h⟩ | ⟨_, _, rfl⟩ | ⟨_, h⟩ | ⟨_, h⟩ | ⟨_, h⟩
  · exact alone_ok (by decide) ho.d
  · exact alone_ok (by decide) ho.d
  · obtain ⟨x, hx, _, rfl⟩ := copyF_mem h
    split
    · exact ⟨(hl x hx).kind, ho.d, (hl x hx).b⟩
    · exact ⟨(hl x hx).kind, (hl x hx).a, ho.d⟩
  · exact less_ok ho.d ho.c
  · exact hb (fun v hv => by rw [List.mem_singleton] at hv; subst hv; exact ho.d) h
  · exact hb (fun v hv => by simp only [List.mem_cons, List.not_mem_nil, or_false] at hv; rcases hv with rfl | rfl; exact ho.d; exact ho.e) h
  · exact needsF_ok ho f h
theorem askF_len' (l : List Fct) (of : Int → Fct) (a b : Int) (told : List Int) : (askF l of a b told).length ≤ told.length := by
  unfold askF; split <;> simp
theorem bothF_len (l : List Fct) (a b p q : Int) (told : List Int) : ∀ n, (bothF n l a b p q told).length ≤ (2 + 2 * n) * told.length := by
  intro n
  induction n with
  | zero => unfold bothF; have h1 := askF_len' l (aloneF 1) a b told; have h2 := askF_len' l (aloneF 3) a b told; simp; omega
  | succ n ih =>
    have e : bothF (n + 1) l a b p q told = bothF n l a b p q told ++ (if (n : Int) = p ∨ (n : Int) = q then [] else askF l (fun v => lessF v n) a b told ++ askF l (fun v => lessF n v) a b told) := by
      unfold bothF
      rw [List.range_succ, List.map_append, List.flatten_append]
      simp
    rw [e, List.length_append]
    have h1 := askF_len' l (fun v => lessF v n) a b told
    have h2 := askF_len' l (fun v => lessF n v) a b told
    have h3 : (2 + 2 * (n + 1)) * told.length = (2 + 2 * n) * told.length + 2 * told.length := by rw [← Nat.add_mul]; rfl
    split
    · simp; omega
    · rw [List.length_append]; omega
theorem needsF_len' (o : KOp) : (needsF o).length ≤ 3 := by
  unfold needsF
  repeat' split
  all_goals simp
theorem newsF_len (vs : List KVar) (o : KOp) (l : List Fct) : (newsF vs o l).length ≤ l.length + (2 + 2 * vs.length) * 2 + 3 := by
  unfold newsF
  split
  · rw [List.length_append]; split <;> split <;> simp <;> omega
  split
  · split
    · unfold copyF; rw [List.length_map]; have := List.length_filter_le (fun f => hasF f o.a && !hasF f o.d) l; omega
    · simp
  split
  · split <;> simp
  split
  · have := bothF_len l o.a o.b o.d o.d [o.d] vs.length
    simp only [List.length_singleton, Nat.mul_one] at this
    omega
  split
  · have := bothF_len l o.d o.e o.d o.e [o.d, o.e] vs.length
    simp only [List.length_cons, List.length_nil] at this
    omega
  split
  · have := needsF_len' o; omega
  · simp
/-- A fact of variables. -/
def wellF (n : Nat) (f : Fct) : Prop := ((f.kind = 1 ∨ f.kind = 3) ∧ f.b = -1 ∧ 0 ≤ f.a ∧ f.a < n) ∨ (f.kind = 2 ∧ 0 ≤ f.a ∧ f.a < n ∧ 0 ≤ f.b ∧ f.b < n)
theorem well_ok {n : Nat} (hn : n ≤ 4294967295) {f : Fct} (h : wellF n f) : FctOk f := by
  rcases h with ⟨h, h1, h2, h3⟩ | ⟨h, h1, h2, h3, h4⟩
  · exact ⟨in64_small (by omega), in64_small (by omega), in64_small (by omega)⟩
  · exact ⟨in64_small (by omega), in64_small (by omega), in64_small (by omega)⟩
theorem well_alone {n : Nat} {k a : Int} (hk : k = 1 ∨ k = 3) (ha : 0 ≤ a ∧ a < n) : wellF n (aloneF k a) := .inl ⟨hk, rfl, ha⟩
theorem well_less {n : Nat} {a b : Int} (ha : 0 ≤ a ∧ a < n) (hb : 0 ≤ b ∧ b < n) : wellF n (lessF a b) := .inr ⟨rfl, ha.1, ha.2, hb.1, hb.2⟩
theorem oneK_need {vs : List KVar} {o : KOp} (h : oneK vs o = true) (hk : o.kind = 17) : (o.imm = 2 → 0 ≤ o.b ∧ o.b < vs.length) := by
  unfold oneK at h
  rw [if_pos hk] at h
  unfold needK thereK at h
  simp only [Bool.and_eq_true, decide_eq_true_eq, beq_iff_eq] at h
  intro h2
  have := h.2.2.2.2
  rw [if_pos h2] at this
  simpa using this
theorem well_needs {vs : List KVar} {o : KOp} (h : oneK vs o = true) : ∀ f ∈ needsF o, wellF vs.length f := fun f hf => by
  have hp := oneK_parts h
  rcases needsF_mem hf with ⟨hk, rfl⟩ | ⟨hk, rfl | rfl⟩ | ⟨hk, rfl | rfl | rfl⟩ | ⟨hk, rfl | rfl⟩ | ⟨hk, ⟨hi, rfl⟩ | ⟨_, rfl⟩ | ⟨_, rfl⟩⟩
  · exact well_alone (by decide) (hp.c (by omega))
  · exact well_less (hp.a (by omega)) (hp.c (by omega))
  · exact well_less (hp.b (by omega)) (hp.c (by omega))
  · exact well_alone (by decide) (hp.c (by omega))
  · exact well_less (hp.a (by omega)) (hp.c (by omega))
  · exact well_less (hp.b (by omega)) (hp.c (by omega))
  · exact well_alone (by decide) (hp.c (by omega))
  · exact well_less (hp.a (by omega)) (hp.c (by omega))
  · exact well_less (hp.a (by omega)) (oneK_need h hk hi)
  · exact well_alone (by decide) (hp.a (by omega))
  · exact well_alone (by decide) (hp.a (by omega))
theorem part_d {n : Nat} {o : KOp} (h : PartsK n o) (hk : o.kind ≤ 14) : 0 ≤ o.d ∧ o.d < n := by have := h.d; rwa [if_pos hk] at this
theorem part_e {n : Nat} {o : KOp} (h : PartsK n o) (hk : o.kind = 14) : 0 ≤ o.e ∧ o.e < n := by have := h.e; rw [if_pos hk] at this; exact this.1
theorem well_news {vs : List KVar} {o : KOp} {l : List Fct} (h : oneK vs o = true) (hl : ∀ f ∈ l, wellF vs.length f) : ∀ f ∈ newsF vs o l, wellF vs.length f := fun f hf => by
  have hp := oneK_parts h
  have hb : ∀ {a b p q : Int} {told : List Int}, (∀ v ∈ told, 0 ≤ v ∧ v < vs.length) → f ∈ bothF vs.length l a b p q told → wellF vs.length f := fun ht h => by
    obtain ⟨v, hv', rfl | rfl | ⟨y, hy, rfl | rfl⟩⟩ := bothF_mem h
    · exact well_alone (by decide) (ht v hv')
    · exact well_alone (by decide) (ht v hv')
    · exact well_less (ht v hv') (by omega)
    · exact well_less (by omega) (ht v hv')
  rcases newsF_mem hf with ⟨hk, rfl | rfl⟩ | ⟨hk, h⟩ | ⟨hk, _, rfl⟩ | ⟨hk, h⟩ | ⟨hk, h⟩ | ⟨_, h'⟩
  · exact well_alone (by decide) (part_d hp (by omega))
  · exact well_alone (by decide) (part_d hp (by omega))
  · obtain ⟨x, hx, hh, rfl⟩ := copyF_mem h
    have hd := part_d hp (by omega)
    have hw := hl x hx
    unfold hasF at hh
    simp only [Bool.or_eq_true, Bool.and_eq_true, beq_iff_eq] at hh
    split
    · rename_i he
      rcases hw with ⟨h1, h2, h3, h4⟩ | ⟨h1, h2, h3, h4, h5⟩
      · exact .inl ⟨h1, h2, hd⟩
      · exact .inr ⟨h1, hd.1, hd.2, h4, h5⟩
    · rename_i he
      rcases hw with ⟨h1, h2, h3, h4⟩ | ⟨h1, h2, h3, h4, h5⟩
      · omega
      · exact .inr ⟨h1, h2, h3, hd⟩
  · exact well_less (part_d hp (by omega)) (hp.c (by omega))
  · exact hb (fun v hv => by rw [List.mem_singleton] at hv; subst hv; exact part_d hp (by omega)) h
  · exact hb (fun v hv => by
      simp only [List.mem_cons, List.not_mem_nil, or_false] at hv
      rcases hv with rfl | rfl
      · exact part_d hp (by omega)
      · exact part_e hp hk) h
  · exact well_needs h f h'
/-- A row of facts of n variables, in order. -/
structure WellL (n : Nat) (l : List Fct) : Prop where
  fine : FineF l
  well : ∀ f ∈ l, wellF n f
theorem well_after {vs : List KVar} {o : KOp} {l : List Fct} (ho : oneK vs o = true) (h : WellL vs.length l) : WellL vs.length (afterF vs o l) := by
  refine ⟨fine_after h.fine, fun f hf => ?_⟩
  by_cases hc : o.kind = 2 ∧ o.d = o.a
  · unfold afterF at hf
    rw [if_pos hc] at hf
    exact h.well f hf
  · rw [mem_afterF hc] at hf
    rcases hf.2 with h1 | ⟨h1, _⟩
    · exact well_news ho h.well f h1
    · exact h.well f h1
theorem well_filter {n : Nat} {l : List Fct} (h : WellL n l) (p : Fct → Bool) : WellL n (l.filter p) := ⟨fine_filter h.fine p, fun f hf => h.well f (List.mem_filter.1 hf).1⟩
def allWell (n : Nat) : List Fct := (List.range n).map (fun a : Nat => aloneF 1 a) ++ ((List.range n).map (fun a : Nat => aloneF 3 a) ++ ((List.range n).map fun a : Nat => (List.range n).map fun b : Nat => lessF a b).flatten)
theorem allWell_len (n : Nat) : (allWell n).length = n + (n + n * n) := by
  have : ∀ m, ((List.range m).map fun a : Nat => (List.range n).map fun b : Nat => lessF a b).flatten.length = m * n := by
    intro m
    induction m with
    | zero => simp
    | succ m ih => rw [List.range_succ, List.map_append, List.flatten_append, List.length_append, ih]; simp [Nat.add_mul]
  simp [allWell, this, -List.length_flatten]
theorem mem_allWell {n : Nat} {f : Fct} (h : wellF n f) : f ∈ allWell n := by
  unfold allWell
  rcases h with ⟨h | h, h1, h2, h3⟩ | ⟨h, h1, h2, h3, h4⟩
  · refine List.mem_append_left _ (List.mem_map.2 ⟨f.a.toNat, List.mem_range.2 (by omega), Fct.ext_ ?_ ?_ ?_⟩)
    · exact h.symm
    · show ((f.a.toNat : Nat) : Int) = f.a; omega
    · exact h1.symm
  · refine List.mem_append_right _ (List.mem_append_left _ (List.mem_map.2 ⟨f.a.toNat, List.mem_range.2 (by omega), Fct.ext_ ?_ ?_ ?_⟩))
    · exact h.symm
    · show ((f.a.toNat : Nat) : Int) = f.a; omega
    · exact h1.symm
  · refine List.mem_append_right _ (List.mem_append_right _ (List.mem_flatten.2 ⟨_, List.mem_map.2 ⟨f.a.toNat, List.mem_range.2 (by omega), rfl⟩, List.mem_map.2 ⟨f.b.toNat, List.mem_range.2 (by omega), Fct.ext_ ?_ ?_ ?_⟩⟩))
    · exact h.symm
    · show ((f.a.toNat : Nat) : Int) = f.a; omega
    · show ((f.b.toNat : Nat) : Int) = f.b; omega
theorem ord_nodup {l : List Fct} (h : OrdF l) : l.Nodup := h.imp fun {x y} h e => by subst e; rw [ltF_irr] at h; cases h
theorem well_len {n : Nat} {l : List Fct} (h : WellL n l) : l.length ≤ n + (n + n * n) := by
  rw [← allWell_len]
  exact List.Nodup.length_le_of_subset (ord_nodup h.fine.ord) fun f hf => mem_allWell (h.well f hf)
end Go.Proofs.YtjbabpnepjhllaaGreat
