/- What is known ahead of each operation of a kernel, plain: a run through its operations; it comes to its end; what it leaves. -/
import Derived.Test.YtjbabpnepjhllaaGreatPlainKern
namespace Go.Proofs.YtjbabpnepjhllaaGreat

/-- A run: false: through the operations from i up to t; true: the loop at i whose end is t. From what is known (l), and rows (A), to what is known then, and rows. -/
inductive RunD (vs : List KVar) (ops : List KOp) : Bool → Nat → Nat → List Fct → List (List Fct) → List Fct → List (List Fct) → Prop
  | done {i t l A} (h : t ≤ i) : RunD vs ops false i t l A l A
  | op {i t l A o l' A'} (h : i < t) (ho : ops[i]? = some o) (hk : o.kind ≠ 15) (hr : RunD vs ops false (i + 1) t (afterF vs o l) (A.set i l) l' A') : RunD vs ops false i t l A l' A'
  | loop {i t l A o e l1 A1 l' A'} (h : i < t) (ho : ops[i]? = some o) (hk : o.kind = 15) (he : (kEnds ops).getD i 0 = ((e : Nat) : Int)) (hl : RunD vs ops true i e l (A.set i l) l1 A1) (hr : RunD vs ops false (e + 1) t l1 (A1.set e l1) l' A') : RunD vs ops false i t l A l' A'
  | still {i t l A l1 A1} (hr : RunD vs ops false (i + 1) t l A l1 A1) (hs : (l.filter (knowsF l1)).length = l.length) : RunD vs ops true i t l A l1 A1
  | more {i t l A l1 A1 l' A'} (hr : RunD vs ops false (i + 1) t l A l1 A1) (hs : (l.filter (knowsF l1)).length ≠ l.length) (hm : RunD vs ops true i t (l.filter (knowsF l1)) A1 l' A') : RunD vs ops true i t l A l' A'

/-- A place that is come to, in a range. -/
structure LiveK (ops : List KOp) (i t : Nat) : Prop where
  le : i ≤ t
  len : t ≤ ops.length
  base : (t = ops.length ∧ kS ops i = []) ∨ ∃ (m : Nat) (o : KOp), ops[m]? = some o ∧ o.kind = 15 ∧ (kEnds ops).getD m 0 = (t : Int) ∧ kS ops i = m :: kS ops m ∧ m < i
theorem LiveK.op {ops : List KOp} (hb : KBal ops) {i t : Nat} (h : LiveK ops i t) (hi : i < t) {o : KOp} (ho : ops[i]? = some o) (hk : o.kind ≠ 15) : o.kind ≠ 16 ∧ LiveK ops (i + 1) t := by
  have hn := kS_next ho
  rw [if_neg hk] at hn
  rcases h.base with ⟨h1, h2⟩ | ⟨m, q, hq, hq15, he, hs, hm⟩
  · have h16 : o.kind ≠ 16 := fun e => hb.some_ i o ho e h2
    rw [if_neg h16] at hn
    exact ⟨h16, ⟨hi, h.len, .inl ⟨h1, hn.trans h2⟩⟩⟩
  · have h16 : o.kind ≠ 16 := fun e => by
      rw [if_pos e, hs] at hn
      simp only [List.tail_cons] at hn
      obtain ⟨e', q', g1, g2, g3, g4, g5, g6, g7, g8⟩ := k_loop hb hq hq15
      rw [he] at g3
      have : e' = t := by omega
      subst this
      have h1 := g6 (i + 1) (by omega) (by omega)
      rw [hn] at h1
      have := kS_lt ops m m h1
      omega
    rw [if_neg h16] at hn
    exact ⟨h16, ⟨hi, h.len, .inr ⟨m, q, hq, hq15, he, hn.trans hs, by omega⟩⟩⟩
theorem LiveK.loop {ops : List KOp} (hb : KBal ops) {i t : Nat} (h : LiveK ops i t) (hi : i < t) {o : KOp} (ho : ops[i]? = some o) (hk : o.kind = 15) : ∃ e : Nat, (kEnds ops).getD i 0 = (e : Int) ∧ i < e ∧ e < t ∧ LiveK ops (i + 1) e ∧ LiveK ops (e + 1) t ∧ ∃ q, ops[e]? = some q ∧ q.kind = 16 := by
  obtain ⟨e, q, g1, g2, g3, g4, g5, g6, g7, g8⟩ := k_loop hb ho hk
  have hn := kS_next ho
  rw [if_pos hk] at hn
  have het : e < t := by
    rcases h.base with ⟨h1, h2⟩ | ⟨m, q', hq, hq15, he, hs, hm⟩
    · omega
    · rcases Nat.lt_or_ge e t with h1 | h1
      · exact h1
      · obtain ⟨e', q'', k1, k2, k3, k4, k5, k6, k7, k8⟩ := k_loop hb hq hq15
        rw [he] at k3
        have : e' = t := by omega
        subst this
        have h2 := g6 e' (by omega) h1
        rw [k7] at h2
        rcases List.mem_cons.1 h2 with h2 | h2
        · omega
        · have := kS_lt ops m i h2; omega
  refine ⟨e, g3, g1, het, ⟨g1, by omega, .inr ⟨i, o, ho, hk, g3, hn, by omega⟩⟩, ⟨het, h.len, ?_⟩, q, g4, g5⟩
  rcases h.base with ⟨h1, h2⟩ | ⟨m, q', hq, hq15, he, hs, hm⟩
  · exact .inl ⟨h1, g8.trans h2⟩
  · exact .inr ⟨m, q', hq, hq15, he, g8.trans hs, by omega⟩
theorem filter_lt {l : List Fct} {p : Fct → Bool} (h : (l.filter p).length ≠ l.length) : (l.filter p).length < l.length := by
  have := List.length_filter_le p l
  omega
/-- It comes to its end. -/
theorem runD_ends {vs : List KVar} {ops : List KOp} (hb : KBal ops) : ∀ (n i t : Nat), LiveK ops i t → t - i ≤ n → ∀ l A, ∃ l' A', RunD vs ops false i t l A l' A' := by
  intro n
  induction n with
  | zero => exact fun i t h hn l A => ⟨l, A, .done (by omega)⟩
  | succ n ih =>
    intro i t h hn l A
    rcases Nat.lt_or_ge i t with hi | hi
    rotate_left
    · exact ⟨l, A, .done hi⟩
    obtain ⟨o, ho⟩ : ∃ o, ops[i]? = some o := ⟨_, List.getElem?_eq_getElem (by have := h.len; omega)⟩
    by_cases hk : o.kind = 15
    · obtain ⟨e, he, h1, h2, h3, h4, _⟩ := h.loop hb hi ho hk
      have key : ∀ (m : Nat) (l : List Fct) (A : List (List Fct)), l.length ≤ m → ∃ l' A', RunD vs ops true i e l A l' A' := by
        intro m
        induction m with
        | zero =>
          intro l A hl
          obtain ⟨l1, A1, hr⟩ := ih (i + 1) e h3 (by omega) l A
          exact ⟨l1, A1, .still hr (by have := List.length_filter_le (knowsF l1) l; omega)⟩
        | succ m ihm =>
          intro l A hl
          obtain ⟨l1, A1, hr⟩ := ih (i + 1) e h3 (by omega) l A
          by_cases hs : (l.filter (knowsF l1)).length = l.length
          · exact ⟨l1, A1, .still hr hs⟩
          · obtain ⟨l', A', hm⟩ := ihm (l.filter (knowsF l1)) A1 (by have := filter_lt hs; omega)
            exact ⟨l', A', .more hr hs hm⟩
      obtain ⟨l1, A1, hl⟩ := key l.length l (A.set i l) (Nat.le_refl _)
      obtain ⟨l', A', hr⟩ := ih (e + 1) t h4 (by omega) l1 (A1.set e l1)
      exact ⟨l', A', .loop hi ho hk he hl hr⟩
    · obtain ⟨_, h2⟩ := h.op hb hi ho hk
      obtain ⟨l', A', hr⟩ := ih (i + 1) t h2 (by omega) (afterF vs o l) (A.set i l)
      exact ⟨l', A', .op hi ho hk hr⟩

/-- Facts that a row may be. -/
structure FineF (l : List Fct) : Prop where
  ord : OrdF l
  may : ∀ f ∈ l, mayF f = true
theorem fine_sort (l : List Fct) : FineF (sortF l) := ⟨ord_sortF l, fun _ hf => (mem_sortF.1 hf).2⟩
theorem fine_after {vs : List KVar} {o : KOp} {l : List Fct} (h : FineF l) : FineF (afterF vs o l) := ⟨ord_afterF h.ord, fun f hf => by
  by_cases hc : o.kind = 2 ∧ o.d = o.a
  · unfold afterF at hf
    rw [if_pos hc] at hf
    exact h.may f hf
  · exact ((mem_afterF hc f).1 hf).1⟩
theorem fine_filter {l : List Fct} (h : FineF l) (p : Fct → Bool) : FineF (l.filter p) := ⟨h.ord.filter p, fun f hf => h.may f (List.mem_filter.1 hf).1⟩
/-- What stands at a place: at the range's end what is known then. -/
def gvD (A : List (List Fct)) (t : Nat) (l : List Fct) (j : Nat) : List Fct := if j = t then l else A.getD j []
theorem gv_end (A : List (List Fct)) (t : Nat) (l : List Fct) : gvD A t l t = l := by unfold gvD; rw [if_pos rfl]
theorem gv_in {A : List (List Fct)} {t : Nat} {l : List Fct} {j : Nat} (h : j ≠ t) : gvD A t l j = A.getD j [] := by unfold gvD; rw [if_neg h]
structure GoodD (vs : List KVar) (ops : List KOp) (i t : Nat) (l' : List Fct) (A' : List (List Fct)) : Prop where
  fine : ∀ j, i ≤ j → j ≤ t → FineF (gvD A' t l' j)
  op : ∀ (j : Nat) (o : KOp), i ≤ j → j < t → ops[j]? = some o → o.kind ≠ 15 → o.kind ≠ 16 → gvD A' t l' (j + 1) = afterF vs o (gvD A' t l' j)
  loop : ∀ (j : Nat) (o : KOp) (e : Nat), i ≤ j → j < t → ops[j]? = some o → o.kind = 15 → (kEnds ops).getD j 0 = (e : Int) → (∀ f ∈ gvD A' t l' (j + 1), knowsF (gvD A' t l' j) f = true ∧ knowsF (gvD A' t l' e) f = true) ∧ gvD A' t l' (e + 1) = gvD A' t l' e
theorem set_getD {A : List (List Fct)} {i j : Nat} {l : List Fct} (h : i ≠ j) : (A.set i l).getD j [] = A.getD j [] := by rw [List.getD_eq_getElem?_getD, List.getD_eq_getElem?_getD, List.getElem?_set_ne h]
theorem set_getD_self {A : List (List Fct)} {i : Nat} {l : List Fct} (h : i < A.length) : (A.set i l).getD i [] = l := by rw [List.getD_eq_getElem?_getD, List.getElem?_set_self h]; rfl
/-- What a run leaves. -/
theorem runD_good {vs : List KVar} {ops : List KOp} (hb : KBal ops) {m : Bool} {i t : Nat} {l l' : List Fct} {A A' : List (List Fct)} (h : RunD vs ops m i t l A l' A') : ∀ (_ : A.length = ops.length) (_ : FineF l),
    match m with
    | false => LiveK ops i t → A'.length = A.length ∧ (∀ j, j < i ∨ t ≤ j → A'.getD j [] = A.getD j []) ∧ GoodD vs ops i t l' A' ∧ gvD A' t l' i = l
    | true => LiveK ops (i + 1) t → A'.length = A.length ∧ (∀ j, j ≤ i ∨ t ≤ j → A'.getD j [] = A.getD j []) ∧ GoodD vs ops (i + 1) t l' A' ∧ (∀ f ∈ gvD A' t l' (i + 1), f ∈ l ∧ knowsF l' f = true) := by
  induction h with
  | @done i t l A h =>
    intro hA hl hL
    have e : i = t := by have := hL.le; omega
    subst e
    refine ⟨rfl, fun j _ => rfl, ⟨fun j h1 h2 => ?_, fun j o h1 h2 => absurd h2 (by omega), fun j o e h1 h2 => absurd h2 (by omega)⟩, gv_end _ _ _⟩
    have : j = i := by omega
    subst this
    rw [gv_end]; exact hl
  | @op i t l A o l' A' hi ho hk hr ih =>
    intro hA hl hL
    obtain ⟨h16, hL1⟩ := hL.op hb hi ho hk
    obtain ⟨g1, g2, g3, g4⟩ := ih (by rw [List.length_set]; exact hA) (fine_after hl) hL1
    have hiA : i < A.length := by have := hL.len; omega
    have hAi : A'.getD i [] = l := by rw [g2 i (.inl (by omega)), set_getD_self hiA]
    have hgi : gvD A' t l' i = l := by rw [gv_in (by omega)]; exact hAi
    refine ⟨by rw [g1, List.length_set], fun j hj => ?_, ⟨fun j h1 h2 => ?_, fun j q h1 h2 hq k15 k16 => ?_, fun j q e h1 h2 hq k15 he => ?_⟩, hgi⟩
    · rw [g2 j (by omega), set_getD (by omega)]
    · by_cases e : j = i
      · subst e; rw [hgi]; exact hl
      · exact g3.fine j (by omega) h2
    · by_cases e : j = i
      · subst e
        rw [ho] at hq; cases hq
        rw [hgi, g4]
      · exact g3.op j q (by omega) h2 hq k15 k16
    · by_cases e' : j = i
      · subst e'; rw [ho] at hq; cases hq; exact absurd k15 hk
      · exact g3.loop j q e (by omega) h2 hq k15 he
  | @loop i t l A o e l1 A1 l' A' hi ho hk he hl0 hr ihl ihr =>
    intro hA hl hL
    obtain ⟨e', he', h1, h2, hL1, hL2, _⟩ := hL.loop hb hi ho hk
    have : e' = e := by rw [he] at he'; omega
    subst this
    have hiA : i < A.length := by have := hL.len; omega
    obtain ⟨g1, g2, g3, g4⟩ := ihl (by rw [List.length_set]; exact hA) hl hL1
    have hf1 : FineF l1 := by have := g3.fine e' (by omega) (Nat.le_refl _); rw [gv_end] at this; exact this
    have hA1 : A1.length = ops.length := by rw [g1, List.length_set]; exact hA
    obtain ⟨k1, k2, k3, k4⟩ := ihr (by rw [List.length_set]; exact hA1) hf1 hL2
    have heA : e' < A1.length := by have := hL.len; omega
    have hAe : A'.getD e' [] = l1 := by rw [k2 e' (.inl (by omega)), set_getD_self heA]
    have hAi : A'.getD i [] = l := by rw [k2 i (.inl (by omega)), set_getD (by omega), g2 i (.inl (Nat.le_refl _)), set_getD_self hiA]
    have hgi : gvD A' t l' i = l := by rw [gv_in (by omega)]; exact hAi
    have hge : gvD A' t l' e' = l1 := by rw [gv_in (by omega)]; exact hAe
    have hin : ∀ j, i < j → j ≤ e' → gvD A' t l' j = gvD A1 e' l1 j := fun j h3 h4 => by
      by_cases e : j = e'
      · subst e; rw [hge, gv_end]
      · rw [gv_in (by omega), gv_in e, k2 j (.inl (by omega)), set_getD (by omega)]
    refine ⟨by rw [k1, List.length_set, g1, List.length_set], fun j hj => ?_, ⟨fun j h3 h4 => ?_, fun j q h3 h4 hq k15 k16 => ?_, fun j q e h3 h4 hq k15 he2 => ?_⟩, hgi⟩
    · rw [k2 j (by omega), set_getD (by omega), g2 j (by omega), set_getD (by omega)]
    · by_cases e : j = i
      · subst e; rw [hgi]; exact hl
      · rcases Nat.lt_or_ge e' j with h5 | h5
        · exact k3.fine j (by omega) h4
        · rw [hin j (by omega) h5]; exact g3.fine j (by omega) h5
    · by_cases e : j = i
      · subst e; rw [ho] at hq; cases hq; exact absurd hk k15
      · rcases Nat.lt_or_ge j e' with h5 | h5
        · rw [hin j (by omega) (by omega), hin (j + 1) (by omega) (by omega)]
          exact g3.op j q (by omega) h5 hq k15 k16
        · by_cases e2 : j = e'
          · subst e2
            obtain ⟨_, q', _, _, _, z4, z5, _⟩ := k_loop hb ho hk
            obtain ⟨z, q2, y1, y2, y3, y4, y5, _⟩ := k_loop hb ho hk
            rw [he] at y3
            have : z = j := by omega
            subst this
            rw [hq] at y4; cases y4
            exact absurd y5 k16
          · exact k3.op j q (by omega) h4 hq k15 k16
    · by_cases e1 : j = i
      · subst e1
        rw [ho] at hq; cases hq
        have : e = e' := by rw [he] at he2; omega
        subst this
        refine ⟨fun f hf => ?_, ?_⟩
        · rw [hin (j + 1) (by omega) (by omega)] at hf
          obtain ⟨z1, z2⟩ := g4 f hf
          exact ⟨by rw [hgi]; exact knowsF_mem z1, by rw [hge]; exact z2⟩
        · rw [hge]; exact k4
      · rcases Nat.lt_or_ge j e' with h5 | h5
        · have hgl := g3.loop j q e (by omega) h5 hq k15 he2
          have hee : e < e' := by
            obtain ⟨z, q2, y1, y2, y3, y4, y5, y6, y7, y8⟩ := k_loop hb hq k15
            rw [he2] at y3
            have : z = e := by omega
            subst this
            rcases Nat.lt_or_ge z e' with h6 | h6
            · exact h6
            · have h7 := y6 e' h5 h6
              obtain ⟨z', q3, x1, x2, x3, x4, x5, x6, x7, x8⟩ := k_loop hb ho hk
              rw [he] at x3
              have : z' = e' := by omega
              subst this
              rw [x7] at h7
              rcases List.mem_cons.1 h7 with h7 | h7
              · omega
              · have := kS_lt ops i j h7; omega
          have hje : j < e := by
            obtain ⟨z, q2, y1, y2, y3, _⟩ := k_loop hb hq k15
            rw [he2] at y3
            omega
          rw [hin j (by omega) (by omega), hin (j + 1) (by omega) (by omega), hin e (by omega) (by omega), hin (e + 1) (by omega) (by omega)]
          exact hgl
        · by_cases e2 : j = e'
          · subst e2
            obtain ⟨z, q2, y1, y2, y3, y4, y5, _⟩ := k_loop hb ho hk
            rw [he] at y3
            have : z = j := by omega
            subst this
            rw [hq] at y4; cases y4
            omega
          · exact k3.loop j q e (by omega) h4 hq k15 he2
  | @still i t l A l1 A1 hr hs ih =>
    intro hA hl hL
    obtain ⟨g1, g2, g3, g4⟩ := ih hA hl hL
    refine ⟨g1, fun j hj => g2 j (by omega), g3, fun f hf => ?_⟩
    rw [g4] at hf
    have h1 : l.filter (knowsF l1) = l := List.filter_sublist.eq_of_length hs
    rw [← h1] at hf
    obtain ⟨h2, h3⟩ := List.mem_filter.1 hf
    exact ⟨h2, h3⟩
  | @more i t l A l1 A1 l' A' hr hs hm ih1 ih2 =>
    intro hA hl hL
    obtain ⟨g1, g2, g3, g4⟩ := ih1 hA hl hL
    obtain ⟨k1, k2, k3, k4⟩ := ih2 (by rw [g1]; exact hA) (fine_filter hl _) hL
    exact ⟨by rw [k1, g1], fun j hj => by rw [k2 j hj, g2 j (by omega)], k3, fun f hf => ⟨(List.mem_filter.1 (k4 f hf).1).1, (k4 f hf).2⟩⟩
end Go.Proofs.YtjbabpnepjhllaaGreat
