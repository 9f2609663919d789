/- Words for memory that is written: what may have changed; a block of rows. -/
import Derived.Test.YtjbabpnepjhllaaGreatWordsA
namespace Go.Proofs.YtjbabpnepjhllaaGreat
open Go.RowKit

/-- Of what stood in w only blocks of F may have changed. -/
structure Chg (F : Nat → Prop) (w w' : World) : Prop where
  os : w'.os = w.os
  tape : w'.tape = w.tape
  output : w'.output = w.output
  size : w.heap.size ≤ w'.heap.size
  block : ∀ k, k < w.heap.size → ¬ F k → w'.heap[k]? = w.heap[k]?

theorem Chg.refl (F : Nat → Prop) (w : World) : Chg F w w := ⟨rfl, rfl, rfl, Nat.le_refl _, fun _ _ _ => rfl⟩
theorem Chg.trans {F : Nat → Prop} {a b c : World} (h : Chg F a b) (h' : Chg F b c) : Chg F a c :=
  ⟨h'.os.trans h.os, h'.tape.trans h.tape, h'.output.trans h.output, Nat.le_trans h.size h'.size, fun k hk hF => (h'.block k (Nat.lt_of_lt_of_le hk h.size) hF).trans (h.block k hk hF)⟩
/-- The second step may change what is new since the first one's beginning, too. -/
theorem Chg.trans' {F G : Nat → Prop} {a b c : World} (h : Chg F a b) (h' : Chg G b c) (hg : ∀ k, k < a.heap.size → G k → F k) : Chg F a c :=
  ⟨h'.os.trans h.os, h'.tape.trans h.tape, h'.output.trans h.output, Nat.le_trans h.size h'.size, fun k hk hF => (h'.block k (Nat.lt_of_lt_of_le hk h.size) (fun hG => hF (hg k hk hG))).trans (h.block k hk hF)⟩
theorem Chg.mono {F G : Nat → Prop} {a b : World} (h : Chg F a b) (hg : ∀ k, k < a.heap.size → F k → G k) : Chg G a b := ⟨h.os, h.tape, h.output, h.size, fun k hk hG => h.block k hk fun hF => hG (hg k hk hF)⟩
theorem Chg.of_below {F : Nat → Prop} {a b : World} (h : Below a.heap.size a b) : Chg F a b := ⟨h.os, h.tape, h.output, h.size, fun k hk _ => h.block k hk⟩
theorem Chg.below {F : Nat → Prop} {a b : World} {B : Nat} (h : Chg F a b) (hF : ∀ k, k < B → ¬ F k) (hB : B ≤ a.heap.size) : Below B a b := ⟨h.os, h.tape, h.output, h.size, fun k hk => h.block k (Nat.lt_of_lt_of_le hk hB) (hF k hk)⟩
theorem Chg.same {F G : Nat → Prop} {a b : World} (h : Chg F a b) (hG : ∀ k, G k → k < a.heap.size ∧ ¬ F k) : SameOn G a b := fun k hk => h.block k (hG k hk).1 (hG k hk).2
theorem Chg.drew {F : Nat → Prop} {a b : World} (h : Chg F a b) : Chg F a b.drew := ⟨h.os, h.tape, h.output, h.size, h.block⟩
theorem Chg.setCell {F : Nat → Prop} {a b : World} (h : Chg F a b) {p : Addr} (hp : F p.block ∨ a.heap.size ≤ p.block) (u : Value) : Chg F a (b.setCell p u) :=
  ⟨h.os, h.tape, h.output, by have := h.size; simpa [World.setCell] using this, fun k hk hF => (Below.heap_setCell _ _ _ _ (fun e => by subst e; rcases hp with hp | hp; exact hF hp; omega)).trans (h.block k hk hF)⟩
theorem Chg.alloc {F : Nat → Prop} {a b : World} (h : Chg F a b) (o : Obj) : Chg F a (b.alloc o) := h.trans (.of_below ((Below.refl _ _).alloc (Nat.le_refl _) o))

/-- Block g holds rows of 'sz' cells each, from its beginning on; it may be written. -/
def RowsBlk (w : World) (g e sz : Nat) (rows : List (List Value)) : Prop :=
  ∃ cur, w.heap[g]? = some (.cells cur e (0, 0)) ∧ (∀ (i j : Nat) (r : List Value) (u : Value), rows[i]? = some r → r[j]? = some u → cur[i * sz + j]? = some u) ∧ ∀ r ∈ rows, r.length = sz

theorem RowsBlk.keep {w w' : World} {g e sz : Nat} {rows : List (List Value)} (h : RowsBlk w g e sz rows) (hk : w'.heap[g]? = w.heap[g]?) : RowsBlk w' g e sz rows := by
  obtain ⟨cur, h1, h2⟩ := h
  exact ⟨cur, hk.trans h1, h2⟩
theorem RowsBlk.drew {w : World} {g e sz : Nat} {rows : List (List Value)} (h : RowsBlk w g e sz rows) : RowsBlk w.drew g e sz rows := h
theorem RowsBlk.lt {w : World} {g e sz : Nat} {rows : List (List Value)} (h : RowsBlk w g e sz rows) : g < w.heap.size := by
  obtain ⟨cur, h1, _⟩ := h
  rcases Nat.lt_or_ge g w.heap.size with h | h
  · exact h
  · rw [Array.getElem?_eq_none h] at h1; cases h1
theorem RowsBlk.cell {w : World} {g e sz : Nat} {rows : List (List Value)} (h : RowsBlk w g e sz rows) {i j : Nat} {r : List Value} {u : Value} (hr : rows[i]? = some r) (hu : r[j]? = some u) : w.cell? ⟨g, i * sz + j, none⟩ = some u := by
  obtain ⟨cur, h1, h2, _⟩ := h
  simp only [World.cell?, h1]
  exact h2 i j r u hr hu
theorem RowsBlk.frozen {w : World} {g e sz : Nat} {rows : List (List Value)} (h : RowsBlk w g e sz rows) (i : Nat) : w.frozen? ⟨g, i, none⟩ = false := by
  obtain ⟨cur, h1, _⟩ := h
  simp [World.frozen?, h1]
theorem RowsBlk.sub {w : World} {g e sz : Nat} {rows : List (List Value)} (h : RowsBlk w g e sz rows) {rows' : List (List Value)} (hs : ∀ (i : Nat) (r : List Value), rows'[i]? = some r → rows[i]? = some r) : RowsBlk w g e sz rows' := by
  obtain ⟨cur, h1, h2, h3⟩ := h
  exact ⟨cur, h1, fun i j r u hr hu => h2 i j r u (hs i r hr) hu, fun r hr => by obtain ⟨i, hi⟩ := List.mem_iff_getElem?.1 hr; exact h3 r (List.mem_of_getElem? (hs i r hi))⟩

theorem idx3 {i j i' j' sz : Nat} (hj : j < sz) (hj' : j' < sz) (h : i * sz + j = i' * sz + j') : i = i' ∧ j = j' := by
  have h1 : (i * sz + j) / sz = i := by rw [Nat.mul_comm, Nat.mul_add_div (by omega)]; simp [Nat.div_eq_of_lt hj]
  have h2 : (i' * sz + j') / sz = i' := by rw [Nat.mul_comm, Nat.mul_add_div (by omega)]; simp [Nat.div_eq_of_lt hj']
  have : i = i' := by rw [← h1, ← h2, h]
  subst this
  exact ⟨rfl, by omega⟩

/-- One cell is stored. -/
theorem RowsBlk.set_ {w : World} {g e sz : Nat} {rows : List (List Value)} (h : RowsBlk w g e sz rows) {i j : Nat} {r : List Value} (hr : rows[i]? = some r) (hj : j < sz) (u : Value) :
    RowsBlk (w.setCell ⟨g, i * sz + j, none⟩ u) g e sz (rows.set i (r.set j u)) := by
  obtain ⟨cur, h1, h2, h3⟩ := h
  have hrl := h3 r (List.mem_of_getElem? hr)
  have hil : i < rows.length := by
    rcases Nat.lt_or_ge i rows.length with h | h
    · exact h
    · rw [List.getElem?_eq_none h] at hr; cases hr
  refine ⟨cur.setIfInBounds (i * sz + j) u, by simp [World.setCell, Array.getElem?_modify, h1], fun i' j' r' u' hr' hu' => ?_, fun r' hr' => ?_⟩
  · have hj' : j' < sz := by
      have : r' ∈ rows.set i (r.set j u) := List.mem_of_getElem? hr'
      have hl' : r'.length = sz := by
        rcases List.mem_or_eq_of_mem_set this with h | h
        · exact h3 r' h
        · rw [h]; simpa using hrl
      rcases Nat.lt_or_ge j' sz with h | h
      · exact h
      · rw [List.getElem?_eq_none (by omega)] at hu'; cases hu'
    by_cases hii : i = i'
    · subst hii
      rw [List.getElem?_set_self hil] at hr'
      cases hr'
      by_cases hjj : j = j'
      · subst hjj
        rw [List.getElem?_set_self (by omega)] at hu'
        cases hu'
        have : cur[i * sz + j]? = some (r[j]'(by omega)) := h2 i j r _ hr (List.getElem?_eq_getElem (by omega))
        rw [Array.getElem?_setIfInBounds_self_of_lt]
        rcases Nat.lt_or_ge (i * sz + j) cur.size with h | h
        · exact h
        · rw [Array.getElem?_eq_none h] at this; cases this
      · rw [List.getElem?_set_ne hjj] at hu'
        rw [Array.getElem?_setIfInBounds_ne (by omega)]
        exact h2 i j' r u' hr hu'
    · rw [List.getElem?_set_ne hii] at hr'
      rw [Array.getElem?_setIfInBounds_ne (fun e => hii (idx3 hj hj' e).1)]
      exact h2 i' j' r' u' hr' hu'
  · rcases List.mem_or_eq_of_mem_set hr' with h | h
    · exact h3 r' h
    · rw [h]; simpa using hrl

/-- A row of three is stored. -/
theorem RowsBlk.set3 {w : World} {g e : Nat} {rows : List (List Value)} (h : RowsBlk w g e 3 rows) {i : Nat} (hi : i < rows.length) (a b c : Value) :
    RowsBlk (((w.setCell ⟨g, i * 3, none⟩ a).setCell ⟨g, i * 3 + 1, none⟩ b).setCell ⟨g, i * 3 + 2, none⟩ c) g e 3 (rows.set i [a, b, c]) := by
  have hr : rows[i]? = some (rows[i]'hi) := List.getElem?_eq_getElem hi
  have hl : (rows[i]'hi).length = 3 := h.choose_spec.2.2 _ (List.getElem_mem hi)
  obtain ⟨x, y, z, hxyz⟩ : ∃ x y z, rows[i]'hi = [x, y, z] := by
    match h : rows[i]'hi, hl with
    | [x, y, z], _ => exact ⟨x, y, z, rfl⟩
  rw [hxyz] at hr
  have s1 := h.set_ hr (j := 0) (by omega) a
  have s2 := s1.set_ (i := i) (r := [a, y, z]) (by rw [List.getElem?_set_self hi]; rfl) (j := 1) (by omega) b
  have s3 := s2.set_ (i := i) (r := [a, b, z]) (by rw [List.getElem?_set_self (by simpa using hi)]; rfl) (j := 2) (by omega) c
  simpa using s3

/-- While a row of three is stored its cells are there. -/
theorem RowsBlk.mid3 {w : World} {g e : Nat} {rows : List (List Value)} (h : RowsBlk w g e 3 rows) {i : Nat} (hi : i < rows.length) (a b : Value) :
    (∃ u, w.cell? ⟨g, i * 3, none⟩ = some u) ∧ (∃ u, (w.setCell ⟨g, i * 3, none⟩ a).cell? ⟨g, i * 3 + 1, none⟩ = some u) ∧ (∃ u, ((w.setCell ⟨g, i * 3, none⟩ a).setCell ⟨g, i * 3 + 1, none⟩ b).cell? ⟨g, i * 3 + 2, none⟩ = some u) := by
  have hr : rows[i]? = some (rows[i]'hi) := List.getElem?_eq_getElem hi
  have hl : (rows[i]'hi).length = 3 := h.choose_spec.2.2 _ (List.getElem_mem hi)
  obtain ⟨x, y, z, hxyz⟩ : ∃ x y z, rows[i]'hi = [x, y, z] := by
    match h : rows[i]'hi, hl with
    | [x, y, z], _ => exact ⟨x, y, z, rfl⟩
  rw [hxyz] at hr
  have s1 := h.set_ hr (j := 0) (by omega) a
  have s2 := s1.set_ (i := i) (r := [a, y, z]) (by rw [List.getElem?_set_self hi]; rfl) (j := 1) (by omega) b
  exact ⟨⟨_, by simpa using h.cell hr (j := 0) (by rfl)⟩, ⟨_, s1.cell (i := i) (r := [a, y, z]) (by rw [List.getElem?_set_self hi]; rfl) (j := 1) (by rfl)⟩,
    ⟨_, s2.cell (i := i) (r := [a, b, z]) (by rw [List.getElem?_set_self (by simpa using hi)]; rfl) (j := 2) (by rfl)⟩⟩

/-- A row that the call owns, as a block of rows. -/
theorem rowsBlk_of_own {w : World} {base e sz n : Nat} {v : Value} {rows : List (List Value)} (h : w.ownsRow base e sz v n rows.flatten) (hsz : ∀ r ∈ rows, r.length = sz) (hpos : 0 < n) :
    ∃ g cap, v = .slice (some ⟨g, 0, none⟩) n cap ∧ base ≤ g ∧ n ≤ cap ∧ RowsBlk w g e sz rows := by
  rcases h.2 with ⟨_, h0⟩ | ⟨g, cap, cur, hv, hg, hh, hnc, hcm, hcs, htk⟩
  · omega
  · refine ⟨g, cap, hv, hg, hnc, cur, hh, fun i j r u hr hu => ?_, hsz⟩
    have key : ∀ (rows : List (List Value)) (i : Nat), (∀ r ∈ rows, r.length = sz) → rows[i]? = some r → rows.flatten[i * sz + j]? = some u := by
      intro rows
      induction rows with
      | nil => intro i _ h; simp at h
      | cons q qs ih =>
        intro i hq hi
        have hql := hq q (List.mem_cons_self ..)
        have hjs : j < sz := by
          have hrl := hq r (List.mem_of_getElem? hi)
          rcases Nat.lt_or_ge j sz with h | h
          · exact h
          · rw [List.getElem?_eq_none (by omega)] at hu; cases hu
        cases i with
        | zero =>
          simp at hi
          subst hi
          rw [List.flatten_cons, List.getElem?_append_left (by omega)]
          simpa using hu
        | succ i =>
          rw [List.flatten_cons, List.getElem?_append_right (by rw [hql, Nat.succ_mul]; omega), hql]
          have : (i + 1) * sz + j - sz = i * sz + j := by rw [Nat.succ_mul]; omega
          rw [this]
          exact ih i (fun r hr => hq r (List.mem_cons_of_mem _ hr)) (by simpa using hi)
    have hk := key rows i hsz hr
    rw [← htk, List.getElem?_take] at hk
    split at hk
    · simpa using hk
    · cases hk

end Go.Proofs.YtjbabpnepjhllaaGreat
