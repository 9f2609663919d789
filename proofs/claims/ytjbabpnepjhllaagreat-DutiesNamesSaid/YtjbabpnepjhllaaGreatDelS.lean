/- slices.DeleteFunc, of ints and of facts, in a row of one's own. -/
import Derived.Test.YtjbabpnepjhllaaGreatClone21
import Derived.Test.YtjbabpnepjhllaaGreatAfterB
namespace Go.Proofs.YtjbabpnepjhllaaGreat
open Go.RowKit

theorem first_cases (q : Nat → Bool) (n : Nat) : (firstIn q n 0 = -1 ∧ ∀ k, k < n → q k = false) ∨ ∃ k, k < n ∧ firstIn q n 0 = (k : Int) ∧ q k = true ∧ ∀ j, j < k → q j = false := by
  have key : ∀ m k, m + k = n → (firstIn q n k = -1 ∧ ∀ j, k ≤ j → j < n → q j = false) ∨ ∃ i, k ≤ i ∧ i < n ∧ firstIn q n k = (i : Int) ∧ q i = true ∧ ∀ j, k ≤ j → j < i → q j = false := by
    intro m
    induction m with
    | zero => intro k h; have : k = n := by omega
              subst this; exact .inl ⟨firstIn_end, fun j h1 h2 => by omega⟩
    | succ m ih =>
      intro k h
      cases hq : q k
      · rw [firstIn_no (by omega) hq]
        rcases ih (k + 1) (by omega) with ⟨h1, h2⟩ | ⟨i, h1, h2, h3, h4, h5⟩
        · exact .inl ⟨h1, fun j h3 h4 => by
            by_cases e : j = k
            · subst e; exact hq
            · exact h2 j (by omega) h4⟩
        · exact .inr ⟨i, by omega, h2, h3, h4, fun j h6 h7 => by
            by_cases e : j = k
            · subst e; exact hq
            · exact h5 j (by omega) h7⟩
      · exact .inr ⟨k, Nat.le_refl _, by omega, firstIn_yes (by omega) hq, hq, fun j h1 h2 => by omega⟩
  rcases key n 0 rfl with ⟨h1, h2⟩ | ⟨i, _, h2, h3, h4, h5⟩
  · exact .inl ⟨h1, fun k hk => h2 k (Nat.zero_le _) hk⟩
  · exact .inr ⟨i, h2, h3, h4, fun j hj => h5 j (Nat.zero_le _) hj⟩
theorem own_next {w w' : World} {base e sz n : Nat} {v : Value} {xs : List Value} (h : w.ownsRow base e sz v n xs) (hb : Below w.heap.size w w') : w'.ownsRow base e sz v n xs := h.kept (grownBy_of_below hb) (by cases hh : v.ownBlock <;> simp)
theorem chg_next {F : Nat → Prop} {w0 w w' : World} (h : Chg F w0 w) (hb : Below w.heap.size w w') : Chg F w0 w' :=
  ⟨hb.os.trans h.os, hb.tape.trans h.tape, hb.output.trans h.output, Nat.le_trans h.size hb.size, fun k hk hn => (hb.block k (Nat.lt_of_lt_of_le hk h.size)).trans (h.block k hk hn)⟩
theorem mid_own {w : World} {base e sz n : Nat} {g c : Nat} {xs : List Value} (h : w.ownsRow base e sz (.slice (some ⟨g, 0, none⟩) n c) n xs) {k : Nat} (hk : k + 3 ≤ xs.length) (a b : Value) :
    (∃ u, w.cell? ⟨g, k, none⟩ = some u) ∧ (∃ u, (w.setCell ⟨g, k, none⟩ a).cell? ⟨g, k + 1, none⟩ = some u) ∧ (∃ u, ((w.setCell ⟨g, k, none⟩ a).setCell ⟨g, k + 1, none⟩ b).cell? ⟨g, k + 2, none⟩ = some u) := by
  have s0 := own_set h k a
  have s1 := own_set s0 (k + 1) b
  exact ⟨⟨_, own_cell h (List.getElem?_eq_getElem (by omega))⟩, ⟨_, own_cell s0 (List.getElem?_eq_getElem (by rw [List.length_set]; omega))⟩, ⟨_, own_cell s1 (List.getElem?_eq_getElem (by rw [List.length_set, List.length_set]; omega))⟩⟩
/-- What DeleteFunc answers. -/
def DelSays (base ty sz : Nat) (m : Nat) (cells : List Value) (gb c : Nat) (w : World) (e : Ending) (w' : World) : Prop := e = .returned (.slice (some ⟨gb, 0, none⟩) m c) ∧ w'.ownsRow base ty sz (.slice (some ⟨gb, 0, none⟩) m c) m cells ∧ Chg (fun k => k = gb) w w'
/-- How far it has come: what is kept of the first j elements stands ahead. -/
structure DelR {T : Type} (l : List T) (p : T → Bool) (i j : Nat) (ys : List T) : Prop where
  len : ys.length = l.length
  lo : ys.take i = (l.take j).filter fun x => !p x
  hi : ys.drop j = l.drop j
  lt : i < j
  le : j ≤ l.length
theorem filter_all {T : Type} {l : List T} {p : T → Bool} (h : ∀ x ∈ l, p x = false) : l.filter (fun x => !p x) = l := List.filter_eq_self.2 fun x hx => by rw [h x hx]; rfl
theorem DelR.start {T : Type} {l : List T} {p : T → Bool} {k : Nat} (hk : k < l.length) (h1 : p l[k] = true) (h2 : ∀ j (hj : j < l.length), j < k → p l[j] = false) : DelR l p k (k + 1) l := by
  refine ⟨rfl, ?_, rfl, by omega, by omega⟩
  rw [List.take_add_one, List.getElem?_eq_getElem hk, List.filter_append, show (Option.toList (some l[k])).filter (fun x => !p x) = [] by simp [h1], List.append_nil]
  refine (filter_all fun x hx => ?_).symm
  obtain ⟨j, hj, rfl⟩ := List.getElem_of_mem hx
  rw [List.getElem_take]
  rw [List.length_take] at hj
  exact h2 j (by omega) (by omega)
theorem take_snoc {T : Type} {l : List T} {j : Nat} {x : T} (h : l[j]? = some x) (p : T → Bool) : (l.take (j + 1)).filter (fun x => !p x) = (l.take j).filter (fun x => !p x) ++ if p x then [] else [x] := by
  rw [List.take_add_one, h, List.filter_append]
  cases hp : p x <;> simp [hp]
theorem DelR.keep {T : Type} {l : List T} {p : T → Bool} {i j : Nat} {ys : List T} (h : DelR l p i j ys) {x : T} (hx : l[j]? = some x) (hp : p x = false) : DelR l p (i + 1) (j + 1) (ys.set i x) := by
  have hj : j < l.length := (List.getElem?_eq_some_iff.1 hx).1
  have h1 := h.lt
  have h2 := h.len
  refine ⟨by rw [List.length_set]; exact h.len, ?_, ?_, by omega, by omega⟩
  · rw [take_snoc hx, hp, ← h.lo, List.take_add_one, List.getElem?_set_self (by omega), List.take_set_of_le (Nat.le_refl _)]
    rfl
  · rw [List.drop_set_of_lt (by omega), ← List.drop_drop, h.hi, List.drop_drop]
theorem DelR.skip {T : Type} {l : List T} {p : T → Bool} {i j : Nat} {ys : List T} (h : DelR l p i j ys) {x : T} (hx : l[j]? = some x) (hp : p x = true) : DelR l p i (j + 1) ys := by
  have hj : j < l.length := (List.getElem?_eq_some_iff.1 hx).1
  have h1 := h.lt
  refine ⟨h.len, ?_, ?_, by omega, by omega⟩
  · rw [take_snoc hx, hp, h.lo]; simp
  · rw [← List.drop_drop, h.hi, List.drop_drop]
theorem DelR.at_ {T : Type} {l : List T} {p : T → Bool} {i j : Nat} {ys : List T} (h : DelR l p i j ys) {x : T} (hx : l[j]? = some x) : ys[j]? = some x := by
  have h1 := congrArg (fun l => l[0]?) h.hi
  simpa [List.getElem?_drop, hx] using h1
theorem DelR.done {T : Type} {l : List T} {p : T → Bool} {i j : Nat} {ys : List T} (h : DelR l p i j ys) (hj : j = l.length) : ys.take i = l.filter (fun x => !p x) ∧ i = (l.filter fun x => !p x).length := by
  have h1 := h.lo
  rw [hj, List.take_length] at h1
  refine ⟨h1, ?_⟩
  have := congrArg List.length h1
  rw [List.length_take, h.len] at this
  have := h.lt
  omega
theorem intV_take (l : List Int) (i : Nat) : (intV l).take (i * 1) = intV (l.take i) := by rw [Nat.mul_one]; simp [intV, List.map_take]
theorem cellsF_take : ∀ (l : List Fct) (i : Nat), (cellsOfF l).take (i * 3) = cellsOfF (l.take i)
  | [], i => by simp [cellsOfF]
  | x :: l, 0 => by simp [cellsOfF]
  | x :: l, i + 1 => by
    rw [List.take_succ_cons, ← flat_facts, ← flat_facts, List.map_cons, List.map_cons, List.flatten_cons, List.flatten_cons, flat_facts, flat_facts, show (i + 1) * 3 = (factRow x).length + i * 3 by rw [Nat.succ_mul]; show _ = 3 + i * 3; omega, List.take_length_add_append, cellsF_take l i]
theorem intV_set (l : List Int) (i : Nat) (x : Int) : setAll (intV l) i [.int .i64 x] = intV (l.set i x) := by simp [setAll, intV, List.map_set]
theorem cellsF_set (l : List Fct) (i : Nat) (x : Fct) (h : i < l.length) : setAll (cellsOfF l) (i * 3) (factRow x) = cellsOfF (l.set i x) := by
  rw [← flat_facts, ← flat_facts, List.map_set]
  exact flat_set (l.map factRow) i (factRow x) (fun q hq => by obtain ⟨y, _, rfl⟩ := List.mem_map.1 hq; rfl) rfl (by simpa using h)
theorem intV_len1 (l : List Int) : (intV l).length = l.length * 1 := by simp [intV]
theorem zeroI : ∀ w, (zeroValue 3).run Tryz.prog w = .ok (.int .i64 0) w := by
  obtain ⟨i0, hi, hz0, _, _⟩ := info_parts infoI
  intro w
  simp [zeroValue, typeInfo, hi, hz0]
theorem zeroF : ∀ w, (zeroValue 45).run Tryz.prog w = .ok (.agg #[.int .i64 0, .int .i64 0, .int .i64 0]) w := by
  obtain ⟨i0, hi, hz0, _, _⟩ := info_parts infoFact
  intro w
  simp [zeroValue, typeInfo, hi, hz0]
set_option maxRecDepth 100000 in
set_option maxHeartbeats 4000000 in
theorem DelS_Int (g : Nat) (cb : Array Value) (gb c n base : Nat) (l : List Int) (p : Int → Bool) (w : World) (eg : ∀ args w, (callFunc g args).run Tryz.prog w = .ok (.enter g args) w) (hn : l.length = n) (hn2 : n ≤ 100000)
    (hown : w.ownsRow base 3 1 (.slice (some ⟨gb, 0, none⟩) n c) n (intV l))
    (hp : ∀ x ∈ l, ∀ wr, Chg (fun k => k = gb) w wr → Calls Tryz.prog g (#[.int .i64 x] ++ cb) wr fun e w' => e = .returned (.bool (p x)) ∧ Below wr.heap.size wr w') :
    Calls Tryz.prog 92 #[.slice (some ⟨gb, 0, none⟩) n c, .func (.func g) #[] cb] w (DelSays base 3 1 (l.filter fun x => !p x).length (intV (l.filter fun x => !p x)) gb c w) := by
  have HIF := Lib.hid (IndexFunc_Int (.slice (some ⟨gb, 0, none⟩) n c) g cb w _ l p (by omega) eg (nums_own (base := base) (by rw [hn]; exact hown)) (fun k hk => (own_lt hown k hk).1) (fun x hx wr hb => hp x hx wr (Chg.of_below hb)))
  have hnc : n ≤ c := by obtain ⟨_, _, _, _, h, _⟩ := own_blk hown; exact h
  have HOWN := Lib.hid hown
  have HP := Lib.hid hp
  have HNL := Lib.hid hn
  have hgl := (own_lt hown gb rfl).1
  have HGLW := Lib.hid hgl
  obtain ⟨q, hq⟩ : ∃ q, firstIn (fun k => p (l.getD k 0)) l.length 0 = q := ⟨_, rfl⟩
  have hfc := first_cases (fun k => p (l.getD k 0)) l.length
  rw [hq] at HIF hfc
  clear hown hp hgl hq
  rcases hfc with ⟨rfl, hall⟩ | ⟨k0, hk0, rfl, ht, hall⟩
  · have hfl : l.filter (fun x => !p x) = l := filter_all fun x hx => by
      obtain ⟨j, hj, rfl⟩ := List.getElem_of_mem hx
      simpa [List.getD, hj] using hall j hj
    have HFL := Lib.hid hfl
    clear hall hfl
    go_enter Tryz.func92, Tryz.ntmps92
    go_wp2_with (first | ((with_reducible refine HIF.out.mono ?_); rintro e w1 ⟨rfl, hb1⟩) | go_in)
    go_ret
    unfold DelSays
    rw [HFL.out, HNL.out]
    exact ⟨rfl, own_next HOWN.out hb1, Chg.of_below hb1⟩
  have hst : DelR l p k0 (k0 + 1) l := DelR.start hk0 (by simpa [List.getD, hk0] using ht) (fun j hj h => by simpa [List.getD, hj] using hall j h)
  have HST := Lib.hid hst
  have hne1 : ((k0 : Int) == -1) = false := beq_eq_false_iff_ne.2 (by omega)
  clear hst hall ht
  go_enter Tryz.func92, Tryz.ntmps92
  go_wp2_with (first | ((with_reducible refine HIF.out.mono ?_); rintro e w0 ⟨rfl, hb0⟩; have HB0 := Lib.hid hb0; clear hb0) | go_in)
  go_loopw [5, 6, 7] (fun s5 s6 _ wr => ∃ (i j : Nat) (ys : List Int), s5 = .int .i64 i ∧ s6 = .int .i64 j ∧ DelR l p i j ys ∧ wr.ownsRow base 3 1 (.slice (some ⟨gb, 0, none⟩) n c) n (intV ys) ∧ Chg (fun k => k = gb) w wr) (fun _ s6 _ _ => n - (intOf s6).toNat)
  case atStart => exact ⟨k0, k0 + 1, l, rfl, by go_num, HST.out, HOWN.out.kept (grownBy_of_below HB0.out) (by cases hh : (Value.slice (some ⟨gb, 0, none⟩) n c).ownBlock <;> simp), Chg.of_below HB0.out⟩
  case round =>
    obtain ⟨i, j, ys, rfl, rfl, hd, ho, hch⟩ := hrel
    have hij := hd.lt
    have hjn : j ≤ n := by have := hd.le; have := HNL.out; omega
    have HD := Lib.hid hd
    have HO := Lib.hid ho
    have HCH := Lib.hid hch
    by_cases hlt : j < n
    · have hltz : (j : Int) < (n : Int) := by omega
      obtain ⟨x, hx⟩ : ∃ x, l[j]? = some x := ⟨_, List.getElem?_eq_getElem (by have := HNL.out; omega)⟩
      have g0 : wr.cell? ⟨gb, j, none⟩ = some (.int .i64 x) := own_cell ho (by rw [intV, List.getElem?_map, hd.at_ hx]; rfl)
      obtain ⟨y, hy⟩ : ∃ y, ys[i]? = some y := ⟨_, List.getElem?_eq_getElem (by have := hd.lt; have := hd.le; have := hd.len; omega)⟩
      have gi : wr.cell? ⟨gb, i, none⟩ = some (.int .i64 y) := own_cell ho (by rw [intV, List.getElem?_map, hy]; rfl)
      clear hy
      have zi : wr.frozen? ⟨gb, i, none⟩ = false := own_frozen ho _
      have HTH := Lib.hid hd
      have HX := Lib.hid hx
      have HC := Lib.hid (HP.out x (List.mem_of_getElem? hx) wr hch)
      have HGL := Lib.hid (show gb < wr.heap.size by have := hch.size; have := HGLW.out; omega)
      clear hd ho hch hx
      have HBX := Lib.hid (show True from trivial)
      cases hpx : p x
      · rw [hpx] at HC
        have HPX := Lib.hid hpx
        clear hpx
        go_wp2_with (first | ((with_reducible refine HC.out.mono ?_); rintro e w1 ⟨rfl, hb1⟩; have gi' := (hb1.cell (p := ⟨gb, i, none⟩) HGL.out).trans gi; have HO1 := Lib.hid (own_next HO.out hb1); have zi' : w1.frozen? ⟨gb, i, none⟩ = false := own_frozen HO1.out _; have HB1 := Lib.hid hb1; clear hb1) | go_in)
        go_roundw
        case rel =>
          refine ⟨i + 1, j + 1, ys.set i x, by go_num, by go_num, HD.out.keep HX.out HPX.out, ?_, ?_⟩
          · rw [← intV_set]; exact own_setCells [.int .i64 x] i _ _ HO1.out
          · have h1 := chg_setCells (F := fun k => k = gb) rfl [.int .i64 x] i _ (chg_next HCH.out HB1.out)
            exact h1
        case measure => simp [intOf]; omega
      · rw [hpx] at HC
        have HPX := Lib.hid hpx
        clear hpx
        go_wp2_with (first | ((with_reducible refine HC.out.mono ?_); rintro e w1 ⟨rfl, hb1⟩) | go_in)
        go_roundw
        case rel => exact ⟨i, j + 1, ys, rfl, by go_num, HD.out.skip HX.out HPX.out, own_next HO.out hb1, chg_next HCH.out hb1⟩
        case measure => simp [intOf]; omega
    · obtain rfl : j = n := by omega
      have hltz : ¬ (j : Int) < (j : Int) := by omega
      have hlen := HO.out.1
      obtain ⟨vs, hcl⟩ := run_clear_row (P := Tryz.prog) wr 50 3 (.int .i64 0) Tryz.underlying50 zeroI (by simp [Value.cells, Value.oneCell']) gb (i * 1) (j - i) (c - i) (by omega) (own_there ho (by rw [hlen]; simp only [Value.cells]; show i * 1 + (j - i) * 1 ≤ j * 1; omega))
      clear hd ho hch hlen
      rw [Nat.mul_one] at hcl
      go_wp2
      go_ret
      obtain ⟨e1, e2⟩ := HD.out.done HNL.out.symm
      unfold DelSays
      rw [← e2]
      refine ⟨rfl, ?_, chg_setCells (F := fun k => k = gb) rfl vs _ _ HCH.out⟩
      have h1 := own_cut (own_setCells vs (i * 1) _ _ HO.out) (m := i) (by omega)
      rw [setAll_take _ _ _ (Nat.le_refl _), intV_take, e1] at h1
      rw [Nat.mul_one] at h1
      exact h1
set_option maxRecDepth 100000 in
set_option maxHeartbeats 4000000 in
theorem DelS_Fct (g : Nat) (cb : Array Value) (gb c n base : Nat) (l : List Fct) (p : Fct → Bool) (w : World) (eg : ∀ args w, (callFunc g args).run Tryz.prog w = .ok (.enter g args) w) (hn : l.length = n) (hn2 : n ≤ 100000)
    (hown : w.ownsRow base 45 3 (.slice (some ⟨gb, 0, none⟩) n c) n (cellsOfF l))
    (hp : ∀ x ∈ l, ∀ wr, Chg (fun k => k = gb) w wr → Calls Tryz.prog g (#[.agg #[.int .i64 x.kind, .int .i64 x.a, .int .i64 x.b]] ++ cb) wr fun e w' => e = .returned (.bool (p x)) ∧ Below wr.heap.size wr w') :
    Calls Tryz.prog 107 #[.slice (some ⟨gb, 0, none⟩) n c, .func (.func g) #[] cb] w (DelSays base 45 3 (l.filter fun x => !p x).length (cellsOfF (l.filter fun x => !p x)) gb c w) := by
  have HIF := Lib.hid (IndexFunc_Fct (.slice (some ⟨gb, 0, none⟩) n c) g cb w _ l p (by omega) eg (facts_own (base := base) (by rw [hn]; exact hown)) (fun k hk => (own_lt hown k hk).1) (fun x hx wr hb => hp x hx wr (Chg.of_below hb)))
  have hnc : n ≤ c := by obtain ⟨_, _, _, _, h, _⟩ := own_blk hown; exact h
  have HOWN := Lib.hid hown
  have HP := Lib.hid hp
  have HNL := Lib.hid hn
  have hgl := (own_lt hown gb rfl).1
  have HGLW := Lib.hid hgl
  obtain ⟨q, hq⟩ : ∃ q, firstIn (fun k => p (l.getD k ⟨0, 0, 0⟩)) l.length 0 = q := ⟨_, rfl⟩
  have hfc := first_cases (fun k => p (l.getD k ⟨0, 0, 0⟩)) l.length
  rw [hq] at HIF hfc
  clear hown hp hgl hq
  rcases hfc with ⟨rfl, hall⟩ | ⟨k0, hk0, rfl, ht, hall⟩
  · have hfl : l.filter (fun x => !p x) = l := filter_all fun x hx => by
      obtain ⟨j, hj, rfl⟩ := List.getElem_of_mem hx
      simpa [List.getD, hj] using hall j hj
    have HFL := Lib.hid hfl
    clear hall hfl
    go_enter Tryz.func107, Tryz.ntmps107
    go_wp2_with (first | ((with_reducible refine HIF.out.mono ?_); rintro e w1 ⟨rfl, hb1⟩) | go_in)
    go_ret
    unfold DelSays
    rw [HFL.out, HNL.out]
    exact ⟨rfl, own_next HOWN.out hb1, Chg.of_below hb1⟩
  have hst : DelR l p k0 (k0 + 1) l := DelR.start hk0 (by simpa [List.getD, hk0] using ht) (fun j hj h => by simpa [List.getD, hj] using hall j h)
  have HST := Lib.hid hst
  have hne1 : ((k0 : Int) == -1) = false := beq_eq_false_iff_ne.2 (by omega)
  clear hst hall ht
  go_enter Tryz.func107, Tryz.ntmps107
  go_wp2_with (first | ((with_reducible refine HIF.out.mono ?_); rintro e w0 ⟨rfl, hb0⟩; have HB0 := Lib.hid hb0; clear hb0) | go_in)
  go_loopw [5, 6, 7] (fun s5 s6 _ wr => ∃ (i j : Nat) (ys : List Fct), s5 = .int .i64 i ∧ s6 = .int .i64 j ∧ DelR l p i j ys ∧ wr.ownsRow base 45 3 (.slice (some ⟨gb, 0, none⟩) n c) n (cellsOfF ys) ∧ Chg (fun k => k = gb) w wr) (fun _ s6 _ _ => n - (intOf s6).toNat)
  case atStart => exact ⟨k0, k0 + 1, l, rfl, by go_num, HST.out, HOWN.out.kept (grownBy_of_below HB0.out) (by cases hh : (Value.slice (some ⟨gb, 0, none⟩) n c).ownBlock <;> simp), Chg.of_below HB0.out⟩
  case round =>
    obtain ⟨i, j, ys, rfl, rfl, hd, ho, hch⟩ := hrel
    have hij := hd.lt
    have hjn : j ≤ n := by have := hd.le; have := HNL.out; omega
    have HD := Lib.hid hd
    have HO := Lib.hid ho
    have HCH := Lib.hid hch
    by_cases hlt : j < n
    · have hltz : (j : Int) < (n : Int) := by omega
      obtain ⟨x, hx⟩ : ∃ x, l[j]? = some x := ⟨_, List.getElem?_eq_getElem (by have := HNL.out; omega)⟩
      obtain ⟨_, _, hA, _, f0, f1, f2⟩ := FactsAt.at_ (facts_own (by rw [hd.len, HNL.out]; exact ho)) (hd.at_ hx)
      cases hA
      rw [Nat.zero_add] at f0 f1 f2
      have HTH := Lib.hid (own_there ho (k := i * 3) (m := 3) (by rw [cellsF_len]; have := hd.lt; have := hd.le; have := hd.len; omega))
      have HX := Lib.hid hx
      have HC := Lib.hid (HP.out x (List.mem_of_getElem? hx) wr hch)
      have HGL := Lib.hid (show gb < wr.heap.size by have := hch.size; have := HGLW.out; omega)
      clear hd ho hch hx
      go_upto_region 8 with (first | go_in)
      obtain ⟨WA, hWA⟩ : ∃ WA, wr.alloc (.cells #[.int .i64 x.kind, .int .i64 x.a, .int .i64 x.b] 45) = WA := ⟨_, rfl⟩
      rw [hWA]
      have hba : Below wr.heap.size wr WA := by rw [← hWA]; exact (Below.refl _ _).alloc (Nat.le_refl _) _
      have hblk : WA.heap[wr.heap.size]? = some (.cells #[.int .i64 x.kind, .int .i64 x.a, .int .i64 x.b] 45 (0, 0)) := by rw [← hWA]; exact heap_alloc_new wr _
      have HBLK := Lib.hid hblk
      have HO := Lib.hid (own_next HO.out hba)
      have HC := Lib.hid (HP.out x (List.mem_of_getElem? HX.out) WA (chg_next HCH.out hba))
      have HCH := Lib.hid (chg_next HCH.out hba)
      have HQ := Lib.hid (lt_of_block hblk)
      obtain ⟨q, hq⟩ : ∃ q, wr.heap.size = q := ⟨_, rfl⟩
      rw [hq] at HBLK HQ ⊢
      clear hWA hba hblk hq f0 f1 f2
      cases hpx : p x
      · rw [hpx] at HC
        have HPX := Lib.hid hpx
        clear hpx
        have q0 : WA.cell? ⟨q, 0, none⟩ = some (.int .i64 x.kind) := by simp [World.cell?, HBLK.out]
        have q1 : WA.cell? ⟨q, 1, none⟩ = some (.int .i64 x.a) := by simp [World.cell?, HBLK.out]
        have q2 : WA.cell? ⟨q, 2, none⟩ = some (.int .i64 x.b) := by simp [World.cell?, HBLK.out]
        go_wp2_with (first | ((with_reducible refine HC.out.mono ?_); rintro e w1 ⟨rfl, hb1⟩; have g0 := (hb1.cell (p := ⟨q, 0, none⟩) HQ.out).trans q0; have g1 := (hb1.cell (p := ⟨q, 1, none⟩) HQ.out).trans q1; have g2 := (hb1.cell (p := ⟨q, 2, none⟩) HQ.out).trans q2; have HO1 := Lib.hid (own_next HO.out hb1); have s0 := own_set HO1.out (i * 3) (.int .i64 x.kind); have s1 := own_set s0 (i * 3 + 1) (.int .i64 x.a); obtain ⟨⟨y0, t0⟩, ⟨y1, t1⟩, ⟨y2, t2⟩⟩ := mid_own HO1.out (k := i * 3) (by rw [cellsF_len]; have := HD.out.lt; have := HD.out.le; have := HD.out.len; omega) (.int .i64 x.kind) (.int .i64 x.a); have z0 := own_frozen HO1.out (i * 3); have z1 := own_frozen s0 (i * 3 + 1); have z2 := own_frozen s1 (i * 3 + 2); clear s0 s1; have HB1 := Lib.hid hb1; clear hb1) | go_in)
        go_roundw
        case rel =>
          refine ⟨i + 1, j + 1, ys.set i x, by go_num, by go_num, HD.out.keep HX.out HPX.out, ?_, ?_⟩
          · rw [← cellsF_set ys i x (by have := HD.out.lt; have := HD.out.le; have := HD.out.len; omega)]; exact own_setCells (factRow x) (i * 3) _ _ HO1.out
          · exact chg_setCells (F := fun k => k = gb) rfl (factRow x) (i * 3) _ (chg_next HCH.out HB1.out)
        case measure => simp [intOf]; omega
      · rw [hpx] at HC
        have HPX := Lib.hid hpx
        clear hpx
        have q0 : WA.cell? ⟨q, 0, none⟩ = some (.int .i64 x.kind) := by simp [World.cell?, HBLK.out]
        have q1 : WA.cell? ⟨q, 1, none⟩ = some (.int .i64 x.a) := by simp [World.cell?, HBLK.out]
        have q2 : WA.cell? ⟨q, 2, none⟩ = some (.int .i64 x.b) := by simp [World.cell?, HBLK.out]
        go_wp2_with (first | ((with_reducible refine HC.out.mono ?_); rintro e w1 ⟨rfl, hb1⟩) | go_in)
        go_roundw
        case rel => exact ⟨i, j + 1, ys, rfl, by go_num, HD.out.skip HX.out HPX.out, own_next HO.out hb1, chg_next HCH.out hb1⟩
        case measure => simp [intOf]; omega
    · obtain rfl : j = n := by omega
      have hltz : ¬ (j : Int) < (j : Int) := by omega
      have hlen := HO.out.1
      obtain ⟨vs, hcl⟩ := run_clear_row (P := Tryz.prog) wr 39 45 (.agg #[.int .i64 0, .int .i64 0, .int .i64 0]) Tryz.underlying39 zeroF (by simp [Value.cells, Value.oneCell']) gb (i * 3) (j - i) (c - i) (by omega) (own_there ho (by rw [hlen]; simp only [Value.cells]; show i * 3 + (j - i) * 3 ≤ j * 3; omega))
      clear hd ho hch hlen
      have hcl' := hcl
      go_wp2
      go_ret
      obtain ⟨e1, e2⟩ := HD.out.done HNL.out.symm
      unfold DelSays
      rw [← e2]
      refine ⟨rfl, ?_, chg_setCells (F := fun k => k = gb) rfl vs _ _ HCH.out⟩
      have h1 := own_cut (own_setCells vs (i * 3) _ _ HO.out) (m := i) (by omega)
      rw [setAll_take _ _ _ (Nat.le_refl _), cellsF_take, e1] at h1
      have h2 := h1
      exact h1
end Go.Proofs.YtjbabpnepjhllaaGreat
