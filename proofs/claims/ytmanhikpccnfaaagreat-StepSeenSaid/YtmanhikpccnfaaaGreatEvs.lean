/- Rows of events, held against each other. -/
import Derived.Test.YtmanhikpccnfaaaGreatStepAt
import Derived.Maps.AppendAt
import Derived.Deep.DeepCutAuto
import Derived.Outline
namespace Go.Proofs.YtmanhikpccnfaaaGreat
open Go.RowKit

def evEq (a b : Ev) : Bool := a.kind == b.kind && a.addr == b.addr
def sameE (a b : List Ev) : Bool := a.length == b.length && (a.zip b).all fun x => evEq x.1 x.2
theorem evEq_iff (a b : Ev) : evEq a b = true ↔ a = b := by
  cases a; cases b
  simp [evEq]
theorem sameE_iff (a b : List Ev) : sameE a b = true ↔ a = b := by
  induction a generalizing b with
  | nil => cases b <;> simp [sameE]
  | cons x a ih =>
    cases b with
    | nil => simp [sameE]
    | cons y b =>
      have := ih b
      simp only [sameE, Bool.and_eq_true, beq_iff_eq, List.length_cons, List.zip_cons_cons, List.all_cons, evEq_iff] at this ⊢
      constructor
      · rintro ⟨h1, rfl, h2⟩; rw [this.1 ⟨by omega, h2⟩]
      · intro h; injection h with h1 h2; subst h1; exact ⟨by rw [h2], rfl, (this.2 h2).2⟩
theorem sameE_len {a b : List Ev} (h : a.length ≠ b.length) : sameE a b = false := by
  cases hs : sameE a b
  · rfl
  · exact absurd (congrArg List.length ((sameE_iff a b).1 hs)) h
theorem sameE_no {a b : List Ev} {k : Nat} {x y : Ev} (h1 : a[k]? = some x) (h2 : b[k]? = some y) (h : x ≠ y) : sameE a b = false := by
  cases hs : sameE a b
  · rfl
  · have := (sameE_iff a b).1 hs
    subst this
    rw [h1] at h2
    cases h2
    exact absurd rfl h
theorem sameE_yes {a b : List Ev} (hl : a.length = b.length) (h : ∀ (j : Nat) (x y : Ev), j < a.length → a[j]? = some x → b[j]? = some y → x = y) : sameE a b = true := by
  rw [sameE_iff]
  refine List.ext_getElem hl fun j h1 h2 => ?_
  exact h j _ _ h1 (List.getElem?_eq_getElem h1) (List.getElem?_eq_getElem h2)
theorem sameE_self (a : List Ev) : sameE a a = true := (sameE_iff a a).2 rfl

/-- A slice of events. -/
def EvsAt (w : World) (F : Nat → Prop) (v : Value) (l : List Ev) : Prop := Rows w F 2 v (l.map evRow)
theorem EvsAt.keep {w w' : World} {F : Nat → Prop} {v : Value} {l : List Ev} (h : EvsAt w F v l) (hk : SameOn F w w') : EvsAt w' F v l := Rows.keep h hk
theorem EvsAt.form {w : World} {F : Nat → Prop} {v : Value} {l : List Ev} (h : EvsAt w F v l) : ∃ A c, v = .slice A l.length c ∧ l.length ≤ c := by
  obtain ⟨A, c, rfl, hc, _, _⟩ := h
  rw [List.length_map] at hc ⊢
  exact ⟨A, c, rfl, hc⟩
theorem EvsAt.at_ {w : World} {F : Nat → Prop} {A : Option Addr} {n c : Nat} {l : List Ev} (h : EvsAt w F (.slice A n c) l) {k : Nat} {x : Ev} (hk : l[k]? = some x) :
    ∃ b o, A = some ⟨b, o, none⟩ ∧ F b ∧ w.cell? ⟨b, o + k * 2, none⟩ = some (.int .i64 x.kind) ∧ w.cell? ⟨b, o + k * 2 + 1, none⟩ = some (.int .u64 x.addr) := by
  obtain ⟨A', c', hv, hc, hl, hne⟩ := h
  cases hv
  obtain ⟨b, o, rfl, hF, hat⟩ := hne (fun e => by
    have h1 : (l.map evRow)[k]? = some (evRow x) := by rw [List.getElem?_map, hk]; rfl
    rw [e] at h1; cases h1)
  have h1 : (l.map evRow)[k]? = some (evRow x) := by rw [List.getElem?_map, hk]; rfl
  exact ⟨b, o, rfl, hF, hat k 0 _ _ h1 rfl, hat k 1 _ _ h1 rfl⟩
theorem evs_own {w : World} {base : Nat} {v : Value} {l : List Ev} (h : w.ownsRow base 47 2 v l.length (l.map evRow).flatten) : EvsAt w (fun k => k < w.heap.size) v l := by
  have hsz : ∀ r ∈ l.map evRow, r.length = 2 := by intro r hr; obtain ⟨x, _, rfl⟩ := List.mem_map.1 hr; rfl
  rcases Nat.eq_zero_or_pos l.length with h0 | hpos
  · obtain rfl := List.eq_nil_of_length_eq_zero h0
    rcases h.2 with ⟨rfl, _⟩ | ⟨g, cap, cur, rfl, _, _, hnc, _⟩
    · exact ⟨none, 0, rfl, by simp, by simp, fun h => absurd rfl h⟩
    · exact ⟨_, cap, rfl, by simp, by simp, fun h => absurd rfl h⟩
  · obtain ⟨g, cap, rfl, _, hnc, hrow⟩ := rowsBlk_of_own h hsz hpos
    refine ⟨_, cap, by simp, by simpa using hnc, hsz, fun _ => ⟨g, 0, rfl, hrow.lt, fun i j r u hr hu => ?_⟩⟩
    rw [Nat.zero_add]
    exact hrow.cell hr hu
/-- Events that are written out. -/
theorem evs_lit {w : World} {g : Nat} {l : List Ev} {t : Nat} (h : w.heap[g]? = some (.cells (l.map evRow).flatten.toArray t (0, 0))) : EvsAt w (fun k => k < w.heap.size) (.slice (some ⟨g, 0, none⟩) l.length l.length) l := by
  refine ⟨_, l.length, by simp, by simp, by intro r hr; obtain ⟨x, _, rfl⟩ := List.mem_map.1 hr; rfl, fun _ => ⟨g, 0, rfl, lt_of_block h, fun i j r u hr hu => ?_⟩⟩
  rw [Nat.zero_add]
  simp only [World.cell?, h]
  have hj : j < 2 := by
    have hm := List.mem_of_getElem? hr
    obtain ⟨x, _, rfl⟩ := List.mem_map.1 hm
    exact (List.getElem?_eq_some_iff.1 hu).1
  have : ∀ (L : List (List Value)) (i : Nat), (∀ r ∈ L, r.length = 2) → L[i]? = some r → L.flatten[i * 2 + j]? = some u := by
    intro L
    induction L with
    | nil => intro i _ h; simp at h
    | cons q qs ih =>
      intro i hsz hi
      have hq := hsz q (List.mem_cons_self ..)
      cases i with
      | zero =>
        simp at hi
        subst hi
        rw [List.flatten_cons, List.getElem?_append_left (by omega)]
        simpa using hu
      | succ i =>
        rw [List.flatten_cons, List.getElem?_append_right (by omega), hq, show (i + 1) * 2 + j - 2 = i * 2 + j from by omega]
        exact ih i (fun r hr => hsz r (List.mem_cons_of_mem _ hr)) (by simpa using hi)
  have := this (l.map evRow) i (by intro r hr; obtain ⟨x, _, rfl⟩ := List.mem_map.1 hr; rfl) hr
  simpa using this

set_option maxRecDepth 100000 in
set_option maxHeartbeats 1600000 in
theorem SameEv_any (v u : Value) (w : World) (F : Nat → Prop) (a b : List Ev) (hn : a.length ≤ 9223372036854775807) (ha : EvsAt w F v a) (hb : EvsAt w F u b) (hF : ∀ k, F k → k < w.heap.size) :
    Calls Tryz.prog 12 #[v, u] w fun e w' => e = .returned (.bool (sameE a b)) ∧ Below w.heap.size w w' := by
  obtain ⟨A, c, rfl, hc⟩ := ha.form
  obtain ⟨B, d, rfl, hd⟩ := hb.form
  have HA := Lib.hid ha
  have HB := Lib.hid hb
  have HF := Lib.hid hF
  clear ha hb hc hd hF
  by_cases hlen : a.length = b.length
  · rw [← hlen]
    generalize hln : a.length = n at *
    have HN := Lib.hid hln
    have HN2 := Lib.hid hlen
    clear hln hlen
    have hnn : (n != n) = false := by simp
    have hnn2 : ((n : Int) != (n : Int)) = false := by simp
    go_enter Tryz.func12, Tryz.ntmps12
    go_wp2
    go_loopw [5] (fun i wr => ∃ k : Nat, k ≤ n ∧ i = .int .i64 k ∧ Below w.heap.size w wr ∧ ∀ (j : Nat) (x y : Ev), j < k → a[j]? = some x → b[j]? = some y → x = y) (fun i _ => n - (intOf i).toNat)
    case atStart => exact ⟨0, by omega, rfl, Below.refl _ _, fun j x y hj => absurd hj (by omega)⟩
    case round =>
      obtain ⟨k, hk, rfl, hbl, hall⟩ := hrel
      have HALL := Lib.hid hall
      have HBL := Lib.hid hbl
      clear hall hbl
      by_cases hlt : k < n
      · obtain ⟨r, hr⟩ : ∃ r, a[k]? = some r := ⟨_, List.getElem?_eq_getElem (by have := HN.out; omega)⟩
        obtain ⟨s, hs⟩ : ∃ s, b[k]? = some s := ⟨_, List.getElem?_eq_getElem (by have := HN2.out; omega)⟩
        obtain ⟨b1, o1, rfl, hF1, p0, p1⟩ := HA.out.at_ hr
        obtain ⟨b2, o2, rfl, hF2, q0, q1⟩ := HB.out.at_ hs
        have l1 : b1 < wr.heap.size := Nat.lt_of_lt_of_le (HF.out b1 hF1) HBL.out.size
        have l2 : b2 < wr.heap.size := Nat.lt_of_lt_of_le (HF.out b2 hF2) HBL.out.size
        have g0 := (HBL.out.cell (p := ⟨b1, o1 + k * 2, none⟩) (HF.out b1 hF1)).trans p0
        have g1 := (HBL.out.cell (p := ⟨b1, o1 + k * 2 + 1, none⟩) (HF.out b1 hF1)).trans p1
        have h0 := (HBL.out.cell (p := ⟨b2, o2 + k * 2, none⟩) (HF.out b2 hF2)).trans q0
        have h1 := (HBL.out.cell (p := ⟨b2, o2 + k * 2 + 1, none⟩) (HF.out b2 hF2)).trans q1
        have i0 : (0 : Int) ≤ (k : Int) := by omega
        have i1 : (k : Int) < (n : Int) := by omega
        have HR := Lib.hid hr
        have HS := Lib.hid hs
        clear p0 p1 q0 q1 hr hs
        by_cases e2 : r = s
        · have HRS := Lib.hid e2
          have e0 : (r.kind == s.kind) = true := by rw [e2]; simp
          have e1 : (r.addr == s.addr) = true := by rw [e2]; simp
          have e1' : ((r.addr : Int) == (s.addr : Int)) = true := by rw [e2]; simp
          clear e2
          go_wp2
          go_region
          go_wp2
          go_roundw
          case rel => exact ⟨k + 1, by omega, by go_num, HBL.out.drew, fun j x y hj hx hy => by
            rcases Nat.lt_or_ge j k with h | h
            · exact HALL.out j x y h hx hy
            · obtain rfl : j = k := by omega
              have h1 := HR.out
              have h2 := HS.out
              rw [h1] at hx
              rw [h2] at hy
              cases hx
              cases hy
              exact HRS.out⟩
          case measure => simp [intOf]; omega
        · have hno := sameE_no HR.out HS.out e2
          have HNO := Lib.hid hno
          by_cases e0 : r.kind = s.kind
          · have e1 : (r.addr == s.addr) = false := by
              rw [Bool.eq_false_iff]; intro h; apply e2; have h' : r.addr = s.addr := by simpa using h
              cases r; cases s; simp_all
            have e1' : ((r.addr : Int) == (s.addr : Int)) = false := by
              rw [Bool.eq_false_iff]; intro h; rw [Bool.eq_false_iff] at e1; apply e1; have h2 : (r.addr : Int) = (s.addr : Int) := by simpa using h
              have h3 : r.addr = s.addr := by omega
              rw [h3]; simp
            have e0' : (r.kind == s.kind) = true := by simpa using e0
            clear e2 e0 hno
            go_wp2
            go_region
            go_wp2
            go_ret
            exact ⟨ret_bool HNO.out.symm, HBL.out.drew⟩
          · have e0' : (r.kind == s.kind) = false := by simpa using e0
            clear e2 e0 hno
            go_wp2
            go_region
            go_wp2
            go_ret
            exact ⟨ret_bool HNO.out.symm, HBL.out.drew⟩
      · have hyes := sameE_yes (a := a) (b := b) (by have := HN.out; have := HN2.out; omega) (by have := HN.out; have := HALL.out; intro j x y hj; exact this j x y (by omega))
        have HY := Lib.hid hyes
        clear hyes
        go_wp2
        go_ret
        exact ⟨ret_bool HY.out.symm, HBL.out⟩
  · have hs := sameE_len hlen
    have HS := Lib.hid hs
    have hne : ((a.length : Int) != (b.length : Int)) = true := by simp; omega
    have hne2 : (a.length != b.length) = true := by simp; omega
    clear hs hlen
    go_enter Tryz.func12, Tryz.ntmps12
    go_wp2
    go_ret
    exact ⟨ret_bool HS.out.symm, Below.refl _ _⟩

set_option maxRecDepth 100000 in
set_option maxHeartbeats 1600000 in
theorem EqualEv_any (v u : Value) (w : World) (F : Nat → Prop) (a b : List Ev) (hn : a.length ≤ 9223372036854775807) (ha : EvsAt w F v a) (hb : EvsAt w F u b) (hF : ∀ k, F k → k < w.heap.size) :
    Calls Tryz.prog 50 #[v, u] w fun e w' => e = .returned (.bool (sameE a b)) ∧ Below w.heap.size w w' := by
  obtain ⟨A, c, rfl, hc⟩ := ha.form
  obtain ⟨B, d, rfl, hd⟩ := hb.form
  have HA := Lib.hid ha
  have HB := Lib.hid hb
  have HF := Lib.hid hF
  clear ha hb hc hd hF
  by_cases hlen : a.length = b.length
  · rw [← hlen]
    generalize hln : a.length = n at *
    have HN := Lib.hid hln
    have HN2 := Lib.hid hlen
    clear hln hlen
    have hnn : (n != n) = false := by simp
    have hnn2 : ((n : Int) != (n : Int)) = false := by simp
    go_enter Tryz.func50, Tryz.ntmps50
    go_wp2
    go_loopw [13] (fun i wr => ∃ k : Nat, k ≤ n ∧ i = .int .i64 k ∧ Below w.heap.size w wr ∧ ∀ (j : Nat) (x y : Ev), j < k → a[j]? = some x → b[j]? = some y → x = y) (fun i _ => n - (intOf i).toNat)
    case atStart => exact ⟨0, by omega, rfl, Below.refl _ _, fun j x y hj => absurd hj (by omega)⟩
    case round =>
      obtain ⟨k, hk, rfl, hbl, hall⟩ := hrel
      have HALL := Lib.hid hall
      have HBL := Lib.hid hbl
      clear hall hbl
      by_cases hlt : k < n
      · obtain ⟨r, hr⟩ : ∃ r, a[k]? = some r := ⟨_, List.getElem?_eq_getElem (by have := HN.out; omega)⟩
        obtain ⟨s, hs⟩ : ∃ s, b[k]? = some s := ⟨_, List.getElem?_eq_getElem (by have := HN2.out; omega)⟩
        obtain ⟨b1, o1, rfl, hF1, p0, p1⟩ := HA.out.at_ hr
        obtain ⟨b2, o2, rfl, hF2, q0, q1⟩ := HB.out.at_ hs
        have l1 : b1 < wr.heap.size := Nat.lt_of_lt_of_le (HF.out b1 hF1) HBL.out.size
        have l2 : b2 < wr.heap.size := Nat.lt_of_lt_of_le (HF.out b2 hF2) HBL.out.size
        have g0 := (HBL.out.cell (p := ⟨b1, o1 + k * 2, none⟩) (HF.out b1 hF1)).trans p0
        have g1 := (HBL.out.cell (p := ⟨b1, o1 + k * 2 + 1, none⟩) (HF.out b1 hF1)).trans p1
        have h0 := (HBL.out.cell (p := ⟨b2, o2 + k * 2, none⟩) (HF.out b2 hF2)).trans q0
        have h1 := (HBL.out.cell (p := ⟨b2, o2 + k * 2 + 1, none⟩) (HF.out b2 hF2)).trans q1
        have i0 : (0 : Int) ≤ (k : Int) := by omega
        have i1 : (k : Int) < (n : Int) := by omega
        have HR := Lib.hid hr
        have HS := Lib.hid hs
        clear p0 p1 q0 q1 hr hs
        by_cases e2 : r = s
        · have HRS := Lib.hid e2
          have e0 : (r.kind == s.kind) = true := by rw [e2]; simp
          have e1 : (r.addr == s.addr) = true := by rw [e2]; simp
          have e1' : ((r.addr : Int) == (s.addr : Int)) = true := by rw [e2]; simp
          clear e2
          go_wp2
          go_region
          go_wp2
          go_roundw
          case rel => exact ⟨k + 1, by omega, by go_num, HBL.out.drew, fun j x y hj hx hy => by
            rcases Nat.lt_or_ge j k with h | h
            · exact HALL.out j x y h hx hy
            · obtain rfl : j = k := by omega
              have h1 := HR.out
              have h2 := HS.out
              rw [h1] at hx
              rw [h2] at hy
              cases hx
              cases hy
              exact HRS.out⟩
          case measure => simp [intOf]; omega
        · have hno := sameE_no HR.out HS.out e2
          have HNO := Lib.hid hno
          by_cases e0 : r.kind = s.kind
          · have e1 : (r.addr == s.addr) = false := by
              rw [Bool.eq_false_iff]; intro h; apply e2; have h' : r.addr = s.addr := by simpa using h
              cases r; cases s; simp_all
            have e1' : ((r.addr : Int) == (s.addr : Int)) = false := by
              rw [Bool.eq_false_iff]; intro h; rw [Bool.eq_false_iff] at e1; apply e1; have h2 : (r.addr : Int) = (s.addr : Int) := by simpa using h
              have h3 : r.addr = s.addr := by omega
              rw [h3]; simp
            have e0' : (r.kind == s.kind) = true := by simpa using e0
            clear e2 e0 hno
            go_wp2
            go_region
            go_wp2
            go_ret
            exact ⟨ret_bool HNO.out.symm, HBL.out.drew⟩
          · have e0' : (r.kind == s.kind) = false := by simpa using e0
            clear e2 e0 hno
            go_wp2
            go_region
            go_wp2
            go_ret
            exact ⟨ret_bool HNO.out.symm, HBL.out.drew⟩
      · have hyes := sameE_yes (a := a) (b := b) (by have := HN.out; have := HN2.out; omega) (by have := HN.out; have := HALL.out; intro j x y hj; exact this j x y (by omega))
        have HY := Lib.hid hyes
        clear hyes
        go_wp2
        go_ret
        exact ⟨ret_bool HY.out.symm, HBL.out⟩
  · have hs := sameE_len hlen
    have HS := Lib.hid hs
    have hne : ((a.length : Int) != (b.length : Int)) = true := by simp; omega
    have hne2 : (a.length != b.length) = true := by simp; omega
    clear hs hlen
    go_enter Tryz.func50, Tryz.ntmps50
    go_wp2
    go_ret
    exact ⟨ret_bool HS.out.symm, Below.refl _ _⟩

set_option maxRecDepth 100000 in
set_option maxHeartbeats 1600000 in
theorem RSameEv_any (v u : Value) (w : World) (F : Nat → Prop) (a b : List Ev) (hn : a.length ≤ 9223372036854775807) (ha : EvsAt w F v a) (hb : EvsAt w F u b) (hF : ∀ k, F k → k < w.heap.size) :
    Calls Tryz.prog 26 #[v, u] w fun e w' => e = .returned (.bool (sameE a b)) ∧ Below w.heap.size w w' := by
  obtain ⟨A, c, rfl, hc⟩ := ha.form
  obtain ⟨B, d, rfl, hd⟩ := hb.form
  have HA := Lib.hid ha
  have HB := Lib.hid hb
  have HF := Lib.hid hF
  clear ha hb hc hd hF
  by_cases hlen : a.length = b.length
  · rw [← hlen]
    generalize hln : a.length = n at *
    have HN := Lib.hid hln
    have HN2 := Lib.hid hlen
    clear hln hlen
    have hnn : (n != n) = false := by simp
    have hnn2 : ((n : Int) != (n : Int)) = false := by simp
    go_enter Tryz.func26, Tryz.ntmps26
    go_wp2
    go_loopw [5] (fun i wr => ∃ k : Nat, k ≤ n ∧ i = .int .i64 k ∧ Below w.heap.size w wr ∧ ∀ (j : Nat) (x y : Ev), j < k → a[j]? = some x → b[j]? = some y → x = y) (fun i _ => n - (intOf i).toNat)
    case atStart => exact ⟨0, by omega, rfl, Below.refl _ _, fun j x y hj => absurd hj (by omega)⟩
    case round =>
      obtain ⟨k, hk, rfl, hbl, hall⟩ := hrel
      have HALL := Lib.hid hall
      have HBL := Lib.hid hbl
      clear hall hbl
      by_cases hlt : k < n
      · obtain ⟨r, hr⟩ : ∃ r, a[k]? = some r := ⟨_, List.getElem?_eq_getElem (by have := HN.out; omega)⟩
        obtain ⟨s, hs⟩ : ∃ s, b[k]? = some s := ⟨_, List.getElem?_eq_getElem (by have := HN2.out; omega)⟩
        obtain ⟨b1, o1, rfl, hF1, p0, p1⟩ := HA.out.at_ hr
        obtain ⟨b2, o2, rfl, hF2, q0, q1⟩ := HB.out.at_ hs
        have l1 : b1 < wr.heap.size := Nat.lt_of_lt_of_le (HF.out b1 hF1) HBL.out.size
        have l2 : b2 < wr.heap.size := Nat.lt_of_lt_of_le (HF.out b2 hF2) HBL.out.size
        have g0 := (HBL.out.cell (p := ⟨b1, o1 + k * 2, none⟩) (HF.out b1 hF1)).trans p0
        have g1 := (HBL.out.cell (p := ⟨b1, o1 + k * 2 + 1, none⟩) (HF.out b1 hF1)).trans p1
        have h0 := (HBL.out.cell (p := ⟨b2, o2 + k * 2, none⟩) (HF.out b2 hF2)).trans q0
        have h1 := (HBL.out.cell (p := ⟨b2, o2 + k * 2 + 1, none⟩) (HF.out b2 hF2)).trans q1
        have i0 : (0 : Int) ≤ (k : Int) := by omega
        have i1 : (k : Int) < (n : Int) := by omega
        have HR := Lib.hid hr
        have HS := Lib.hid hs
        clear p0 p1 q0 q1 hr hs
        by_cases e2 : r = s
        · have HRS := Lib.hid e2
          have e0 : (r.kind == s.kind) = true := by rw [e2]; simp
          have e1 : (r.addr == s.addr) = true := by rw [e2]; simp
          have e1' : ((r.addr : Int) == (s.addr : Int)) = true := by rw [e2]; simp
          clear e2
          go_wp2
          go_region
          go_wp2
          go_roundw
          case rel => exact ⟨k + 1, by omega, by go_num, HBL.out.drew, fun j x y hj hx hy => by
            rcases Nat.lt_or_ge j k with h | h
            · exact HALL.out j x y h hx hy
            · obtain rfl : j = k := by omega
              have h1 := HR.out
              have h2 := HS.out
              rw [h1] at hx
              rw [h2] at hy
              cases hx
              cases hy
              exact HRS.out⟩
          case measure => simp [intOf]; omega
        · have hno := sameE_no HR.out HS.out e2
          have HNO := Lib.hid hno
          by_cases e0 : r.kind = s.kind
          · have e1 : (r.addr == s.addr) = false := by
              rw [Bool.eq_false_iff]; intro h; apply e2; have h' : r.addr = s.addr := by simpa using h
              cases r; cases s; simp_all
            have e1' : ((r.addr : Int) == (s.addr : Int)) = false := by
              rw [Bool.eq_false_iff]; intro h; rw [Bool.eq_false_iff] at e1; apply e1; have h2 : (r.addr : Int) = (s.addr : Int) := by simpa using h
              have h3 : r.addr = s.addr := by omega
              rw [h3]; simp
            have e0' : (r.kind == s.kind) = true := by simpa using e0
            clear e2 e0 hno
            go_wp2
            go_region
            go_wp2
            go_ret
            exact ⟨ret_bool HNO.out.symm, HBL.out.drew⟩
          · have e0' : (r.kind == s.kind) = false := by simpa using e0
            clear e2 e0 hno
            go_wp2
            go_region
            go_wp2
            go_ret
            exact ⟨ret_bool HNO.out.symm, HBL.out.drew⟩
      · have hyes := sameE_yes (a := a) (b := b) (by have := HN.out; have := HN2.out; omega) (by have := HN.out; have := HALL.out; intro j x y hj; exact this j x y (by omega))
        have HY := Lib.hid hyes
        clear hyes
        go_wp2
        go_ret
        exact ⟨ret_bool HY.out.symm, HBL.out⟩
  · have hs := sameE_len hlen
    have HS := Lib.hid hs
    have hne : ((a.length : Int) != (b.length : Int)) = true := by simp; omega
    have hne2 : (a.length != b.length) = true := by simp; omega
    clear hs hlen
    go_enter Tryz.func26, Tryz.ntmps26
    go_wp2
    go_ret
    exact ⟨ret_bool HS.out.symm, Below.refl _ _⟩

end Go.Proofs.YtmanhikpccnfaaaGreat
