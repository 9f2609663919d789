/- Rows of events, held against each other. -/
import Derived.Test.YtmanhikpccnfaaaGreatBc2
import Derived.Maps.AppendAt
import Derived.Deep.DeepCutAuto
import Derived.Outline
import Derived.Test.YtmanhikpccnfaaaGreatBc8
import Derived.Deep.MidRow
import Derived.DeepKeys
namespace Go.Proofs.YtmanhikpccnfaaaGreat
open Go.RowKit

def evEq (a b : Ev) : Bool := a.kind == b.kind && a.addr == b.addr
def sameE (a b : List Ev) : Bool := a.length == b.length && (a.zip b).all fun x => evEq x.1 x.2
theorem evEq_iff (a b : Ev) : evEq a b = true ↔ a = b := by
  cases a; cases b
  simp [evEq]
theorem sameE_iff (a b : List Ev) : sameE a b = true ↔ a = b := by
  induction a generalizing b with
  | nil => cases b <;> simp [sameE]
  | cons x a ih =>
    cases b with
    | nil => simp [sameE]
    | cons y b =>
      have := ih b
      simp only [sameE, Bool.and_eq_true, beq_iff_eq, List.length_cons, List.zip_cons_cons, List.all_cons, evEq_iff] at this ⊢
      constructor
      · rintro ⟨h1, rfl, h2⟩; rw [this.1 ⟨by omega, h2⟩]
      · intro h; injection h with h1 h2; subst h1; exact ⟨by rw [h2], rfl, (this.2 h2).2⟩
theorem sameE_len {a b : List Ev} (h : a.length ≠ b.length) : sameE a b = false := by
  cases hs : sameE a b
  · rfl
  · exact absurd (congrArg List.length ((sameE_iff a b).1 hs)) h
theorem sameE_no {a b : List Ev} {k : Nat} {x y : Ev} (h1 : a[k]? = some x) (h2 : b[k]? = some y) (h : x ≠ y) : sameE a b = false := by
  cases hs : sameE a b
  · rfl
  · have := (sameE_iff a b).1 hs
    subst this
    rw [h1] at h2
    cases h2
    exact absurd rfl h
theorem sameE_yes {a b : List Ev} (hl : a.length = b.length) (h : ∀ (j : Nat) (x y : Ev), j < a.length → a[j]? = some x → b[j]? = some y → x = y) : sameE a b = true := by
  rw [sameE_iff]
  refine List.ext_getElem hl fun j h1 h2 => ?_
  exact h j _ _ h1 (List.getElem?_eq_getElem h1) (List.getElem?_eq_getElem h2)
theorem sameE_self (a : List Ev) : sameE a a = true := (sameE_iff a a).2 rfl

/-- A slice of events. -/
def EvsAt (w : World) (F : Nat → Prop) (v : Value) (l : List Ev) : Prop := Rows w F 2 v (l.map evRow)
theorem EvsAt.keep {w w' : World} {F : Nat → Prop} {v : Value} {l : List Ev} (h : EvsAt w F v l) (hk : SameOn F w w') : EvsAt w' F v l := Rows.keep h hk
theorem EvsAt.form {w : World} {F : Nat → Prop} {v : Value} {l : List Ev} (h : EvsAt w F v l) : ∃ A c, v = .slice A l.length c ∧ l.length ≤ c := by
  obtain ⟨A, c, rfl, hc, _, _⟩ := h
  rw [List.length_map] at hc ⊢
  exact ⟨A, c, rfl, hc⟩
theorem EvsAt.at_ {w : World} {F : Nat → Prop} {A : Option Addr} {n c : Nat} {l : List Ev} (h : EvsAt w F (.slice A n c) l) {k : Nat} {x : Ev} (hk : l[k]? = some x) :
    ∃ b o, A = some ⟨b, o, none⟩ ∧ F b ∧ w.cell? ⟨b, o + k * 2, none⟩ = some (.int .i64 x.kind) ∧ w.cell? ⟨b, o + k * 2 + 1, none⟩ = some (.int .u64 x.addr) := by
  obtain ⟨A', c', hv, hc, hl, hne⟩ := h
  cases hv
  obtain ⟨b, o, rfl, hF, hat⟩ := hne (fun e => by
    have h1 : (l.map evRow)[k]? = some (evRow x) := by rw [List.getElem?_map, hk]; rfl
    rw [e] at h1; cases h1)
  have h1 : (l.map evRow)[k]? = some (evRow x) := by rw [List.getElem?_map, hk]; rfl
  exact ⟨b, o, rfl, hF, hat k 0 _ _ h1 rfl, hat k 1 _ _ h1 rfl⟩
theorem evs_own {w : World} {base : Nat} {v : Value} {l : List Ev} (h : w.ownsRow base 47 2 v l.length (l.map evRow).flatten) : EvsAt w (fun k => k < w.heap.size) v l := by
  have hsz : ∀ r ∈ l.map evRow, r.length = 2 := by intro r hr; obtain ⟨x, _, rfl⟩ := List.mem_map.1 hr; rfl
  rcases Nat.eq_zero_or_pos l.length with h0 | hpos
  · obtain rfl := List.eq_nil_of_length_eq_zero h0
    rcases h.2 with ⟨rfl, _⟩ | ⟨g, cap, cur, rfl, _, _, hnc, _⟩
    · exact ⟨none, 0, rfl, by simp, by simp, fun h => absurd rfl h⟩
    · exact ⟨_, cap, rfl, by simp, by simp, fun h => absurd rfl h⟩
  · obtain ⟨g, cap, rfl, _, hnc, hrow⟩ := rowsBlk_of_own h hsz hpos
    refine ⟨_, cap, by simp, by simpa using hnc, hsz, fun _ => ⟨g, 0, rfl, hrow.lt, fun i j r u hr hu => ?_⟩⟩
    rw [Nat.zero_add]
    exact hrow.cell hr hu
/-- Events that are written out. -/
theorem evs_lit {w : World} {g : Nat} {l : List Ev} {t : Nat} (h : w.heap[g]? = some (.cells (l.map evRow).flatten.toArray t (0, 0))) : EvsAt w (fun k => k < w.heap.size) (.slice (some ⟨g, 0, none⟩) l.length l.length) l := by
  refine ⟨_, l.length, by simp, by simp, by intro r hr; obtain ⟨x, _, rfl⟩ := List.mem_map.1 hr; rfl, fun _ => ⟨g, 0, rfl, lt_of_block h, fun i j r u hr hu => ?_⟩⟩
  rw [Nat.zero_add]
  simp only [World.cell?, h]
  have hj : j < 2 := by
    have hm := List.mem_of_getElem? hr
    obtain ⟨x, _, rfl⟩ := List.mem_map.1 hm
    exact (List.getElem?_eq_some_iff.1 hu).1
  have : ∀ (L : List (List Value)) (i : Nat), (∀ r ∈ L, r.length = 2) → L[i]? = some r → L.flatten[i * 2 + j]? = some u := by
    intro L
    induction L with
    | nil => intro i _ h; simp at h
    | cons q qs ih =>
      intro i hsz hi
      have hq := hsz q (List.mem_cons_self ..)
      cases i with
      | zero =>
        simp at hi
        subst hi
        rw [List.flatten_cons, List.getElem?_append_left (by omega)]
        simpa using hu
      | succ i =>
        rw [List.flatten_cons, List.getElem?_append_right (by omega), hq, show (i + 1) * 2 + j - 2 = i * 2 + j from by omega]
        exact ih i (fun r hr => hsz r (List.mem_cons_of_mem _ hr)) (by simpa using hi)
  have := this (l.map evRow) i (by intro r hr; obtain ⟨x, _, rfl⟩ := List.mem_map.1 hr; rfl) hr
  simpa using this

set_option maxRecDepth 100000 in
set_option maxHeartbeats 1600000 in
theorem SameEv_any (v u : Value) (w : World) (F : Nat → Prop) (a b : List Ev) (hn : a.length ≤ 9223372036854775807) (ha : EvsAt w F v a) (hb : EvsAt w F u b) (hF : ∀ k, F k → k < w.heap.size) :
    Calls Tryz.prog 12 #[v, u] w fun e w' => e = .returned (.bool (sameE a b)) ∧ Below w.heap.size w w' := by
  obtain ⟨A, c, rfl, hc⟩ := ha.form
  obtain ⟨B, d, rfl, hd⟩ := hb.form
  have HA := Lib.hid ha
  have HB := Lib.hid hb
  have HF := Lib.hid hF
  clear ha hb hc hd hF
  by_cases hlen : a.length = b.length
  · rw [← hlen]
    generalize hln : a.length = n at *
    have HN := Lib.hid hln
    have HN2 := Lib.hid hlen
    clear hln hlen
    have hnn : (n != n) = false := by simp
    have hnn2 : ((n : Int) != (n : Int)) = false := by simp
    go_enter Tryz.func12, Tryz.ntmps12
    go_wp2
    go_loopw [5] (fun i wr => ∃ k : Nat, k ≤ n ∧ i = .int .i64 k ∧ Below w.heap.size w wr ∧ ∀ (j : Nat) (x y : Ev), j < k → a[j]? = some x → b[j]? = some y → x = y) (fun i _ => n - (intOf i).toNat)
    case atStart => exact ⟨0, by omega, rfl, Below.refl _ _, fun j x y hj => absurd hj (by omega)⟩
    case round =>
      obtain ⟨k, hk, rfl, hbl, hall⟩ := hrel
      have HALL := Lib.hid hall
      have HBL := Lib.hid hbl
      clear hall hbl
      by_cases hlt : k < n
      · obtain ⟨r, hr⟩ : ∃ r, a[k]? = some r := ⟨_, List.getElem?_eq_getElem (by have := HN.out; omega)⟩
        obtain ⟨s, hs⟩ : ∃ s, b[k]? = some s := ⟨_, List.getElem?_eq_getElem (by have := HN2.out; omega)⟩
        obtain ⟨b1, o1, rfl, hF1, p0, p1⟩ := HA.out.at_ hr
        obtain ⟨b2, o2, rfl, hF2, q0, q1⟩ := HB.out.at_ hs
        have l1 : b1 < wr.heap.size := Nat.lt_of_lt_of_le (HF.out b1 hF1) HBL.out.size
        have l2 : b2 < wr.heap.size := Nat.lt_of_lt_of_le (HF.out b2 hF2) HBL.out.size
        have g0 := (HBL.out.cell (p := ⟨b1, o1 + k * 2, none⟩) (HF.out b1 hF1)).trans p0
        have g1 := (HBL.out.cell (p := ⟨b1, o1 + k * 2 + 1, none⟩) (HF.out b1 hF1)).trans p1
        have h0 := (HBL.out.cell (p := ⟨b2, o2 + k * 2, none⟩) (HF.out b2 hF2)).trans q0
        have h1 := (HBL.out.cell (p := ⟨b2, o2 + k * 2 + 1, none⟩) (HF.out b2 hF2)).trans q1
        have i0 : (0 : Int) ≤ (k : Int) := by omega
        have i1 : (k : Int) < (n : Int) := by omega
        have HR := Lib.hid hr
        have HS := Lib.hid hs
        clear p0 p1 q0 q1 hr hs
        by_cases e2 : r = s
        · have HRS := Lib.hid e2
          have e0 : (r.kind == s.kind) = true := by rw [e2]; simp
          have e1 : (r.addr == s.addr) = true := by rw [e2]; simp
          have e1' : ((r.addr : Int) == (s.addr : Int)) = true := by rw [e2]; simp
          clear e2
          go_wp2
          go_region
          go_wp2
          go_roundw
          case rel => exact ⟨k + 1, by omega, by go_num, HBL.out.drew, fun j x y hj hx hy => by
            rcases Nat.lt_or_ge j k with h | h
            · exact HALL.out j x y h hx hy
            · obtain rfl : j = k := by omega
              have h1 := HR.out
              have h2 := HS.out
              rw [h1] at hx
              rw [h2] at hy
              cases hx
              cases hy
              exact HRS.out⟩
          case measure => simp [intOf]; omega
        · have hno := sameE_no HR.out HS.out e2
          have HNO := Lib.hid hno
          by_cases e0 : r.kind = s.kind
          · have e1 : (r.addr == s.addr) = false := by
              rw [Bool.eq_false_iff]; intro h; apply e2; have h' : r.addr = s.addr := by simpa using h
              cases r; cases s; simp_all
            have e1' : ((r.addr : Int) == (s.addr : Int)) = false := by
              rw [Bool.eq_false_iff]; intro h; rw [Bool.eq_false_iff] at e1; apply e1; have h2 : (r.addr : Int) = (s.addr : Int) := by simpa using h
              have h3 : r.addr = s.addr := by omega
              rw [h3]; simp
            have e0' : (r.kind == s.kind) = true := by simpa using e0
            clear e2 e0 hno
            go_wp2
            go_region
            go_wp2
            go_ret
            exact ⟨ret_bool HNO.out.symm, HBL.out.drew⟩
          · have e0' : (r.kind == s.kind) = false := by simpa using e0
            clear e2 e0 hno
            go_wp2
            go_region
            go_wp2
            go_ret
            exact ⟨ret_bool HNO.out.symm, HBL.out.drew⟩
      · have hyes := sameE_yes (a := a) (b := b) (by have := HN.out; have := HN2.out; omega) (by have := HN.out; have := HALL.out; intro j x y hj; exact this j x y (by omega))
        have HY := Lib.hid hyes
        clear hyes
        go_wp2
        go_ret
        exact ⟨ret_bool HY.out.symm, HBL.out⟩
  · have hs := sameE_len hlen
    have HS := Lib.hid hs
    have hne : ((a.length : Int) != (b.length : Int)) = true := by simp; omega
    have hne2 : (a.length != b.length) = true := by simp; omega
    clear hs hlen
    go_enter Tryz.func12, Tryz.ntmps12
    go_wp2
    go_ret
    exact ⟨ret_bool HS.out.symm, Below.refl _ _⟩

set_option maxRecDepth 100000 in
set_option maxHeartbeats 1600000 in
theorem EqualEv_any (v u : Value) (w : World) (F : Nat → Prop) (a b : List Ev) (hn : a.length ≤ 9223372036854775807) (ha : EvsAt w F v a) (hb : EvsAt w F u b) (hF : ∀ k, F k → k < w.heap.size) :
    Calls Tryz.prog 50 #[v, u] w fun e w' => e = .returned (.bool (sameE a b)) ∧ Below w.heap.size w w' := by
  obtain ⟨A, c, rfl, hc⟩ := ha.form
  obtain ⟨B, d, rfl, hd⟩ := hb.form
  have HA := Lib.hid ha
  have HB := Lib.hid hb
  have HF := Lib.hid hF
  clear ha hb hc hd hF
  by_cases hlen : a.length = b.length
  · rw [← hlen]
    generalize hln : a.length = n at *
    have HN := Lib.hid hln
    have HN2 := Lib.hid hlen
    clear hln hlen
    have hnn : (n != n) = false := by simp
    have hnn2 : ((n : Int) != (n : Int)) = false := by simp
    go_enter Tryz.func50, Tryz.ntmps50
    go_wp2
    go_loopw [13] (fun i wr => ∃ k : Nat, k ≤ n ∧ i = .int .i64 k ∧ Below w.heap.size w wr ∧ ∀ (j : Nat) (x y : Ev), j < k → a[j]? = some x → b[j]? = some y → x = y) (fun i _ => n - (intOf i).toNat)
    case atStart => exact ⟨0, by omega, rfl, Below.refl _ _, fun j x y hj => absurd hj (by omega)⟩
    case round =>
      obtain ⟨k, hk, rfl, hbl, hall⟩ := hrel
      have HALL := Lib.hid hall
      have HBL := Lib.hid hbl
      clear hall hbl
      by_cases hlt : k < n
      · obtain ⟨r, hr⟩ : ∃ r, a[k]? = some r := ⟨_, List.getElem?_eq_getElem (by have := HN.out; omega)⟩
        obtain ⟨s, hs⟩ : ∃ s, b[k]? = some s := ⟨_, List.getElem?_eq_getElem (by have := HN2.out; omega)⟩
        obtain ⟨b1, o1, rfl, hF1, p0, p1⟩ := HA.out.at_ hr
        obtain ⟨b2, o2, rfl, hF2, q0, q1⟩ := HB.out.at_ hs
        have l1 : b1 < wr.heap.size := Nat.lt_of_lt_of_le (HF.out b1 hF1) HBL.out.size
        have l2 : b2 < wr.heap.size := Nat.lt_of_lt_of_le (HF.out b2 hF2) HBL.out.size
        have g0 := (HBL.out.cell (p := ⟨b1, o1 + k * 2, none⟩) (HF.out b1 hF1)).trans p0
        have g1 := (HBL.out.cell (p := ⟨b1, o1 + k * 2 + 1, none⟩) (HF.out b1 hF1)).trans p1
        have h0 := (HBL.out.cell (p := ⟨b2, o2 + k * 2, none⟩) (HF.out b2 hF2)).trans q0
        have h1 := (HBL.out.cell (p := ⟨b2, o2 + k * 2 + 1, none⟩) (HF.out b2 hF2)).trans q1
        have i0 : (0 : Int) ≤ (k : Int) := by omega
        have i1 : (k : Int) < (n : Int) := by omega
        have HR := Lib.hid hr
        have HS := Lib.hid hs
        clear p0 p1 q0 q1 hr hs
        by_cases e2 : r = s
        · have HRS := Lib.hid e2
          have e0 : (r.kind == s.kind) = true := by rw [e2]; simp
          have e1 : (r.addr == s.addr) = true := by rw [e2]; simp
          have e1' : ((r.addr : Int) == (s.addr : Int)) = true := by rw [e2]; simp
          clear e2
          go_wp2
          go_region
          go_wp2
          go_roundw
          case rel => exact ⟨k + 1, by omega, by go_num, HBL.out.drew, fun j x y hj hx hy => by
            rcases Nat.lt_or_ge j k with h | h
            · exact HALL.out j x y h hx hy
            · obtain rfl : j = k := by omega
              have h1 := HR.out
              have h2 := HS.out
              rw [h1] at hx
              rw [h2] at hy
              cases hx
              cases hy
              exact HRS.out⟩
          case measure => simp [intOf]; omega
        · have hno := sameE_no HR.out HS.out e2
          have HNO := Lib.hid hno
          by_cases e0 : r.kind = s.kind
          · have e1 : (r.addr == s.addr) = false := by
              rw [Bool.eq_false_iff]; intro h; apply e2; have h' : r.addr = s.addr := by simpa using h
              cases r; cases s; simp_all
            have e1' : ((r.addr : Int) == (s.addr : Int)) = false := by
              rw [Bool.eq_false_iff]; intro h; rw [Bool.eq_false_iff] at e1; apply e1; have h2 : (r.addr : Int) = (s.addr : Int) := by simpa using h
              have h3 : r.addr = s.addr := by omega
              rw [h3]; simp
            have e0' : (r.kind == s.kind) = true := by simpa using e0
            clear e2 e0 hno
            go_wp2
            go_region
            go_wp2
            go_ret
            exact ⟨ret_bool HNO.out.symm, HBL.out.drew⟩
          · have e0' : (r.kind == s.kind) = false := by simpa using e0
            clear e2 e0 hno
            go_wp2
            go_region
            go_wp2
            go_ret
            exact ⟨ret_bool HNO.out.symm, HBL.out.drew⟩
      · have hyes := sameE_yes (a := a) (b := b) (by have := HN.out; have := HN2.out; omega) (by have := HN.out; have := HALL.out; intro j x y hj; exact this j x y (by omega))
        have HY := Lib.hid hyes
        clear hyes
        go_wp2
        go_ret
        exact ⟨ret_bool HY.out.symm, HBL.out⟩
  · have hs := sameE_len hlen
    have HS := Lib.hid hs
    have hne : ((a.length : Int) != (b.length : Int)) = true := by simp; omega
    have hne2 : (a.length != b.length) = true := by simp; omega
    clear hs hlen
    go_enter Tryz.func50, Tryz.ntmps50
    go_wp2
    go_ret
    exact ⟨ret_bool HS.out.symm, Below.refl _ _⟩

set_option maxRecDepth 100000 in
set_option maxHeartbeats 1600000 in
theorem RSameEv_any (v u : Value) (w : World) (F : Nat → Prop) (a b : List Ev) (hn : a.length ≤ 9223372036854775807) (ha : EvsAt w F v a) (hb : EvsAt w F u b) (hF : ∀ k, F k → k < w.heap.size) :
    Calls Tryz.prog 26 #[v, u] w fun e w' => e = .returned (.bool (sameE a b)) ∧ Below w.heap.size w w' := by
  obtain ⟨A, c, rfl, hc⟩ := ha.form
  obtain ⟨B, d, rfl, hd⟩ := hb.form
  have HA := Lib.hid ha
  have HB := Lib.hid hb
  have HF := Lib.hid hF
  clear ha hb hc hd hF
  by_cases hlen : a.length = b.length
  · rw [← hlen]
    generalize hln : a.length = n at *
    have HN := Lib.hid hln
    have HN2 := Lib.hid hlen
    clear hln hlen
    have hnn : (n != n) = false := by simp
    have hnn2 : ((n : Int) != (n : Int)) = false := by simp
    go_enter Tryz.func26, Tryz.ntmps26
    go_wp2
    go_loopw [5] (fun i wr => ∃ k : Nat, k ≤ n ∧ i = .int .i64 k ∧ Below w.heap.size w wr ∧ ∀ (j : Nat) (x y : Ev), j < k → a[j]? = some x → b[j]? = some y → x = y) (fun i _ => n - (intOf i).toNat)
    case atStart => exact ⟨0, by omega, rfl, Below.refl _ _, fun j x y hj => absurd hj (by omega)⟩
    case round =>
      obtain ⟨k, hk, rfl, hbl, hall⟩ := hrel
      have HALL := Lib.hid hall
      have HBL := Lib.hid hbl
      clear hall hbl
      by_cases hlt : k < n
      · obtain ⟨r, hr⟩ : ∃ r, a[k]? = some r := ⟨_, List.getElem?_eq_getElem (by have := HN.out; omega)⟩
        obtain ⟨s, hs⟩ : ∃ s, b[k]? = some s := ⟨_, List.getElem?_eq_getElem (by have := HN2.out; omega)⟩
        obtain ⟨b1, o1, rfl, hF1, p0, p1⟩ := HA.out.at_ hr
        obtain ⟨b2, o2, rfl, hF2, q0, q1⟩ := HB.out.at_ hs
        have l1 : b1 < wr.heap.size := Nat.lt_of_lt_of_le (HF.out b1 hF1) HBL.out.size
        have l2 : b2 < wr.heap.size := Nat.lt_of_lt_of_le (HF.out b2 hF2) HBL.out.size
        have g0 := (HBL.out.cell (p := ⟨b1, o1 + k * 2, none⟩) (HF.out b1 hF1)).trans p0
        have g1 := (HBL.out.cell (p := ⟨b1, o1 + k * 2 + 1, none⟩) (HF.out b1 hF1)).trans p1
        have h0 := (HBL.out.cell (p := ⟨b2, o2 + k * 2, none⟩) (HF.out b2 hF2)).trans q0
        have h1 := (HBL.out.cell (p := ⟨b2, o2 + k * 2 + 1, none⟩) (HF.out b2 hF2)).trans q1
        have i0 : (0 : Int) ≤ (k : Int) := by omega
        have i1 : (k : Int) < (n : Int) := by omega
        have HR := Lib.hid hr
        have HS := Lib.hid hs
        clear p0 p1 q0 q1 hr hs
        by_cases e2 : r = s
        · have HRS := Lib.hid e2
          have e0 : (r.kind == s.kind) = true := by rw [e2]; simp
          have e1 : (r.addr == s.addr) = true := by rw [e2]; simp
          have e1' : ((r.addr : Int) == (s.addr : Int)) = true := by rw [e2]; simp
          clear e2
          go_wp2
          go_region
          go_wp2
          go_roundw
          case rel => exact ⟨k + 1, by omega, by go_num, HBL.out.drew, fun j x y hj hx hy => by
            rcases Nat.lt_or_ge j k with h | h
            · exact HALL.out j x y h hx hy
            · obtain rfl : j = k := by omega
              have h1 := HR.out
              have h2 := HS.out
              rw [h1] at hx
              rw [h2] at hy
              cases hx
              cases hy
              exact HRS.out⟩
          case measure => simp [intOf]; omega
        · have hno := sameE_no HR.out HS.out e2
          have HNO := Lib.hid hno
          by_cases e0 : r.kind = s.kind
          · have e1 : (r.addr == s.addr) = false := by
              rw [Bool.eq_false_iff]; intro h; apply e2; have h' : r.addr = s.addr := by simpa using h
              cases r; cases s; simp_all
            have e1' : ((r.addr : Int) == (s.addr : Int)) = false := by
              rw [Bool.eq_false_iff]; intro h; rw [Bool.eq_false_iff] at e1; apply e1; have h2 : (r.addr : Int) = (s.addr : Int) := by simpa using h
              have h3 : r.addr = s.addr := by omega
              rw [h3]; simp
            have e0' : (r.kind == s.kind) = true := by simpa using e0
            clear e2 e0 hno
            go_wp2
            go_region
            go_wp2
            go_ret
            exact ⟨ret_bool HNO.out.symm, HBL.out.drew⟩
          · have e0' : (r.kind == s.kind) = false := by simpa using e0
            clear e2 e0 hno
            go_wp2
            go_region
            go_wp2
            go_ret
            exact ⟨ret_bool HNO.out.symm, HBL.out.drew⟩
      · have hyes := sameE_yes (a := a) (b := b) (by have := HN.out; have := HN2.out; omega) (by have := HN.out; have := HALL.out; intro j x y hj; exact this j x y (by omega))
        have HY := Lib.hid hyes
        clear hyes
        go_wp2
        go_ret
        exact ⟨ret_bool HY.out.symm, HBL.out⟩
  · have hs := sameE_len hlen
    have HS := Lib.hid hs
    have hne : ((a.length : Int) != (b.length : Int)) = true := by simp; omega
    have hne2 : (a.length != b.length) = true := by simp; omega
    clear hs hlen
    go_enter Tryz.func26, Tryz.ntmps26
    go_wp2
    go_ret
    exact ⟨ret_bool HS.out.symm, Below.refl _ _⟩

end Go.Proofs.YtmanhikpccnfaaaGreat

/- States in blocks beside a memory, and rows of events: what a statement over steps holds on its way. -/
namespace Go.Proofs.YtmanhikpccnfaaaGreat
open Go.RowKit

theorem wp_name {P : Program} {c : Code} {Q : Exit → Act → World → Prop} {a : Act} {w : World} (h : ∀ W, W = w → c.wp P Q a W) : c.wp P Q a w := h w rfl
section
variable {P : Program} {ops : Array Oper} {rest : List Oper} {o : Oper} {a : Act} {w : World} {Q : Exit → Act → World → Prop}
theorem wpList_val_ex (hg : o.guard = none) {v : Value} (h : (execOp a.eval o).run P w = .ok (.value v) w) (k : wpList P ops Q rest (a.put o.dst v) w) : wpList P ops Q (o :: rest) a w :=
  wpList_plain hg fun K hK => by unfold Oper.wp; rw [h]; exact hK _ _ k
theorem wpList_skip_ex (hg : o.guard = none) {w' : World} (h : (execOp a.eval o).run P w = .ok .skip w') (k : wpList P ops Q rest (a.put o.dst undef) w') : wpList P ops Q (o :: rest) a w :=
  wpList_plain hg fun K hK => by unfold Oper.wp; rw [h]; exact hK _ _ k
end

theorem wpList_val_w {P : Program} {ops : Array Oper} {rest : List Oper} {o : Oper} {a : Act} {w : World} {Q : Exit → Act → World → Prop} (hw : Region.wanted o (yielded ops a.tmps) = true) {v : Value} (h : (execOp a.eval o).run P w = .ok (.value v) w) (k : wpList P ops Q rest (a.put o.dst v) w) : wpList P ops Q (o :: rest) a w :=
  wpList_step fun K hK => by rw [if_pos hw]; unfold Oper.wp; rw [h]; exact hK _ _ k

structure Held (w0 w : World) (F : Nat → Prop) (m : Value) (rs : List Reg) (B : List (Nat × St)) (E : List (Value × List Ev)) : Prop where
  below : Below w0.heap.size w0 w
  mem : MemAt w F m rs
  lt : ∀ k, F k → k < w.heap.size
  ge : ∀ k, F k → w0.heap.size ≤ k
  nd : (B.map (·.1)).Nodup
  box : ∀ x ∈ B, w.heap[x.1]? = some (.cells (stRow x.2).toArray 25 (0, 0)) ∧ StOk x.2 ∧ ¬ F x.1 ∧ w0.heap.size ≤ x.1
  ev : ∀ x ∈ E, w.ownsRow w0.heap.size 47 2 x.1 x.2.length (x.2.map evRow).flatten ∧ ∀ g, x.1.ownBlock = some g → ¬ F g ∧ ∀ y ∈ B, y.1 ≠ g

section
variable {w0 w w' : World} {F : Nat → Prop} {m : Value} {rs rs' : List Reg} {B : List (Nat × St)} {E : List (Value × List Ev)}

theorem Held.get (h : Held w0 w F m rs B E) {i g : Nat} {s : St} (hi : B[i]? = some (g, s)) : w.heap[g]? = some (.cells (stRow s).toArray 25 (0, 0)) ∧ StOk s ∧ ¬ F g ∧ w0.heap.size ≤ g :=
  h.box (g, s) (List.mem_of_getElem? hi)
theorem Held.ok (h : Held w0 w F m rs B E) (i : Nat) {g : Nat} {s : St} (hi : B[i]? = some (g, s)) : StOk s := (h.get hi).2.1
theorem Held.cell (h : Held w0 w F m rs B E) (i k : Nat) {g : Nat} {s : St} (hi : B[i]? = some (g, s)) {v : Value} (hv : (stRow s)[k]? = some v) : w.cell? ⟨g, k, none⟩ = some v := by
  have h1 := (h.get hi).1
  simp only [World.cell?, h1]
  simpa using hv
theorem Held.frozen (h : Held w0 w F m rs B E) (i k : Nat) {g : Nat} {s : St} (hi : B[i]? = some (g, s)) : w.frozen? ⟨g, k, none⟩ = false := by
  have h1 := (h.get hi).1
  simp [World.frozen?, h1]
/-- Its registers, loaded. -/
theorem Held.regs (h : Held w0 w F m rs B E) (i : Nat) {g : Nat} {s : St} (hi : B[i]? = some (g, s)) {X : Array Value} (hX : X = (s.regs.map fun r => Value.int .u64 (r : Nat)).toArray) : (Instr.loadAt 23 (.pointer (some ⟨g, 0, none⟩))).run Tryz.prog w = .ok (.agg X) w := by
  have hl := (h.get hi).2.1.len
  rw [hX]
  refine run_loadAt_mid w g 0 _ _ _ (fun j v hv => ?_) Tryz.underlying23 rfl (by rw [show (s.regs.map fun r => Value.int .u64 (r : Nat)).length = 16 by simpa using hl]; kernel_rfl)
  rw [Nat.zero_add]
  exact h.cell i j hi (by rw [stRow, List.getElem?_append_left (List.getElem?_eq_some_iff.1 hv).1]; exact hv)
theorem Held.lt_box (h : Held w0 w F m rs B E) {x : Nat × St} (hx : x ∈ B) : x.1 < w.heap.size := lt_of_block (h.box x hx).1

/-- A later world in which nothing that is held has changed. -/
theorem Held.keep (h : Held w0 w F m rs B E) (hb : Below w0.heap.size w0 w') (hs : w.heap.size ≤ w'.heap.size) (hk : ∀ k, k < w.heap.size → w'.heap[k]? = w.heap[k]?) : Held w0 w' F m rs B E :=
  ⟨hb, h.mem.keep (fun k hF => hk k (h.lt k hF)), fun k hF => Nat.lt_of_lt_of_le (h.lt k hF) hs, h.ge, h.nd, fun x hx => ⟨(hk _ (h.lt_box hx)).trans (h.box x hx).1, (h.box x hx).2⟩,
    fun x hx => ⟨own_keep2 (h.ev x hx).1 fun g hg => hk g (own_lt (h.ev x hx).1 g hg).1, (h.ev x hx).2⟩⟩
theorem Held.evs (h : Held w0 w F m rs B E) (i : Nat) {v : Value} {l : List Ev} (hi : E[i]? = some (v, l)) : EvsAt w (fun k => k < w.heap.size) v l := evs_own (h.ev (v, l) (List.mem_of_getElem? hi)).1
/-- What a step told is as what is written out? -/
theorem Held.same_lit (h : Held w0 w F m rs B E) (i : Nat) {v : Value} {l : List Ev} (hi : E[i]? = some (v, l)) (q : List Ev) (n : Nat) (hn : q.length = n) (hl : l.length ≤ 100) (cs : Array Value) (hc : cs = (q.map evRow).flatten.toArray) :
    Calls Tryz.prog 12 #[v, .slice (some ⟨w.heap.size, 0, none⟩) n n] (w.alloc (.cells cs 47)) fun e w' => e = .returned (.bool (sameE l q)) ∧ Held w0 w' F m rs B E := by
  subst hc
  subst hn
  have hb := (Below.refl w.heap.size w).alloc (Nat.le_refl _) (.cells (q.map evRow).flatten.toArray 47)
  have h1 : Held w0 (w.alloc (.cells (q.map evRow).flatten.toArray 47)) F m rs B E := h.keep (h.below.trans (hb.mono h.below.size)) hb.size fun k hk => hb.block k hk
  refine (SameEv_any _ _ _ _ l q (by omega) (h1.evs i hi) (evs_lit (heap_alloc_new w _)) (fun _ hk => hk)).mono ?_
  rintro e w' ⟨rfl, hb2⟩
  exact ⟨rfl, h1.keep (h1.below.trans (hb2.mono h1.below.size)) hb2.size fun k hk => hb2.block k hk⟩

theorem Held.next (h : Held w0 w F m rs B E) (hb : Below w.heap.size w w') : Held w0 w' F m rs B E :=
  h.keep (h.below.trans (hb.mono h.below.size)) hb.size fun k hk => hb.block k hk
theorem Held.cast (h : Held w0 w F m rs B E) (e : w' = w) : Held w0 w' F m rs B E := e ▸ h
theorem Held.bare (h : Held w0 w F m rs B E) : Held w0 w F m rs [] [] := ⟨h.below, h.mem, h.lt, h.ge, by simp, by simp, by simp⟩
theorem Held.drew (h : Held w0 w F m rs B E) : Held w0 w.drew F m rs B E := h.next (Below.refl _ _).drew

/-- Behind a step. -/
theorem Held.step (h : Held w0 w F m rs B E) (hc : Chg (Over F w.heap.size) w w') (hm : MemAt w' F m rs') : Held w0 w' F m rs' B E := by
  have hk : ∀ k, k < w.heap.size → ¬ F k → w'.heap[k]? = w.heap[k]? := fun k hk hn => hc.far hk hk hn
  refine ⟨h.below.trans (hc.below (fun k hk hF => ?_) h.below.size), hm, fun k hF => Nat.lt_of_lt_of_le (h.lt k hF) hc.size, h.ge, h.nd, fun x hx => ⟨(hk _ (h.lt_box hx) (h.box x hx).2.2.1).trans (h.box x hx).1, (h.box x hx).2⟩,
    fun x hx => ⟨own_keep2 (h.ev x hx).1 fun g hg => hk g (own_lt (h.ev x hx).1 g hg).1 ((h.ev x hx).2 g hg).1, (h.ev x hx).2⟩⟩
  rcases hF with hF | hF
  · have := h.ge k hF; omega
  · have := h.below.size; omega

/-- What a step told is held, too. -/
theorem Held.seen (h : Held w0 w' F m rs B E) {v : Value} {evs : List Ev} (hv : w'.ownsRow w.heap.size 47 2 v evs.length (evs.map evRow).flatten) (hw : Held w0 w F m rs' B E) : Held w0 w' F m rs B ((v, evs) :: E) := by
  refine ⟨h.below, h.mem, h.lt, h.ge, h.nd, h.box, fun x hx => ?_⟩
  rcases List.mem_cons.1 hx with rfl | hx
  · refine ⟨own_base_le hv hw.below.size, fun g hg => ?_⟩
    have hge := (own_lt hv g hg).2
    exact ⟨fun hF => by have := hw.lt g hF; omega, fun y hy e => by have := hw.lt_box hy; omega⟩
  · exact h.ev x hx

theorem nodup_ne {B : List (Nat × St)} (hn : (B.map (·.1)).Nodup) {i j : Nat} {x y : Nat × St} (hi : B[i]? = some x) (hj : B[j]? = some y) (hij : i ≠ j) : x.1 ≠ y.1 := by
  intro e
  have h1 : (B.map (·.1))[i]? = some x.1 := by rw [List.getElem?_map, hi]; rfl
  have h2 : (B.map (·.1))[j]? = some x.1 := by rw [List.getElem?_map, hj, e]; rfl
  have hl : i < (B.map (·.1)).length := (List.getElem?_eq_some_iff.1 h1).1
  exact hij ((List.getElem?_inj hl hn).1 (h1.trans h2.symm))

/-- Another state in a box. -/
theorem Held.put (h : Held w0 w F m rs B E) {i g : Nat} {s s' : St} (hi : B[i]? = some (g, s)) (hs : StOk s') (hb : Below w0.heap.size w0 w') (hz : w'.heap.size = w.heap.size) (hg : w'.heap[g]? = some (.cells (stRow s').toArray 25 (0, 0))) (ho : ∀ k, k ≠ g → w'.heap[k]? = w.heap[k]?) : Held w0 w' F m rs (B.set i (g, s')) E := by
  obtain ⟨_, _, hF, hge⟩ := h.get hi
  have hil : i < B.length := (List.getElem?_eq_some_iff.1 hi).1
  have hmap : (B.set i (g, s')).map (·.1) = B.map (·.1) := by
    rw [List.map_set]
    refine List.ext_getElem? fun j => ?_
    rw [List.getElem?_set]
    split
    · rename_i e; subst e; rw [if_pos (by simpa using hil), List.getElem?_map, hi]; rfl
    · rfl
  have hmem : ∀ x, x ∈ B.set i (g, s') → x = (g, s') ∨ (x ∈ B ∧ x.1 ≠ g) := fun x hx => by
    obtain ⟨j, hj⟩ := List.mem_iff_getElem?.1 hx
    rw [List.getElem?_set] at hj
    split at hj
    · (try rw [if_pos hil] at hj); exact .inl (Option.some.inj hj).symm
    · rename_i hij
      exact .inr ⟨List.mem_of_getElem? hj, nodup_ne h.nd hj hi (fun e => hij e.symm)⟩
  refine ⟨hb, h.mem.keep (fun k hk => ho k fun e => hF (e ▸ hk)), fun k hk => by rw [hz]; exact h.lt k hk, h.ge, by rw [hmap]; exact h.nd, fun x hx => ?_, fun x hx => ⟨own_keep2 (h.ev x hx).1 fun k hk => ho k fun e => ((h.ev x hx).2 k hk).2 _ (List.mem_of_getElem? hi) e.symm, fun k hk => ⟨((h.ev x hx).2 k hk).1, fun y hy => ?_⟩⟩⟩
  · rcases hmem x hx with rfl | ⟨hx, hne⟩
    · exact ⟨hg, hs, hF, hge⟩
    · exact ⟨(ho _ hne).trans (h.box x hx).1, (h.box x hx).2⟩
  · rcases hmem y hy with rfl | ⟨hy, _⟩
    · exact ((h.ev x hx).2 k hk).2 (g, s) (List.mem_of_getElem? hi)
    · exact ((h.ev x hx).2 k hk).2 y hy

theorem Held.setRow (h : Held w0 w F m rs B E) {i g : Nat} {s s' : St} (hi : B[i]? = some (g, s)) (hs : StOk s') : Held w0 (w.setRow g (stRow s').toArray) F m rs (B.set i (g, s')) E :=
  h.put hi hs (Below.setRow h.below (h.get hi).2.2.2 _) (by simp [World.setRow]) (setRow_heap _ _ _ _ _ _ (h.get hi).1) fun k hk => setRow_other _ _ _ _ hk
theorem Held.setCell (h : Held w0 w F m rs B E) {i g : Nat} {s s' : St} (hi : B[i]? = some (g, s)) (k : Nat) (v : Value) (hv : (stRow s).set k v = stRow s') (hs : StOk s') : Held w0 (w.setCell ⟨g, k, none⟩ v) F m rs (B.set i (g, s')) E := by
  refine h.put hi hs (h.below.setCell (h.get hi).2.2.2 _) (by simp [World.setCell]) ?_ fun k hk => Below.heap_setCell _ _ _ _ hk
  rw [World.setCell, ← hv]
  simp only [Array.getElem?_modify, if_pos, (h.get hi).1, Option.map_some]
  simp

/-- A box more. -/
theorem Held.fresh (h : Held w0 w F m rs B E) (zs : Array Value) {s : St} (hs : StOk s) : Held w0 ((w.alloc (.cells zs 25)).setRow w.heap.size (stRow s).toArray) F m rs ((w.heap.size, s) :: B) E := by
  have h1 := h.next ((Below.refl w.heap.size w).alloc (Nat.le_refl _) (.cells zs 25))
  have hne : ∀ k, k < w.heap.size → ((w.alloc (.cells zs 25)).setRow w.heap.size (stRow s).toArray).heap[k]? = (w.alloc (.cells zs 25)).heap[k]? := fun k hk => setRow_other _ _ _ _ (by omega)
  refine ⟨Below.setRow h1.below h.below.size _, h1.mem.keep (fun k hk => hne k (h.lt k hk)), fun k hk => by have := h1.lt k hk; simpa [World.setRow] using this, h.ge, ?_, fun x hx => ?_, fun x hx => ⟨own_keep2 (h1.ev x hx).1 fun k hk => hne k (own_lt (h.ev x hx).1 k hk).1, fun k hk => ⟨((h.ev x hx).2 k hk).1, fun y hy => ?_⟩⟩⟩
  · rw [List.map_cons, List.nodup_cons]
    refine ⟨fun hm => ?_, h.nd⟩
    obtain ⟨x, hx, e⟩ := List.mem_map.1 hm
    have := h.lt_box hx
    simp only at e
    omega
  · rcases List.mem_cons.1 hx with rfl | hx
    · exact ⟨setRow_heap _ _ _ _ _ _ (heap_alloc_new w _), hs, fun hF => by have := h.lt _ hF; omega, h.below.size⟩
    · exact ⟨(hne _ (h.lt_box hx)).trans (h1.box x hx).1, (h.box x hx).2⟩
  · rcases List.mem_cons.1 hy with rfl | hy
    · intro e; have := (own_lt (h.ev x hx).1 k hk).1; simp only at e; omega
    · exact ((h.ev x hx).2 k hk).2 y hy

/-- A step from a box. -/
theorem Held.Do (h : Held w0 w F m rs B E) (i : Nat) {g : Nat} {s : St} (hi : B[i]? = some (g, s)) (ins : Ins) (hio : InsOk ins) (size : Int) {code : Int} {s2 : St} {evs : List Ev} (hr : stepF s ins size rs = ⟨code, s2, evs, rs'⟩) :
    Calls Tryz.prog 11 #[.agg (stRow s).toArray, .agg (insRow ins).toArray, .int .i64 size, m] w fun e w' => ∃ A c, e = .returned (.tuple #[.agg (stRow s2).toArray, .slice A evs.length c, .int .i64 code]) ∧ Held w0 w' F m rs' B ((.slice A evs.length c, evs) :: E) := by
  refine (Do_any s ins size m w F rs (h.ok i hi) hio h.mem h.lt).mono ?_
  rintro e w' ⟨v, rfl, hc, hm, hrow⟩
  rw [hr] at hm hrow ⊢
  obtain ⟨A, c, rfl⟩ : ∃ A c, v = .slice A evs.length c := by
    rcases hrow.2 with ⟨h1, h2⟩ | ⟨g', cap', cur, hv, _⟩
    · exact ⟨none, 0, by rw [h1, h2]⟩
    · exact ⟨_, _, hv⟩
  exact ⟨A, c, rfl, (h.step hc hm).seen hrow h⟩

variable {ops : Array Oper} {rest : List Oper} {o : Oper} {a : Act} {Q : Exit → Act → World → Prop}
theorem Held.load_row (h : Held w0 w F m rs B E) (i : Nat) {g : Nat} {s : St} (hi : B[i]? = some (g, s)) (hg : o.guard = none) (y : Operand) (ho : o.op = .load 25 y) (hx : a.eval y = .pointer (some ⟨g, 0, none⟩)) (k : wpList Tryz.prog ops Q rest (a.put o.dst (.agg (stRow s).toArray)) w) : wpList Tryz.prog ops Q (o :: rest) a w :=
  wpList_val_ex hg (exec_load_row 25 y ho g hx _ _ _ (h.get hi).1 _ Tryz.underlying25 rfl (by rw [stRow_size (h.ok i hi)]; exact infoSt)) k
theorem Held.load_regs (h : Held w0 w F m rs B E) (i : Nat) {g : Nat} {s : St} (hi : B[i]? = some (g, s)) (y : Operand) (ho : o.op = .load 23 y) (hx : a.eval y = .pointer (some ⟨g, 0, none⟩)) (hw : Region.wanted o (yielded ops a.tmps) = true) {X : Array Value} (hX : X = (s.regs.map fun r => Value.int .u64 (r : Nat)).toArray) (k : wpList Tryz.prog ops Q rest (a.put o.dst (.agg X)) w) : wpList Tryz.prog ops Q (o :: rest) a w :=
  wpList_val_w hw (by unfold execOp; simp only [ho, hx, Sem.run_bind, h.regs i hi hX, Result.andThen_ok, Sem.run_pure]) k
theorem Held.store_fresh (h : Held w0 w F m rs B E) {s : St} (hs : StOk s) (hg : o.guard = none) (x y : Operand) (ho : o.op = .store 25 x y) (zs : Array Value) (hz : zs.size = 20) (hx : a.eval x = .pointer (some ⟨w.heap.size, 0, none⟩)) (hy : a.eval y = .agg (stRow s).toArray)
    (k : ∀ W, Held w0 W F m rs ((w.heap.size, s) :: B) E → wpList Tryz.prog ops Q rest (a.put o.dst undef) W) : wpList Tryz.prog ops Q (o :: rest) a (w.alloc (.cells zs 25)) :=
  wpList_skip_ex hg (exec_store_row 25 x y ho w.heap.size _ hx hy 25 zs (heap_alloc_new w _) (by rw [stRow_size hs]; exact infoSt) (by rw [stRow_size hs, hz]) (stRow_one _)) (k _ (h.fresh zs hs))
theorem Held.store_row (h : Held w0 w F m rs B E) (i : Nat) {g : Nat} {s0 s : St} (hi : B[i]? = some (g, s0)) (hs : StOk s) (hg : o.guard = none) (x y : Operand) (ho : o.op = .store 25 x y) (hx : a.eval x = .pointer (some ⟨g, 0, none⟩)) (hy : a.eval y = .agg (stRow s).toArray)
    (k : ∀ W, Held w0 W F m rs (B.set i (g, s)) E → wpList Tryz.prog ops Q rest (a.put o.dst undef) W) : wpList Tryz.prog ops Q (o :: rest) a w :=
  wpList_skip_ex hg (exec_store_row 25 x y ho g _ hx hy 25 _ (h.get hi).1 (by rw [stRow_size hs]; exact infoSt) (by rw [stRow_size hs, stRow_size (h.ok i hi)]) (stRow_one _)) (k _ (h.setRow hi hs))
end
end Go.Proofs.YtmanhikpccnfaaaGreat

/- Sums limb by limb: plain. -/
namespace Go.Proofs.YtmanhikpccnfaaaGreat
open Go.RowKit

/-- A state of which four registers count. -/
def st4 (a b c d pc : Nat) (cf o z : Bool) : St := ⟨[a, b, 0, c, 0, 0, d, 0, 0, 0, 0, 0, 0, 0, 0, 0], pc, cf, o, z⟩
def ofA (a b r : Nat) : Bool := (topB a == topB b) && (topB r != topB a)
def ofS (a b r : Nat) : Bool := (topB a != topB b) && (topB r != topB a)

section
variable (a b c d pc : Nat) (cf o z : Bool) (rs : List Reg) 
theorem adc03 (hp : pc < 1000000) : stepF (st4 a b c d pc cf o z) ⟨7, 0, 3, 0, 0, 0, 0, 0, 0⟩ 3 rs = ⟨0, st4 (addF a c cf).1 b c d (pc + 3) (addF a c cf).2 (ofA a c (addF a c cf).1) ((addF a c cf).1 == 0), [⟨1, pc⟩], rs⟩ := by
  have e : (pc + u64 3) % 18446744073709551616 = pc + 3 := by rw [show u64 3 = 3 from rfl]; omega
  have h := stepF_over (s := st4 a b c d pc cf o z) (i := ⟨7, 0, 3, 0, 0, 0, 0, 0, 0⟩) (size := 3) (rs := rs) (by decide +kernel) (by decide) (by decide) rfl
  rw [h]
  show StepR.mk 0 (st4 (addF a c cf).1 b c d ((pc + u64 3) % 18446744073709551616) _ _ _) _ _ = _
  rw [e]
  rfl
theorem adc16 (hp : pc < 1000000) : stepF (st4 a b c d pc cf o z) ⟨7, 1, 6, 0, 0, 0, 0, 0, 0⟩ 3 rs = ⟨0, st4 a (addF b d cf).1 c d (pc + 3) (addF b d cf).2 (ofA b d (addF b d cf).1) ((addF b d cf).1 == 0), [⟨1, pc⟩], rs⟩ := by
  have e : (pc + u64 3) % 18446744073709551616 = pc + 3 := by rw [show u64 3 = 3 from rfl]; omega
  have h := stepF_over (s := st4 a b c d pc cf o z) (i := ⟨7, 1, 6, 0, 0, 0, 0, 0, 0⟩) (size := 3) (rs := rs) (by decide +kernel) (by decide) (by decide) rfl
  rw [h]
  show StepR.mk 0 (st4 a (addF b d cf).1 c d ((pc + u64 3) % 18446744073709551616) _ _ _) _ _ = _
  rw [e]
  rfl
theorem sbb03 (hp : pc < 1000000) : stepF (st4 a b c d pc cf o z) ⟨9, 0, 3, 0, 0, 0, 0, 0, 0⟩ 3 rs = ⟨0, st4 (subF a c cf).1 b c d (pc + 3) (subF a c cf).2 (ofS a c (subF a c cf).1) ((subF a c cf).1 == 0), [⟨1, pc⟩], rs⟩ := by
  have e : (pc + u64 3) % 18446744073709551616 = pc + 3 := by rw [show u64 3 = 3 from rfl]; omega
  have h := stepF_over (s := st4 a b c d pc cf o z) (i := ⟨9, 0, 3, 0, 0, 0, 0, 0, 0⟩) (size := 3) (rs := rs) (by decide +kernel) (by decide) (by decide) rfl
  rw [h]
  show StepR.mk 0 (st4 (subF a c cf).1 b c d ((pc + u64 3) % 18446744073709551616) _ _ _) _ _ = _
  rw [e]
  rfl
theorem sbb16 (hp : pc < 1000000) : stepF (st4 a b c d pc cf o z) ⟨9, 1, 6, 0, 0, 0, 0, 0, 0⟩ 3 rs = ⟨0, st4 a (subF b d cf).1 c d (pc + 3) (subF b d cf).2 (ofS b d (subF b d cf).1) ((subF b d cf).1 == 0), [⟨1, pc⟩], rs⟩ := by
  have e : (pc + u64 3) % 18446744073709551616 = pc + 3 := by rw [show u64 3 = 3 from rfl]; omega
  have h := stepF_over (s := st4 a b c d pc cf o z) (i := ⟨9, 1, 6, 0, 0, 0, 0, 0, 0⟩) (size := 3) (rs := rs) (by decide +kernel) (by decide) (by decide) rfl
  rw [h]
  show StepR.mk 0 (st4 a (subF b d cf).1 c d ((pc + u64 3) % 18446744073709551616) _ _ _) _ _ = _
  rw [e]
  rfl
theorem adcx03 (hp : pc < 1000000) : stepF (st4 a b c d pc cf o z) ⟨20, 0, 3, 0, 0, 0, 0, 0, 0⟩ 6 rs = ⟨0, st4 (addF a c cf).1 b c d (pc + 6) (addF a c cf).2 o z, [⟨1, pc⟩], rs⟩ := by
  have e : (pc + u64 6) % 18446744073709551616 = pc + 6 := by rw [show u64 6 = 6 from rfl]; omega
  have h := stepF_over (s := st4 a b c d pc cf o z) (i := ⟨20, 0, 3, 0, 0, 0, 0, 0, 0⟩) (size := 6) (rs := rs) (by decide +kernel) (by decide) (by decide) rfl
  rw [h]
  show StepR.mk 0 (st4 (addF a c cf).1 b c d ((pc + u64 6) % 18446744073709551616) _ _ _) _ _ = _
  rw [e]
  rfl
theorem adox03 (hp : pc < 1000000) : stepF (st4 a b c d pc cf o z) ⟨21, 0, 3, 0, 0, 0, 0, 0, 0⟩ 6 rs = ⟨0, st4 (addF a c o).1 b c d (pc + 6) cf (addF a c o).2 z, [⟨1, pc⟩], rs⟩ := by
  have e : (pc + u64 6) % 18446744073709551616 = pc + 6 := by rw [show u64 6 = 6 from rfl]; omega
  have h := stepF_over (s := st4 a b c d pc cf o z) (i := ⟨21, 0, 3, 0, 0, 0, 0, 0, 0⟩) (size := 6) (rs := rs) (by decide +kernel) (by decide) (by decide) rfl
  rw [h]
  show StepR.mk 0 (st4 (addF a c o).1 b c d ((pc + u64 6) % 18446744073709551616) _ _ _) _ _ = _
  rw [e]
  rfl
end
theorem sub_add {a c : Nat} (k : Bool) (ha : a < 18446744073709551616) (hc : c < 18446744073709551616) : (subF (addF a c k).1 c k).1 = a ∧ (subF (addF a c k).1 c k).2 = (addF a c k).2 := by
  have hk : k.toNat = 0 ∨ k.toNat = 1 := by cases k <;> simp
  have h1 : (addF a c k).1 = (a + c + k.toNat) % 18446744073709551616 := rfl
  have h2 : (addF a c k).2 = decide (18446744073709551616 ≤ a + c + k.toNat) := rfl
  generalize (addF a c k).1 = r at *
  rw [h2]
  refine ⟨by show (18446744073709551616 + r - c - k.toNat) % 18446744073709551616 = a; omega, ?_⟩
  show decide (r < c + k.toNat) = _
  rw [decide_eq_decide]
  constructor <;> intro h <;> omega
end Go.Proofs.YtmanhikpccnfaaaGreat

/- keysmithlaw08: lives. -/
namespace Go.Proofs.YtmanhikpccnfaaaGreat
open Go.RowKit

theorem New_none (w0 w : World) (hb : Below w0.heap.size w0 w) : Calls Tryz.prog 10 #[.slice none 0 0] w fun e w' => ∃ bm, e = .returned (.tuple #[.pointer (some ⟨bm, 0, none⟩), .int .i64 0]) ∧ Held w0 w' (seg w.heap.size w'.heap.size) (.pointer (some ⟨bm, 0, none⟩)) [] [] [] := by
  refine (New_any _ w (fun k => k < w.heap.size) [] (by simp) ⟨[], rfl, ⟨none, 0, rfl, by simp, by simp, fun h => absurd rfl h⟩, by simp⟩ (fun _ h => h)).mono ?_
  rintro e w' ⟨hb', ⟨h0, _⟩ | ⟨_, p, rfl, hm⟩⟩
  · exact absurd rfl h0
  · obtain ⟨bm, rfl⟩ : ∃ bm, p = .pointer (some ⟨bm, 0, none⟩) := by obtain ⟨bm, v, h, _⟩ := hm; exact ⟨bm, h⟩
    exact ⟨bm, rfl, hb.trans (hb'.mono hb.size), hm, fun k hk => hk.2, fun k hk => Nat.le_trans hb.size hk.1, by simp, by simp, by simp⟩

def stL0 : St := ⟨[0, 0, 0, 0, 0, 0, 0, 0, 0, 0, 0, 0, 0, 0, 0, 0], 0, true, false, false⟩
def stL1 : St := ⟨[18446744073709551615, 0, 0, 0, 0, 0, 0, 0, 0, 0, 0, 0, 0, 0, 0, 0], 0, true, false, false⟩
def stL2 : St := ⟨[0, 0, 0, 0, 0, 0, 0, 0, 0, 0, 0, 0, 0, 0, 0, 0], 3, true, false, true⟩
def insL : Ins := ⟨7, 0, 1, 0, 0, 0, 0, 0, 0⟩
theorem okL0 : StOk stL0 := ⟨rfl, by decide, by decide⟩
theorem okL1 : StOk stL1 := ⟨rfl, by decide, by decide⟩
theorem stepL : stepF stL1 insL 3 [] = ⟨0, stL2, [⟨1, 0⟩], []⟩ := by
  have h := stepF_over (s := stL1) (i := insL) (size := 3) (rs := []) (by decide +kernel) (by decide) (by decide) rfl
  rw [h]
  rfl
theorem insOk_lit {i : Ins} (h : (decide (-9223372036854775808 ≤ i.disp) && decide (i.disp ≤ 9223372036854775807) && (decide (-9223372036854775808 ≤ i.imm) && decide (i.imm ≤ 9223372036854775807))) = true) : InsOk i := by
  simp only [Bool.and_eq_true, decide_eq_true_eq] at h
  exact ⟨h.1, h.2⟩

set_option maxRecDepth 100000 in
set_option maxHeartbeats 1600000 in
theorem lives_any (w : World) : Calls Tryz.prog 6 #[] w fun e w' => e = .returned (.bool true) ∧ Below w.heap.size w w' := by
  have HN := Lib.hid (New_none w w (Below.refl _ _))
  go_enter Tryz.func6, Tryz.ntmps6
  go_wp2_with fail
  refine HN.out.mono ?_
  rintro e w1 ⟨bm, rfl, hH⟩
  have H := Lib.hid hH
  clear hH HN
  go_upto_region 3 with (refine H.out.store_fresh (s := stL0) okL0 rfl _ _ rfl _ rfl rfl rfl ?_; intro W hW; clear H; have H := Lib.hid hW; clear hW)
  have c0 : W.cell? ⟨w1.heap.size, 0, none⟩ = some (.int .u64 0) := H.out.cell 0 0 rfl rfl
  have f0 := H.out.frozen 0 0 rfl
  go_upto_region 4 with fail
  refine wp_name ?_
  intro W1 hW1
  have hH := (H.out.setCell (i := 0) rfl 0 (.int .u64 18446744073709551615) (s' := stL1) rfl okL1).cast hW1
  clear hW1 c0 f0 H
  have H := Lib.hid hH
  clear hH
  go_wp2_with (refine H.out.load_row 0 rfl rfl _ rfl rfl ?_)
  refine (H.out.Do 0 rfl insL (insOk_lit rfl) 3 stepL).mono ?_
  rintro e w3 ⟨A, c, rfl, hH⟩
  clear H
  have H := Lib.hid hH
  clear hH
  go_upto_region 5 with (refine H.out.store_fresh (s := stL2) ⟨rfl, by decide, by decide⟩ rfl _ _ rfl _ rfl rfl rfl ?_; intro W hW; clear H; have H := Lib.hid hW; clear hW)
  have d0 : W.cell? ⟨w3.heap.size, 0, none⟩ = some (.int .u64 0) := H.out.cell 0 0 rfl rfl
  have d1 : W.cell? ⟨w3.heap.size, 16, none⟩ = some (.int .u64 3) := H.out.cell 0 16 rfl rfl
  have d2 : W.cell? ⟨w3.heap.size, 17, none⟩ = some (.bool true) := H.out.cell 0 17 rfl rfl
  have d3 : W.cell? ⟨w3.heap.size, 18, none⟩ = some (.bool false) := H.out.cell 0 18 rfl rfl
  have d4 : W.cell? ⟨w3.heap.size, 19, none⟩ = some (.bool true) := H.out.cell 0 19 rfl rfl
  go_wp2_with fail
  refine (H.out.same_lit 0 rfl [⟨1, 0⟩] 1 rfl (by decide) _ rfl).mono ?_
  rintro e w4 ⟨rfl, hH⟩
  clear H
  have H := Lib.hid hH
  clear hH
  rw [sameE_self]
  go_wp2
  go_ret
  exact ⟨rfl, H.out.below⟩
end Go.Proofs.YtmanhikpccnfaaaGreat

/- '==' between states, and between registers. -/
namespace Go.Proofs.YtmanhikpccnfaaaGreat
open Go.RowKit

def regLits (l : List Nat) : List Lit := l.map fun r => Lit.int .u64 (r : Nat)
def stLits (s : St) : List Lit := regLits s.regs ++ [.int .u64 s.pc, .bool s.cf, .bool s.of_, .bool s.zf]
theorem regLits_inj {a b : List Nat} (h : regLits a = regLits b) : a = b := by
  unfold regLits at h
  exact (List.map_inj_right (fun x y h => by injection h with _ h; omega)).1 h
theorem stLits_inj {s t : St} (hl : s.regs.length = t.regs.length) (h : stLits s = stLits t) : s = t := by
  unfold stLits at h
  obtain ⟨h1, h2⟩ := List.append_inj h (by simpa [regLits] using hl)
  have h1 := regLits_inj h1
  rcases s with ⟨_, _, _, _, _⟩
  rcases t with ⟨_, _, _, _, _⟩
  simp at h1 h2
  simp only [St.mk.injEq]
  exact ⟨h1, by omega, h2.2.1, h2.2.2.1, h2.2.2.2⟩
theorem bool_of_iff {r q : Bool} {p : Prop} (h1 : r = true ↔ p) (h2 : q = true ↔ p) : r = q := by
  cases r <;> cases q <;> simp_all

theorem key_u64 (d r : Nat) (h : r < 18446744073709551616) : Tryz.prog.keyLits (d + 1) 22 [Value.int .u64 (r : Nat)] = some [Lit.int .u64 (r : Nat)] := by
  unfold Program.keyLits
  rw [Tryz.underlying22]
  have hw : (Lit.int IntKind.u64 (r : Nat)).wf = true := by simp [Lit.wf, IntKind.min, IntKind.max, IntKind.bits, IntKind.signed]; omega
  simp [hw]
theorem key_bool (d : Nat) (b : Bool) : Tryz.prog.keyLits (d + 1) 4 [Value.bool b] = some [Lit.bool b] := by
  unfold Program.keyLits
  rw [Tryz.underlying4]
theorem cells_u64 : Tryz.prog.cellsOf 22 = 1 := by kernel_rfl
theorem cells_bool : Tryz.prog.cellsOf 4 = 1 := by kernel_rfl
theorem cells_16 : Tryz.prog.cellsOf 23 = 16 := by kernel_rfl
theorem key_regs (d : Nat) (l : List Nat) (hl : l.length = 16) (hb : ∀ r ∈ l, r < 18446744073709551616) : Tryz.prog.keyLits (d + 2) 23 (l.map fun r => Value.int .u64 (r : Nat)) = some (regLits l) := by
  obtain ⟨a0, a1, a2, a3, a4, a5, a6, a7, a8, a9, a10, a11, a12, a13, a14, a15, rfl⟩ := sixteen l hl
  simp only [List.forall_mem_cons] at hb
  obtain ⟨b0, b1, b2, b3, b4, b5, b6, b7, b8, b9, b10, b11, b12, b13, b14, b15, _⟩ := hb
  unfold Program.keyLits
  rw [Tryz.underlying23]
  simp only [cells_16, cells_u64]
  rw [if_pos (by simp)]
  rw [show List.range 16 = [0, 1, 2, 3, 4, 5, 6, 7, 8, 9, 10, 11, 12, 13, 14, 15] from rfl]
  simp [key_u64 d, b0, b1, b2, b3, b4, b5, b6, b7, b8, b9, b10, b11, b12, b13, b14, b15, regLits]

theorem eq_regs (a b : List Nat) (ha : a.length = 16) (hb : b.length = 16) (ha' : ∀ r ∈ a, r < 18446744073709551616) (hb' : ∀ r ∈ b, r < 18446744073709551616) (w : World) {X Y : Array Value} (hX : X = (a.map fun r => Value.int .u64 (r : Nat)).toArray) (hY : Y = (b.map fun r => Value.int .u64 (r : Nat)).toArray) : (Op.equalIn 10000 23 (.agg X) (.agg Y)).run Tryz.prog w = .ok (a == b) w := by
  subst hX
  subst hY
  have hf : ∀ l : List Nat, l.length = 16 → (∀ r ∈ l, r < 18446744073709551616) → (Value.agg (l.map fun r => Value.int .u64 (r : Nat)).toArray).formed Tryz.prog 23 = true ∧ Tryz.prog.keyLits 20 23 (Value.agg (l.map fun r => Value.int .u64 (r : Nat)).toArray).cells.toList = some (regLits l) := fun l hl hb => by
    refine ⟨?_, key_regs 18 l hl hb⟩
    obtain ⟨a0, a1, a2, a3, a4, a5, a6, a7, a8, a9, a10, a11, a12, a13, a14, a15, rfl⟩ := sixteen l hl
    kernel_rfl
  obtain ⟨r, hr, hi⟩ := run_equalIn_deep (P := Tryz.prog) 9995 5 23 (by kernel_rfl) w 20 20 _ _ _ _ (hf a ha ha').1 (hf b hb hb').1 (hf a ha ha').2 (hf b hb hb').2
  have : r = (a == b) := bool_of_iff hi (by
    rw [beq_iff_eq]
    exact ⟨fun h => by rw [h], regLits_inj⟩)
  rw [← this]
  exact hr
def eqSt (s t : St) : Bool := s.regs == t.regs && (s.pc == t.pc && (s.cf == t.cf && (s.of_ == t.of_ && s.zf == t.zf)))
theorem eqSt_iff (s t : St) : eqSt s t = true ↔ s = t := by
  rcases s with ⟨_, _, _, _, _⟩
  rcases t with ⟨_, _, _, _, _⟩
  simp [eqSt]
theorem key_st (d : Nat) (s : St) (h : StOk s) : Tryz.prog.keyLits (d + 3) 25 (stRow s) = some (stLits s) := by
  have hr := key_regs d s.regs h.len h.regs
  have hl : (stRow s).length = 20 := by simp [stRow, h.len]
  have hd : ∀ k, (stRow s).drop (16 + k) = [Value.int .u64 s.pc, .bool s.cf, .bool s.of_, .bool s.zf].drop k := fun k => by
    rw [stRow, List.drop_append, List.drop_eq_nil_of_le (by simp [h.len]), List.nil_append]
    simp [h.len]
  have ht : (stRow s).take 16 = s.regs.map fun r => Value.int .u64 (r : Nat) := by rw [stRow, List.take_append_of_le_length (by simp [h.len]), List.take_of_length_le (by simp [h.len])]
  have e16 := hd 0
  have e17 := hd 1
  have e18 := hd 2
  have e19 := hd 3
  simp only [Nat.add_zero, Nat.reduceAdd, List.drop_zero, List.drop_succ_cons] at e16 e17 e18 e19
  unfold Program.keyLits
  rw [Tryz.underlying25]
  simp only [show Tryz.prog.cellsOf 25 = 20 by kernel_rfl]
  rw [if_pos ⟨hl, by kernel_rfl⟩]
  simp [cells_16, cells_u64, cells_bool, ht, e16, e17, e18, e19, hr, key_u64 (d + 1) s.pc h.pc, key_bool (d + 1), stLits]
theorem eq_st (s t : St) (hs : StOk s) (ht : StOk t) (w : World) : (Op.equalIn 10000 25 (.agg (stRow s).toArray) (.agg (stRow t).toArray)).run Tryz.prog w = .ok (eqSt s t) w := by
  have hf : ∀ l : St, StOk l → (Value.agg (stRow l).toArray).formed Tryz.prog 25 = true ∧ Tryz.prog.keyLits 20 25 (Value.agg (stRow l).toArray).cells.toList = some (stLits l) := fun l hl => by
    refine ⟨?_, key_st 17 l hl⟩
    rcases l with ⟨regs, pc, cf, of_, zf⟩
    obtain ⟨a0, a1, a2, a3, a4, a5, a6, a7, a8, a9, a10, a11, a12, a13, a14, a15, rfl⟩ := sixteen regs hl.len
    kernel_rfl
  obtain ⟨r, hr, hi⟩ := run_equalIn_deep (P := Tryz.prog) 9995 5 25 (by kernel_rfl) w 20 20 _ _ _ _ (hf s hs).1 (hf t ht).1 (hf s hs).2 (hf t ht).2
  have : r = eqSt s t := bool_of_iff hi (by
    rw [eqSt_iff]
    exact ⟨fun h => by rw [h], stLits_inj (by rw [hs.len, ht.len])⟩)
  rw [← this]
  exact hr
end Go.Proofs.YtmanhikpccnfaaaGreat

/- States in blocks beside a memory, and blocks that stand: what a statement over two memories holds on its way. -/
namespace Go.Proofs.YtmanhikpccnfaaaGreat
open Go.RowKit

/-- As Held; besides, the blocks of G stand as they stood in wf. -/
structure Held2 (w0 wf w : World) (F G : Nat → Prop) (m : Value) (rs : List Reg) (B : List (Nat × St)) (E : List (Value × List Ev)) : Prop where
  held : Held w0 w F m rs B E
  fix : ∀ k, G k → w.heap[k]? = wf.heap[k]? ∧ k < w.heap.size ∧ ¬ F k ∧ ∀ y ∈ B, y.1 ≠ k
  evg : ∀ x ∈ E, ∀ g, x.1.ownBlock = some g → ¬ G g

section
variable {w0 wf w w' : World} {F G : Nat → Prop} {m : Value} {rs rs' : List Reg} {B : List (Nat × St)} {E : List (Value × List Ev)}

theorem Held2.cast (h : Held2 w0 wf w F G m rs B E) (e : w' = w) : Held2 w0 wf w' F G m rs B E := e ▸ h
theorem Held2.same_ (h : Held2 w0 wf w F G m rs B E) : SameOn G wf w := fun k hk => (h.fix k hk).1
theorem Held2.next (h : Held2 w0 wf w F G m rs B E) (hb : Below w.heap.size w w') : Held2 w0 wf w' F G m rs B E :=
  ⟨h.held.next hb, fun k hk => ⟨(hb.block k (h.fix k hk).2.1).trans (h.fix k hk).1, Nat.lt_of_lt_of_le (h.fix k hk).2.1 hb.size, (h.fix k hk).2.2⟩, h.evg⟩
/-- What a call made stands from now on. -/
theorem Held2.grow (h : Held2 w0 wf w F G m rs B E) (hb : Below w.heap.size w w') : Held2 w0 w' w' F (fun k => G k ∨ (w.heap.size ≤ k ∧ k < w'.heap.size)) m rs B E :=
  ⟨h.held.next hb, fun k hk => ⟨rfl, by
    rcases hk with hk | hk
    · exact Nat.lt_of_lt_of_le (h.fix k hk).2.1 hb.size
    · exact hk.2, fun hF => by
    rcases hk with hk | hk
    · exact (h.fix k hk).2.2.1 hF
    · have := h.held.lt k hF; omega, fun y hy e => by
    rcases hk with hk | hk
    · exact (h.fix k hk).2.2.2 y hy e
    · have := h.held.lt_box hy; omega⟩, fun x hx g hg hk => by
    rcases hk with hk | hk
    · exact h.evg x hx g hg hk
    · have := (own_lt (h.held.ev x hx).1 g hg).1; omega⟩
/-- The other memory takes the part of the first, which stands. -/
theorem Held2.swap (h : Held2 w0 wf w F G m rs B E) {F' : Nat → Prop} {m' : Value} {rs' : List Reg} (hm : MemAt wf F' m' rs') (hF : ∀ k, F' k → G k) (hge : ∀ k, F' k → w0.heap.size ≤ k) : Held2 w0 w w F' (fun k => (G k ∧ ¬ F' k) ∨ F k) m' rs' B E := by
  refine ⟨⟨h.held.below, hm.keep (h.same_.mono hF), fun k hk => (h.fix k (hF k hk)).2.1, hge, h.held.nd, fun x hx => ⟨(h.held.box x hx).1, (h.held.box x hx).2.1, fun hk => (h.fix _ (hF _ hk)).2.2.2 x hx rfl, (h.held.box x hx).2.2.2⟩,
    fun x hx => ⟨(h.held.ev x hx).1, fun g hg => ⟨fun hk => h.evg x hx g hg (hF g hk), ((h.held.ev x hx).2 g hg).2⟩⟩⟩, fun k hk => ?_, fun x hx g hg hk => ?_⟩
  · rcases hk with ⟨hk, hn⟩ | hk
    · exact ⟨rfl, (h.fix k hk).2.1, hn, (h.fix k hk).2.2.2⟩
    · exact ⟨rfl, h.held.lt k hk, fun hk' => (h.fix k (hF k hk')).2.2.1 hk, fun y hy e => (h.held.box y hy).2.2.1 (e ▸ hk)⟩
  · rcases hk with ⟨hk, _⟩ | hk
    · exact h.evg x hx g hg hk
    · exact ((h.held.ev x hx).2 g hg).1 hk
theorem Held2.put_ (h : Held2 w0 wf w F G m rs B E) {i g : Nat} {s s' : St} (hi : B[i]? = some (g, s)) (hh : Held w0 w' F m rs (B.set i (g, s')) E) (hz : w'.heap.size = w.heap.size) (ho : ∀ k, k ≠ g → w'.heap[k]? = w.heap[k]?) : Held2 w0 wf w' F G m rs (B.set i (g, s')) E := by
  have hgm := List.mem_of_getElem? hi
  refine ⟨hh, fun k hk => ?_, h.evg⟩
  obtain ⟨h1, h2, h3, h4⟩ := h.fix k hk
  refine ⟨(ho k fun e => h4 _ hgm e.symm).trans h1, by rw [hz]; exact h2, h3, fun y hy => ?_⟩
  rcases List.mem_or_eq_of_mem_set hy with hy | rfl
  · exact h4 y hy
  · exact h4 (g, s) hgm
theorem Held2.setRow (h : Held2 w0 wf w F G m rs B E) {i g : Nat} {s s' : St} (hi : B[i]? = some (g, s)) (hs : StOk s') : Held2 w0 wf (w.setRow g (stRow s').toArray) F G m rs (B.set i (g, s')) E :=
  h.put_ hi (h.held.setRow hi hs) (by simp [World.setRow]) fun k hk => setRow_other _ _ _ _ hk
theorem Held2.setCell (h : Held2 w0 wf w F G m rs B E) {i g : Nat} {s s' : St} (hi : B[i]? = some (g, s)) (k : Nat) (v : Value) (hv : (stRow s).set k v = stRow s') (hs : StOk s') : Held2 w0 wf (w.setCell ⟨g, k, none⟩ v) F G m rs (B.set i (g, s')) E :=
  h.put_ hi (h.held.setCell hi k v hv hs) (by simp [World.setCell]) fun k hk => Below.heap_setCell _ _ _ _ hk
theorem Held2.fresh (h : Held2 w0 wf w F G m rs B E) (zs : Array Value) {s : St} (hs : StOk s) : Held2 w0 wf ((w.alloc (.cells zs 25)).setRow w.heap.size (stRow s).toArray) F G m rs ((w.heap.size, s) :: B) E := by
  refine ⟨h.held.fresh zs hs, fun k hk => ?_, h.evg⟩
  obtain ⟨h1, h2, h3, h4⟩ := h.fix k hk
  refine ⟨((setRow_other _ _ _ _ (by omega)).trans (heap_alloc_old w _ h2)).trans h1, by simp [World.setRow]; omega, h3, fun y hy => ?_⟩
  rcases List.mem_cons.1 hy with rfl | hy
  · show w.heap.size ≠ k; omega
  · exact h4 y hy
theorem Held2.Do (h : Held2 w0 wf w F G m rs B E) (i : Nat) {g : Nat} {s : St} (hi : B[i]? = some (g, s)) (ins : Ins) (hio : InsOk ins) (size : Int) {r : StepR} (hr : r = stepF s ins size rs) :
    Calls Tryz.prog 11 #[.agg (stRow s).toArray, .agg (insRow ins).toArray, .int .i64 size, m] w fun e w' => ∃ A c, e = .returned (.tuple #[.agg (stRow r.st).toArray, .slice A r.evs.length c, .int .i64 r.code]) ∧ Held2 w0 wf w' F G m r.rs B ((.slice A r.evs.length c, r.evs) :: E) := by
  refine (Do_any s ins size m w F rs (h.held.ok i hi) hio h.held.mem h.held.lt).mono ?_
  rintro e w' ⟨v, rfl, hc, hm, hrow⟩
  rw [← hr] at hm hrow ⊢
  obtain ⟨A, c, rfl⟩ : ∃ A c, v = .slice A r.evs.length c := by
    rcases hrow.2 with ⟨h1, h2⟩ | ⟨g', cap', cur, hv, _⟩
    · exact ⟨none, 0, by rw [h1, h2]⟩
    · exact ⟨_, _, hv⟩
  refine ⟨A, c, rfl, ⟨(h.held.step hc hm).seen hrow h.held, fun k hk => ?_, fun x hx g hg hk => ?_⟩⟩
  · obtain ⟨h1, h2, h3, h4⟩ := h.fix k hk
    exact ⟨(hc.far h2 h2 h3).trans h1, Nat.lt_of_lt_of_le h2 hc.size, h3, h4⟩
  · rcases List.mem_cons.1 hx with rfl | hx
    · have := (own_lt hrow g hg).2
      have := (h.fix g hk).2.1
      omega
    · exact h.evg x hx g hg hk

variable {ops : Array Oper} {rest : List Oper} {o : Oper} {a : Act} {Q : Exit → Act → World → Prop}
theorem Held2.load_row (h : Held2 w0 wf w F G m rs B E) (i : Nat) {g : Nat} {s : St} (hi : B[i]? = some (g, s)) (hg : o.guard = none) (y : Operand) (ho : o.op = .load 25 y) (hx : a.eval y = .pointer (some ⟨g, 0, none⟩)) (k : wpList Tryz.prog ops Q rest (a.put o.dst (.agg (stRow s).toArray)) w) : wpList Tryz.prog ops Q (o :: rest) a w :=
  h.held.load_row i hi hg y ho hx k
/-- An instruction that stands is loaded. -/
theorem Held2.load_ins (h : Held2 w0 wf w F G m rs B E) {g : Nat} {i : Ins} (hG : G g) (hf : wf.heap[g]? = some (.cells (insRow i).toArray 29 (0, 0))) (hg : o.guard = none) (y : Operand) (ho : o.op = .load 29 y) (hx : a.eval y = .pointer (some ⟨g, 0, none⟩)) (k : wpList Tryz.prog ops Q rest (a.put o.dst (.agg (insRow i).toArray)) w) : wpList Tryz.prog ops Q (o :: rest) a w :=
  wpList_val_ex hg (exec_load_row 29 y ho g hx _ _ _ ((h.fix g hG).1.trans hf) _ Tryz.underlying29 rfl infoIns) k
theorem Held2.store_fresh (h : Held2 w0 wf w F G m rs B E) {s : St} (hs : StOk s) (hg : o.guard = none) (x y : Operand) (ho : o.op = .store 25 x y) (zs : Array Value) (hz : zs.size = 20) (hx : a.eval x = .pointer (some ⟨w.heap.size, 0, none⟩)) (hy : a.eval y = .agg (stRow s).toArray)
    (k : ∀ W, Held2 w0 wf W F G m rs ((w.heap.size, s) :: B) E → wpList Tryz.prog ops Q rest (a.put o.dst undef) W) : wpList Tryz.prog ops Q (o :: rest) a (w.alloc (.cells zs 25)) :=
  wpList_skip_ex hg (exec_store_row 25 x y ho w.heap.size _ hx hy 25 zs (heap_alloc_new w _) (by rw [stRow_size hs]; exact infoSt) (by rw [stRow_size hs, hz]) (stRow_one _)) (k _ (h.fresh zs hs))
end
end Go.Proofs.YtmanhikpccnfaaaGreat
