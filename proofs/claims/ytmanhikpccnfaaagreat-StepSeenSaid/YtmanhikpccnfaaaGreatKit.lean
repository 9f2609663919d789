/- keysmithkit.LightRegions, keysmithref04.Same. -/
import Derived.Test.YtmanhikpccnfaaaGreatLoad
import Derived.Lib.BufferRead
namespace Go.Proofs.YtmanhikpccnfaaaGreat
open Go.RowKit

/-- keysmithkit.LightRegions. -/
def lightR (l : List Reg) : Bool := (l.take 11).all (fun r => decide (r.bytes.length ≤ 300)) && decide (l.length ≤ 10)

theorem lightR_no {l : List Reg} {k : Nat} {r : Reg} (hk : l[k]? = some r) (h11 : k < 11) (h : 300 < r.bytes.length) : lightR l = false := by
  have : (l.take 11).all (fun r => decide (r.bytes.length ≤ 300)) = false := by
    rw [List.all_eq_false]
    exact ⟨r, List.mem_of_getElem? (by rw [List.getElem?_take, if_pos h11]; exact hk), by simp; omega⟩
  simp [lightR, this]
theorem lightR_end {l : List Reg} {k : Nat} (hk : k = l.length ∨ k = 11) (h : ∀ (j : Nat) (r : Reg), j < k → l[j]? = some r → r.bytes.length ≤ 300) : lightR l = decide (l.length ≤ 10) := by
  have : (l.take 11).all (fun r => decide (r.bytes.length ≤ 300)) = true := by
    rw [List.all_eq_true]
    intro r hr
    obtain ⟨j, hj⟩ := List.mem_iff_getElem?.1 hr
    rw [List.getElem?_take] at hj
    split at hj
    · rename_i hlt
      have hjl := (List.getElem?_eq_some_iff.1 hj).1
      have := h j r (by rcases hk with rfl | rfl <;> omega) hj
      simpa using this
    · cases hj
  simp [lightR, this]

set_option maxRecDepth 100000 in
set_option maxHeartbeats 800000 in
theorem Light_any (v : Value) (w : World) (F : Nat → Prop) (l : List Reg) (hn : l.length ≤ 9223372036854775807) (hl : RegsAt w F v l) :
    Calls Tryz.prog 7 #[v] w fun e w' => e = .returned (.bool (lightR l)) ∧ Below w.heap.size w w' := by
  obtain ⟨A, c, rfl, hc⟩ := hl.form
  have HL := Lib.hid hl
  clear hl hc
  generalize hln : l.length = n at *
  have HN := Lib.hid hln
  clear hln
  go_enter Tryz.func7, Tryz.ntmps7
  go_wp2
  go_loop [3] (fun i => ∃ k : Nat, k ≤ n ∧ k ≤ 11 ∧ i = .int .i64 k ∧ ∀ (j : Nat) (r : Reg), j < k → l[j]? = some r → r.bytes.length ≤ 300) (fun i => n - (intOf i).toNat)
  case atStart => exact ⟨0, by omega, by omega, rfl, fun j r hj => absurd hj (by omega)⟩
  case round =>
    obtain ⟨k, hk, hk11, rfl, hall⟩ := hrel
    have HALL := Lib.hid hall
    clear hall
    by_cases hlt : k < n
    · have d1 : decide (k < n) = true := by simpa using hlt
      by_cases h11 : k < 11
      · have d2 : decide ((k : Int) < 11) = true := by simp; omega
        obtain ⟨r, hr⟩ : ∃ r, l[k]? = some r := ⟨_, List.getElem?_eq_getElem (by have := HN.out; omega)⟩
        obtain ⟨b, off, A', c', rfl, hFb, h0, h1, h2, hby, hb64, hlen⟩ := HL.out.at_ hr
        have HR := Lib.hid hr
        have hb := World.block_lt_of_cell? w _ h1
        have i0 : (0 : Int) ≤ (k : Int) := by omega
        have i1 : (k : Int) < (n : Int) := by omega
        clear hby hr h0 h2 hb64
        by_cases h3 : 300 < r.bytes.length
        · have h3' : (300 : Int) < (r.bytes.length : Int) := by omega
          have HH := Lib.hid h3
          clear h3
          go_wp2
          go_ret
          exact ⟨ret_bool (lightR_no HR.out h11 HH.out).symm, Below.refl _ _⟩
        · have h3' : (r.bytes.length : Int) ≤ (300 : Int) := by omega
          have HH := Lib.hid h3
          clear h3
          go_wp2
          go_round
          case rel => exact ⟨k + 1, by omega, by omega, by go_num, fun j r' hj hr' => by
            rcases Nat.lt_or_ge j k with h | h
            · exact HALL.out j r' h hr'
            · obtain rfl : j = k := by omega
              have h1 := HR.out
              rw [h1] at hr'
              cases hr'
              have := HH.out; omega⟩
          case measure => simp [intOf]; omega
      · have d2 : decide ((k : Int) < 11) = false := by simp; omega
        have hk' : k = l.length ∨ k = 11 := by omega
        have hle := lightR_end hk' HALL.out
        rw [HN.out] at hle
        have HE := Lib.hid hle
        clear hle hk'
        go_wp2
        go_ret
        exact ⟨ret_bool (by rw [HE.out]; simp; omega), Below.refl _ _⟩
    · have d1 : decide (k < n) = false := by simpa using hlt
      have hk' : k = l.length ∨ k = 11 := by have := HN.out; omega
      have hle := lightR_end hk' HALL.out
      rw [HN.out] at hle
      have HE := Lib.hid hle
      clear hle hk'
      go_wp2
      go_ret
      exact ⟨ret_bool (by rw [HE.out]; simp; omega), Below.refl _ _⟩
/-- keysmithref04.Same. -/
def regEq (a b : Reg) : Bool := (a.base == b.base && a.write == b.write) && a.bytes == b.bytes
def sameR (a b : List Reg) : Bool := a.length == b.length && (a.zip b).all fun x => regEq x.1 x.2

theorem regEq_iff (a b : Reg) : regEq a b = true ↔ a = b := by
  cases a; cases b
  simp only [regEq, Bool.and_eq_true, beq_iff_eq, Reg.mk.injEq]
  constructor
  · rintro ⟨⟨h1, h2⟩, h3⟩; exact ⟨h1, h3, h2⟩
  · rintro ⟨h1, h2, h3⟩; exact ⟨⟨h1, h3⟩, h2⟩
theorem sameR_iff (a b : List Reg) : sameR a b = true ↔ a = b := by
  induction a generalizing b with
  | nil => cases b <;> simp [sameR]
  | cons x a ih =>
    cases b with
    | nil => simp [sameR]
    | cons y b =>
      have h1 := ih b
      have h2 := regEq_iff x y
      simp only [sameR, List.length_cons, List.zip_cons_cons, List.all_cons, Bool.and_eq_true, beq_iff_eq, List.cons.injEq] at h1 ⊢
      rw [← h1, ← h2]
      constructor
      · rintro ⟨h1, h2, h3⟩; exact ⟨h2, by omega, h3⟩
      · rintro ⟨h1, h2, h3⟩; exact ⟨by omega, h1, h3⟩
theorem sameR_len {a b : List Reg} (h : a.length ≠ b.length) : sameR a b = false := by
  cases hs : sameR a b
  · rfl
  · exact absurd (congrArg List.length ((sameR_iff a b).1 hs)) h
theorem sameR_no {a b : List Reg} {k : Nat} {x y : Reg} (h1 : a[k]? = some x) (h2 : b[k]? = some y) (h : x ≠ y) : sameR a b = false := by
  cases hs : sameR a b
  · rfl
  · have := (sameR_iff a b).1 hs
    subst this
    rw [h1] at h2
    cases h2
    exact absurd rfl h
theorem sameR_yes {a b : List Reg} (hl : a.length = b.length) (h : ∀ (j : Nat) (x y : Reg), j < a.length → a[j]? = some x → b[j]? = some y → x = y) : sameR a b = true := by
  rw [sameR_iff]
  refine List.ext_getElem hl fun j h1 h2 => ?_
  exact h j _ _ h1 (List.getElem?_eq_getElem h1) (List.getElem?_eq_getElem h2)

theorem flat_bytes (l : List UInt8) : (l.map fun x => [byteV x]).flatten = l.map byteV := by
  induction l with
  | nil => rfl
  | cons x l ih => rw [List.map_cons, List.flatten_cons, ih]; rfl

/-- string(b), whatever bytes b is. -/
theorem conv_bytes {w : World} {F : Nat → Prop} {A : Option Addr} {n c : Nat} {l : List UInt8} (h : BytesAt w F (.slice A n c) l) : (convert 36 9 (.slice A n c)).run Tryz.prog w = .ok (.string ⟨l.toArray⟩) w := by
  have h' := h
  obtain ⟨A', c', hv, hc, hl, hne⟩ := h
  cases hv
  simp only [List.length_map] at hc ⊢
  cases A with
  | none =>
    have h0 : l = [] := by
      cases l with
      | nil => rfl
      | cons x l => obtain ⟨b, off, hA, _⟩ := hne (by simp); cases hA
    subst h0
    exact Lib.run_convert_nil_bytes w 36 9 5 c Tryz.underlying36 Tryz.underlying5 Tryz.underlying9
  | some ad =>
    obtain ⟨_, hfc⟩ := Rows.flat h' (by decide)
    refine run_convert_bytes_back (P := Tryz.prog) w 36 9 5 ad c l Tryz.underlying36 Tryz.underlying5 Tryz.underlying9 (fun j hj => ?_)
    refine hfc j _ ?_
    rw [flat_bytes, List.getElem?_map, List.getElem?_eq_getElem hj]
    rfl

set_option maxRecDepth 100000 in
set_option maxHeartbeats 1600000 in
theorem Same_any (v u : Value) (w : World) (F : Nat → Prop) (a b : List Reg) (hn : a.length ≤ 9223372036854775807) (ha : RegsAt w F v a) (hb : RegsAt w F u b) (hF : ∀ k, F k → k < w.heap.size) :
    Calls Tryz.prog 14 #[v, u] w fun e w' => e = .returned (.bool (sameR a b)) ∧ Below w.heap.size w w' := by
  obtain ⟨A, c, rfl, hc⟩ := ha.form
  obtain ⟨B, d, rfl, hd⟩ := hb.form
  have HA := Lib.hid ha
  have HB := Lib.hid hb
  have HF := Lib.hid hF
  clear ha hb hc hd hF
  by_cases hlen : a.length = b.length
  · rw [← hlen]
    generalize hln : a.length = n at *
    have HN := Lib.hid hln
    have HN2 := Lib.hid hlen
    clear hln hlen
    have hnn : (n != n) = false := by simp
    have hnn2 : ((n : Int) != (n : Int)) = false := by simp
    go_enter Tryz.func14, Tryz.ntmps14
    go_wp2
    go_loopw [5] (fun i wr => ∃ k : Nat, k ≤ n ∧ i = .int .i64 k ∧ Below w.heap.size w wr ∧ ∀ (j : Nat) (x y : Reg), j < k → a[j]? = some x → b[j]? = some y → x = y) (fun i _ => n - (intOf i).toNat)
    case atStart => exact ⟨0, by omega, rfl, Below.refl _ _, fun j x y hj => absurd hj (by omega)⟩
    case round =>
      obtain ⟨k, hk, rfl, hbl, hall⟩ := hrel
      have HALL := Lib.hid hall
      have HBL := Lib.hid hbl
      clear hall hbl
      by_cases hlt : k < n
      · obtain ⟨r, hr⟩ : ∃ r, a[k]? = some r := ⟨_, List.getElem?_eq_getElem (by have := HN.out; omega)⟩
        obtain ⟨s, hs⟩ : ∃ s, b[k]? = some s := ⟨_, List.getElem?_eq_getElem (by have := HN2.out; omega)⟩
        obtain ⟨b1, o1, A1, c1, rfl, hF1, p0, p1, p2, hby1, _, _⟩ := HA.out.at_ hr
        obtain ⟨b2, o2, A2, c2, rfl, hF2, q0, q1, q2, hby2, _, _⟩ := HB.out.at_ hs
        have l1 : b1 < wr.heap.size := Nat.lt_of_lt_of_le (HF.out b1 hF1) HBL.out.size
        have l2 : b2 < wr.heap.size := Nat.lt_of_lt_of_le (HF.out b2 hF2) HBL.out.size
        have g0 := (HBL.out.cell (p := ⟨b1, o1 + k * 3, none⟩) (HF.out b1 hF1)).trans p0
        have g1 := (HBL.out.cell (p := ⟨b1, o1 + k * 3 + 1, none⟩) (HF.out b1 hF1)).trans p1
        have g2 := (HBL.out.cell (p := ⟨b1, o1 + k * 3 + 2, none⟩) (HF.out b1 hF1)).trans p2
        have h0 := (HBL.out.cell (p := ⟨b2, o2 + k * 3, none⟩) (HF.out b2 hF2)).trans q0
        have h1 := (HBL.out.cell (p := ⟨b2, o2 + k * 3 + 1, none⟩) (HF.out b2 hF2)).trans q1
        have h2 := (HBL.out.cell (p := ⟨b2, o2 + k * 3 + 2, none⟩) (HF.out b2 hF2)).trans q2
        have m1 : ∀ w_, Below wr.heap.size wr w_ → (convert 36 9 (.slice A1 r.bytes.length c1)).run Tryz.prog w_ = .ok (.string ⟨r.bytes.toArray⟩) w_ := fun w_ hw_ => conv_bytes (hby1.keep (SameOn.of_below (HBL.out.trans (hw_.mono HBL.out.size)) HF.out))
        have m2 : ∀ w_, Below wr.heap.size wr w_ → (convert 36 9 (.slice A2 s.bytes.length c2)).run Tryz.prog w_ = .ok (.string ⟨s.bytes.toArray⟩) w_ := fun w_ hw_ => conv_bytes (hby2.keep (SameOn.of_below (HBL.out.trans (hw_.mono HBL.out.size)) HF.out))
        have i0 : (0 : Int) ≤ (k : Int) := by omega
        have i1 : (k : Int) < (n : Int) := by omega
        have HR := Lib.hid hr
        have HS := Lib.hid hs
        clear p0 p1 p2 q0 q1 q2 hby1 hby2 hr hs
        by_cases e0 : r.base = s.base
        · have e0' : ((r.base : Int) != (s.base : Int)) = false := by simp [e0]
          have E0 := Lib.hid e0
          clear e0
          by_cases e1 : r.write = s.write
          · have e1' : (r.write == s.write) = true := by simpa using e1
            have E1 := Lib.hid e1
            clear e1
            by_cases e2 : r.bytes = s.bytes
            · have e2' : (r.bytes == s.bytes) = true := by simpa using e2
              have hrs : r = s := by have h0 := E0.out; have h1 := E1.out; cases r; cases s; simp_all
              have HRS := Lib.hid hrs
              clear e2 hrs
              go_wp2
              (refine wp_region_lines (Below wr.heap.size wr) (by kernel_rfl) (by kernel_rfl) (Below.refl _ _).drew ?_)
              have hS := (Below.refl wr.heap.size wr).drew
              (try simp only [])
              repeat (first | (refine runL_no (by rfl) ?_; (try simp only [Act.put, List.setIfInBounds_toArray, List.set_cons_zero, List.set_cons_succ])) | (refine runL_val (v := ?_) (by rfl) ?_ ?_; rotate_left; (focus (intro w_ hw_; have hc_ := bcell hw_; go_simp; (try with_reducible rfl); done)); (try simp only [Act.put, List.setIfInBounds_toArray, List.set_cons_zero, List.set_cons_succ])))
              (refine runL_nil ?_)
              go_wp2
              go_roundw
              case rel => exact ⟨k + 1, by omega, by go_num, HBL.out.trans (hS.mono HBL.out.size), fun j x y hj hx hy => by
                rcases Nat.lt_or_ge j k with h | h
                · exact HALL.out j x y h hx hy
                · obtain rfl : j = k := by omega
                  have h1 := HR.out
                  have h2 := HS.out
                  rw [h1] at hx
                  rw [h2] at hy
                  cases hx
                  cases hy
                  exact HRS.out⟩
              case measure => simp [intOf]; omega
            · have e2' : (r.bytes == s.bytes) = false := by simpa using e2
              have hno := sameR_no HR.out HS.out (fun e => e2 (by rw [e]))
              have HNO := Lib.hid hno
              clear hno e2
              go_wp2
              (refine wp_region_lines (Below wr.heap.size wr) (by kernel_rfl) (by kernel_rfl) (Below.refl _ _).drew ?_)
              have hS := (Below.refl wr.heap.size wr).drew
              (try simp only [])
              repeat (first | (refine runL_no (by rfl) ?_; (try simp only [Act.put, List.setIfInBounds_toArray, List.set_cons_zero, List.set_cons_succ])) | (refine runL_val (v := ?_) (by rfl) ?_ ?_; rotate_left; (focus (intro w_ hw_; have hc_ := bcell hw_; go_simp; (try with_reducible rfl); done)); (try simp only [Act.put, List.setIfInBounds_toArray, List.set_cons_zero, List.set_cons_succ])))
              (refine runL_nil ?_)
              go_wp2
              go_ret
              exact ⟨ret_bool HNO.out.symm, HBL.out.trans (hS.mono HBL.out.size)⟩
          · have e1' : (r.write == s.write) = false := by simpa using e1
            have hno := sameR_no HR.out HS.out (fun e => e1 (by rw [e]))
            have HNO := Lib.hid hno
            clear hno e1
            go_wp2
            (refine wp_region_lines (Below wr.heap.size wr) (by kernel_rfl) (by kernel_rfl) (Below.refl _ _).drew ?_)
            have hS := (Below.refl wr.heap.size wr).drew
            (try simp only [])
            repeat (first | (refine runL_no (by rfl) ?_; (try simp only [Act.put, List.setIfInBounds_toArray, List.set_cons_zero, List.set_cons_succ])) | (refine runL_val (v := ?_) (by rfl) ?_ ?_; rotate_left; (focus (intro w_ hw_; have hc_ := bcell hw_; go_simp; (try with_reducible rfl); done)); (try simp only [Act.put, List.setIfInBounds_toArray, List.set_cons_zero, List.set_cons_succ])))
            (refine runL_nil ?_)
            go_wp2
            go_ret
            exact ⟨ret_bool HNO.out.symm, HBL.out.trans (hS.mono HBL.out.size)⟩
        · have e0' : ((r.base : Int) != (s.base : Int)) = true := by simp; omega
          have hno := sameR_no HR.out HS.out (fun e => e0 (by rw [e]))
          have HNO := Lib.hid hno
          clear hno e0
          go_wp2
          (refine wp_region_lines (Below wr.heap.size wr) (by kernel_rfl) (by kernel_rfl) (Below.refl _ _).drew ?_)
          have hS := (Below.refl wr.heap.size wr).drew
          (try simp only [])
          repeat (first | (refine runL_no (by rfl) ?_; (try simp only [Act.put, List.setIfInBounds_toArray, List.set_cons_zero, List.set_cons_succ])) | (refine runL_val (v := ?_) (by rfl) ?_ ?_; rotate_left; (focus (intro w_ hw_; have hc_ := bcell hw_; go_simp; (try with_reducible rfl); done)); (try simp only [Act.put, List.setIfInBounds_toArray, List.set_cons_zero, List.set_cons_succ])))
          (refine runL_nil ?_)
          go_wp2
          go_ret
          exact ⟨ret_bool HNO.out.symm, HBL.out.trans (hS.mono HBL.out.size)⟩
      · have hyes := sameR_yes (a := a) (b := b) (by have := HN.out; have := HN2.out; omega) (by have := HN.out; have := HALL.out; intro j x y hj; exact this j x y (by omega))
        have HY := Lib.hid hyes
        clear hyes
        go_wp2
        go_ret
        exact ⟨ret_bool HY.out.symm, HBL.out⟩
  · have hs := sameR_len hlen
    have HS := Lib.hid hs
    have hne : ((a.length : Int) != (b.length : Int)) = true := by simp; omega
    have hne2 : (a.length != b.length) = true := by simp; omega
    clear hs hlen
    go_enter Tryz.func14, Tryz.ntmps14
    go_wp2
    go_ret
    exact ⟨ret_bool HS.out.symm, Below.refl _ _⟩
end Go.Proofs.YtmanhikpccnfaaaGreat
