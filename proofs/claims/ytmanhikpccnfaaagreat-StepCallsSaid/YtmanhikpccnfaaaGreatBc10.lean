/- keysmithkit.LightRegions, keysmithref04.Same. -/
import Derived.Test.YtmanhikpccnfaaaGreatBc4
import Derived.Lib.BufferRead
import Derived.Test.YtmanhikpccnfaaaGreatBc7
import Derived.Deep.DeepCutAuto
import Derived.Outline
import Derived.Test.YtmanhikpccnfaaaGreatBc2
import Derived.Test.YtmanhikpccnfaaaGreatBc9
import Derived.Maps.AppendAt
namespace Go.Proofs.YtmanhikpccnfaaaGreat
open Go.RowKit

/-- keysmithkit.LightRegions. -/
def lightR (l : List Reg) : Bool := (l.take 11).all (fun r => decide (r.bytes.length ≤ 300)) && decide (l.length ≤ 10)

theorem lightR_no {l : List Reg} {k : Nat} {r : Reg} (hk : l[k]? = some r) (h11 : k < 11) (h : 300 < r.bytes.length) : lightR l = false := by
  have : (l.take 11).all (fun r => decide (r.bytes.length ≤ 300)) = false := by
    rw [List.all_eq_false]
    exact ⟨r, List.mem_of_getElem? (by rw [List.getElem?_take, if_pos h11]; exact hk), by simp; omega⟩
  simp [lightR, this]
theorem lightR_end {l : List Reg} {k : Nat} (hk : k = l.length ∨ k = 11) (h : ∀ (j : Nat) (r : Reg), j < k → l[j]? = some r → r.bytes.length ≤ 300) : lightR l = decide (l.length ≤ 10) := by
  have : (l.take 11).all (fun r => decide (r.bytes.length ≤ 300)) = true := by
    rw [List.all_eq_true]
    intro r hr
    obtain ⟨j, hj⟩ := List.mem_iff_getElem?.1 hr
    rw [List.getElem?_take] at hj
    split at hj
    · rename_i hlt
      have hjl := (List.getElem?_eq_some_iff.1 hj).1
      have := h j r (by rcases hk with rfl | rfl <;> omega) hj
      simpa using this
    · cases hj
  simp [lightR, this]

set_option maxRecDepth 100000 in
set_option maxHeartbeats 800000 in
theorem Light_any (v : Value) (w : World) (F : Nat → Prop) (l : List Reg) (hn : l.length ≤ 9223372036854775807) (hl : RegsAt w F v l) :
    Calls Tryz.prog 7 #[v] w fun e w' => e = .returned (.bool (lightR l)) ∧ Below w.heap.size w w' := by
  obtain ⟨A, c, rfl, hc⟩ := hl.form
  have HL := Lib.hid hl
  clear hl hc
  generalize hln : l.length = n at *
  have HN := Lib.hid hln
  clear hln
  go_enter Tryz.func7, Tryz.ntmps7
  go_wp2
  go_loop [3] (fun i => ∃ k : Nat, k ≤ n ∧ k ≤ 11 ∧ i = .int .i64 k ∧ ∀ (j : Nat) (r : Reg), j < k → l[j]? = some r → r.bytes.length ≤ 300) (fun i => n - (intOf i).toNat)
  case atStart => exact ⟨0, by omega, by omega, rfl, fun j r hj => absurd hj (by omega)⟩
  case round =>
    obtain ⟨k, hk, hk11, rfl, hall⟩ := hrel
    have HALL := Lib.hid hall
    clear hall
    by_cases hlt : k < n
    · have d1 : decide (k < n) = true := by simpa using hlt
      by_cases h11 : k < 11
      · have d2 : decide ((k : Int) < 11) = true := by simp; omega
        obtain ⟨r, hr⟩ : ∃ r, l[k]? = some r := ⟨_, List.getElem?_eq_getElem (by have := HN.out; omega)⟩
        obtain ⟨b, off, A', c', rfl, hFb, h0, h1, h2, hby, hb64, hlen⟩ := HL.out.at_ hr
        have HR := Lib.hid hr
        have hb := World.block_lt_of_cell? w _ h1
        have i0 : (0 : Int) ≤ (k : Int) := by omega
        have i1 : (k : Int) < (n : Int) := by omega
        clear hby hr h0 h2 hb64
        by_cases h3 : 300 < r.bytes.length
        · have h3' : (300 : Int) < (r.bytes.length : Int) := by omega
          have HH := Lib.hid h3
          clear h3
          go_wp2
          go_ret
          exact ⟨ret_bool (lightR_no HR.out h11 HH.out).symm, Below.refl _ _⟩
        · have h3' : (r.bytes.length : Int) ≤ (300 : Int) := by omega
          have HH := Lib.hid h3
          clear h3
          go_wp2
          go_round
          case rel => exact ⟨k + 1, by omega, by omega, by go_num, fun j r' hj hr' => by
            rcases Nat.lt_or_ge j k with h | h
            · exact HALL.out j r' h hr'
            · obtain rfl : j = k := by omega
              have h1 := HR.out
              rw [h1] at hr'
              cases hr'
              have := HH.out; omega⟩
          case measure => simp [intOf]; omega
      · have d2 : decide ((k : Int) < 11) = false := by simp; omega
        have hk' : k = l.length ∨ k = 11 := by omega
        have hle := lightR_end hk' HALL.out
        rw [HN.out] at hle
        have HE := Lib.hid hle
        clear hle hk'
        go_wp2
        go_ret
        exact ⟨ret_bool (by rw [HE.out]; simp; omega), Below.refl _ _⟩
    · have d1 : decide (k < n) = false := by simpa using hlt
      have hk' : k = l.length ∨ k = 11 := by have := HN.out; omega
      have hle := lightR_end hk' HALL.out
      rw [HN.out] at hle
      have HE := Lib.hid hle
      clear hle hk'
      go_wp2
      go_ret
      exact ⟨ret_bool (by rw [HE.out]; simp; omega), Below.refl _ _⟩
/-- keysmithref04.Same. -/
def regEq (a b : Reg) : Bool := (a.base == b.base && a.write == b.write) && a.bytes == b.bytes
def sameR (a b : List Reg) : Bool := a.length == b.length && (a.zip b).all fun x => regEq x.1 x.2

theorem regEq_iff (a b : Reg) : regEq a b = true ↔ a = b := by
  cases a; cases b
  simp only [regEq, Bool.and_eq_true, beq_iff_eq, Reg.mk.injEq]
  constructor
  · rintro ⟨⟨h1, h2⟩, h3⟩; exact ⟨h1, h3, h2⟩
  · rintro ⟨h1, h2, h3⟩; exact ⟨⟨h1, h3⟩, h2⟩
theorem sameR_iff (a b : List Reg) : sameR a b = true ↔ a = b := by
  induction a generalizing b with
  | nil => cases b <;> simp [sameR]
  | cons x a ih =>
    cases b with
    | nil => simp [sameR]
    | cons y b =>
      have h1 := ih b
      have h2 := regEq_iff x y
      simp only [sameR, List.length_cons, List.zip_cons_cons, List.all_cons, Bool.and_eq_true, beq_iff_eq, List.cons.injEq] at h1 ⊢
      rw [← h1, ← h2]
      constructor
      · rintro ⟨h1, h2, h3⟩; exact ⟨h2, by omega, h3⟩
      · rintro ⟨h1, h2, h3⟩; exact ⟨by omega, h1, h3⟩
theorem sameR_len {a b : List Reg} (h : a.length ≠ b.length) : sameR a b = false := by
  cases hs : sameR a b
  · rfl
  · exact absurd (congrArg List.length ((sameR_iff a b).1 hs)) h
theorem sameR_no {a b : List Reg} {k : Nat} {x y : Reg} (h1 : a[k]? = some x) (h2 : b[k]? = some y) (h : x ≠ y) : sameR a b = false := by
  cases hs : sameR a b
  · rfl
  · have := (sameR_iff a b).1 hs
    subst this
    rw [h1] at h2
    cases h2
    exact absurd rfl h
theorem sameR_yes {a b : List Reg} (hl : a.length = b.length) (h : ∀ (j : Nat) (x y : Reg), j < a.length → a[j]? = some x → b[j]? = some y → x = y) : sameR a b = true := by
  rw [sameR_iff]
  refine List.ext_getElem hl fun j h1 h2 => ?_
  exact h j _ _ h1 (List.getElem?_eq_getElem h1) (List.getElem?_eq_getElem h2)

theorem flat_bytes (l : List UInt8) : (l.map fun x => [byteV x]).flatten = l.map byteV := by
  induction l with
  | nil => rfl
  | cons x l ih => rw [List.map_cons, List.flatten_cons, ih]; rfl

/-- string(b), whatever bytes b is. -/
theorem conv_bytes {w : World} {F : Nat → Prop} {A : Option Addr} {n c : Nat} {l : List UInt8} (h : BytesAt w F (.slice A n c) l) : (convert 36 9 (.slice A n c)).run Tryz.prog w = .ok (.string ⟨l.toArray⟩) w := by
  have h' := h
  obtain ⟨A', c', hv, hc, hl, hne⟩ := h
  cases hv
  simp only [List.length_map] at hc ⊢
  cases A with
  | none =>
    have h0 : l = [] := by
      cases l with
      | nil => rfl
      | cons x l => obtain ⟨b, off, hA, _⟩ := hne (by simp); cases hA
    subst h0
    exact Lib.run_convert_nil_bytes w 36 9 5 c Tryz.underlying36 Tryz.underlying5 Tryz.underlying9
  | some ad =>
    obtain ⟨_, hfc⟩ := Rows.flat h' (by decide)
    refine run_convert_bytes_back (P := Tryz.prog) w 36 9 5 ad c l Tryz.underlying36 Tryz.underlying5 Tryz.underlying9 (fun j hj => ?_)
    refine hfc j _ ?_
    rw [flat_bytes, List.getElem?_map, List.getElem?_eq_getElem hj]
    rfl

set_option maxRecDepth 100000 in
set_option maxHeartbeats 1600000 in
theorem Same_any (v u : Value) (w : World) (F : Nat → Prop) (a b : List Reg) (hn : a.length ≤ 9223372036854775807) (ha : RegsAt w F v a) (hb : RegsAt w F u b) (hF : ∀ k, F k → k < w.heap.size) :
    Calls Tryz.prog 14 #[v, u] w fun e w' => e = .returned (.bool (sameR a b)) ∧ Below w.heap.size w w' := by
  obtain ⟨A, c, rfl, hc⟩ := ha.form
  obtain ⟨B, d, rfl, hd⟩ := hb.form
  have HA := Lib.hid ha
  have HB := Lib.hid hb
  have HF := Lib.hid hF
  clear ha hb hc hd hF
  by_cases hlen : a.length = b.length
  · rw [← hlen]
    generalize hln : a.length = n at *
    have HN := Lib.hid hln
    have HN2 := Lib.hid hlen
    clear hln hlen
    have hnn : (n != n) = false := by simp
    have hnn2 : ((n : Int) != (n : Int)) = false := by simp
    go_enter Tryz.func14, Tryz.ntmps14
    go_wp2
    go_loopw [5] (fun i wr => ∃ k : Nat, k ≤ n ∧ i = .int .i64 k ∧ Below w.heap.size w wr ∧ ∀ (j : Nat) (x y : Reg), j < k → a[j]? = some x → b[j]? = some y → x = y) (fun i _ => n - (intOf i).toNat)
    case atStart => exact ⟨0, by omega, rfl, Below.refl _ _, fun j x y hj => absurd hj (by omega)⟩
    case round =>
      obtain ⟨k, hk, rfl, hbl, hall⟩ := hrel
      have HALL := Lib.hid hall
      have HBL := Lib.hid hbl
      clear hall hbl
      by_cases hlt : k < n
      · obtain ⟨r, hr⟩ : ∃ r, a[k]? = some r := ⟨_, List.getElem?_eq_getElem (by have := HN.out; omega)⟩
        obtain ⟨s, hs⟩ : ∃ s, b[k]? = some s := ⟨_, List.getElem?_eq_getElem (by have := HN2.out; omega)⟩
        obtain ⟨b1, o1, A1, c1, rfl, hF1, p0, p1, p2, hby1, _, _⟩ := HA.out.at_ hr
        obtain ⟨b2, o2, A2, c2, rfl, hF2, q0, q1, q2, hby2, _, _⟩ := HB.out.at_ hs
        have l1 : b1 < wr.heap.size := Nat.lt_of_lt_of_le (HF.out b1 hF1) HBL.out.size
        have l2 : b2 < wr.heap.size := Nat.lt_of_lt_of_le (HF.out b2 hF2) HBL.out.size
        have g0 := (HBL.out.cell (p := ⟨b1, o1 + k * 3, none⟩) (HF.out b1 hF1)).trans p0
        have g1 := (HBL.out.cell (p := ⟨b1, o1 + k * 3 + 1, none⟩) (HF.out b1 hF1)).trans p1
        have g2 := (HBL.out.cell (p := ⟨b1, o1 + k * 3 + 2, none⟩) (HF.out b1 hF1)).trans p2
        have h0 := (HBL.out.cell (p := ⟨b2, o2 + k * 3, none⟩) (HF.out b2 hF2)).trans q0
        have h1 := (HBL.out.cell (p := ⟨b2, o2 + k * 3 + 1, none⟩) (HF.out b2 hF2)).trans q1
        have h2 := (HBL.out.cell (p := ⟨b2, o2 + k * 3 + 2, none⟩) (HF.out b2 hF2)).trans q2
        have m1 : ∀ w_, Below wr.heap.size wr w_ → (convert 36 9 (.slice A1 r.bytes.length c1)).run Tryz.prog w_ = .ok (.string ⟨r.bytes.toArray⟩) w_ := fun w_ hw_ => conv_bytes (hby1.keep (SameOn.of_below (HBL.out.trans (hw_.mono HBL.out.size)) HF.out))
        have m2 : ∀ w_, Below wr.heap.size wr w_ → (convert 36 9 (.slice A2 s.bytes.length c2)).run Tryz.prog w_ = .ok (.string ⟨s.bytes.toArray⟩) w_ := fun w_ hw_ => conv_bytes (hby2.keep (SameOn.of_below (HBL.out.trans (hw_.mono HBL.out.size)) HF.out))
        have i0 : (0 : Int) ≤ (k : Int) := by omega
        have i1 : (k : Int) < (n : Int) := by omega
        have HR := Lib.hid hr
        have HS := Lib.hid hs
        clear p0 p1 p2 q0 q1 q2 hby1 hby2 hr hs
        by_cases e0 : r.base = s.base
        · have e0' : ((r.base : Int) != (s.base : Int)) = false := by simp [e0]
          have E0 := Lib.hid e0
          clear e0
          by_cases e1 : r.write = s.write
          · have e1' : (r.write == s.write) = true := by simpa using e1
            have E1 := Lib.hid e1
            clear e1
            by_cases e2 : r.bytes = s.bytes
            · have e2' : (r.bytes == s.bytes) = true := by simpa using e2
              have hrs : r = s := by have h0 := E0.out; have h1 := E1.out; cases r; cases s; simp_all
              have HRS := Lib.hid hrs
              clear e2 hrs
              go_wp2
              (refine wp_region_lines (Below wr.heap.size wr) (by kernel_rfl) (by kernel_rfl) (Below.refl _ _).drew ?_)
              have hS := (Below.refl wr.heap.size wr).drew
              (try simp only [])
              repeat (first | (refine runL_no (by rfl) ?_; (try simp only [Act.put, List.setIfInBounds_toArray, List.set_cons_zero, List.set_cons_succ])) | (refine runL_val (v := ?_) (by rfl) ?_ ?_; rotate_left; (focus (intro w_ hw_; have hc_ := bcell hw_; go_simp; (try with_reducible rfl); done)); (try simp only [Act.put, List.setIfInBounds_toArray, List.set_cons_zero, List.set_cons_succ])))
              (refine runL_nil ?_)
              go_wp2
              go_roundw
              case rel => exact ⟨k + 1, by omega, by go_num, HBL.out.trans (hS.mono HBL.out.size), fun j x y hj hx hy => by
                rcases Nat.lt_or_ge j k with h | h
                · exact HALL.out j x y h hx hy
                · obtain rfl : j = k := by omega
                  have h1 := HR.out
                  have h2 := HS.out
                  rw [h1] at hx
                  rw [h2] at hy
                  cases hx
                  cases hy
                  exact HRS.out⟩
              case measure => simp [intOf]; omega
            · have e2' : (r.bytes == s.bytes) = false := by simpa using e2
              have hno := sameR_no HR.out HS.out (fun e => e2 (by rw [e]))
              have HNO := Lib.hid hno
              clear hno e2
              go_wp2
              (refine wp_region_lines (Below wr.heap.size wr) (by kernel_rfl) (by kernel_rfl) (Below.refl _ _).drew ?_)
              have hS := (Below.refl wr.heap.size wr).drew
              (try simp only [])
              repeat (first | (refine runL_no (by rfl) ?_; (try simp only [Act.put, List.setIfInBounds_toArray, List.set_cons_zero, List.set_cons_succ])) | (refine runL_val (v := ?_) (by rfl) ?_ ?_; rotate_left; (focus (intro w_ hw_; have hc_ := bcell hw_; go_simp; (try with_reducible rfl); done)); (try simp only [Act.put, List.setIfInBounds_toArray, List.set_cons_zero, List.set_cons_succ])))
              (refine runL_nil ?_)
              go_wp2
              go_ret
              exact ⟨ret_bool HNO.out.symm, HBL.out.trans (hS.mono HBL.out.size)⟩
          · have e1' : (r.write == s.write) = false := by simpa using e1
            have hno := sameR_no HR.out HS.out (fun e => e1 (by rw [e]))
            have HNO := Lib.hid hno
            clear hno e1
            go_wp2
            (refine wp_region_lines (Below wr.heap.size wr) (by kernel_rfl) (by kernel_rfl) (Below.refl _ _).drew ?_)
            have hS := (Below.refl wr.heap.size wr).drew
            (try simp only [])
            repeat (first | (refine runL_no (by rfl) ?_; (try simp only [Act.put, List.setIfInBounds_toArray, List.set_cons_zero, List.set_cons_succ])) | (refine runL_val (v := ?_) (by rfl) ?_ ?_; rotate_left; (focus (intro w_ hw_; have hc_ := bcell hw_; go_simp; (try with_reducible rfl); done)); (try simp only [Act.put, List.setIfInBounds_toArray, List.set_cons_zero, List.set_cons_succ])))
            (refine runL_nil ?_)
            go_wp2
            go_ret
            exact ⟨ret_bool HNO.out.symm, HBL.out.trans (hS.mono HBL.out.size)⟩
        · have e0' : ((r.base : Int) != (s.base : Int)) = true := by simp; omega
          have hno := sameR_no HR.out HS.out (fun e => e0 (by rw [e]))
          have HNO := Lib.hid hno
          clear hno e0
          go_wp2
          (refine wp_region_lines (Below wr.heap.size wr) (by kernel_rfl) (by kernel_rfl) (Below.refl _ _).drew ?_)
          have hS := (Below.refl wr.heap.size wr).drew
          (try simp only [])
          repeat (first | (refine runL_no (by rfl) ?_; (try simp only [Act.put, List.setIfInBounds_toArray, List.set_cons_zero, List.set_cons_succ])) | (refine runL_val (v := ?_) (by rfl) ?_ ?_; rotate_left; (focus (intro w_ hw_; have hc_ := bcell hw_; go_simp; (try with_reducible rfl); done)); (try simp only [Act.put, List.setIfInBounds_toArray, List.set_cons_zero, List.set_cons_succ])))
          (refine runL_nil ?_)
          go_wp2
          go_ret
          exact ⟨ret_bool HNO.out.symm, HBL.out.trans (hS.mono HBL.out.size)⟩
      · have hyes := sameR_yes (a := a) (b := b) (by have := HN.out; have := HN2.out; omega) (by have := HN.out; have := HALL.out; intro j x y hj; exact this j x y (by omega))
        have HY := Lib.hid hyes
        clear hyes
        go_wp2
        go_ret
        exact ⟨ret_bool HY.out.symm, HBL.out⟩
  · have hs := sameR_len hlen
    have HS := Lib.hid hs
    have hne : ((a.length : Int) != (b.length : Int)) = true := by simp; omega
    have hne2 : (a.length != b.length) = true := by simp; omega
    clear hs hlen
    go_enter Tryz.func14, Tryz.ntmps14
    go_wp2
    go_ret
    exact ⟨ret_bool HS.out.symm, Below.refl _ _⟩
end Go.Proofs.YtmanhikpccnfaaaGreat

/- package keysmithref05: Form, Has, register, small, place. -/
namespace Go.Proofs.YtmanhikpccnfaaaGreat
open Go.RowKit

/-- What an operation has, as letters. -/
def formR (op : Int) : List UInt8 :=
  if op = 1 ∨ (6 ≤ op ∧ op ≤ 14) ∨ op = 20 ∨ op = 21 ∨ op = 26 ∨ op = 27 then [68, 83]
  else if op = 2 then [68, 73]
  else if op = 3 ∨ op = 5 then [68, 77]
  else if op = 4 then [83, 77]
  else if 15 ≤ op ∧ op ≤ 18 then [68, 105]
  else if op = 19 then [68, 83, 84]
  else if op = 22 ∨ op = 23 ∨ op = 29 then [68]
  else if op = 24 ∨ op = 25 then [68, 98]
  else if op = 28 then [83]
  else if op = 30 ∨ op = 31 ∨ op = 32 then [105]
  else if op = 33 then [45]
  else []

theorem formR_out {op : Int} (h : op < 1 ∨ 33 < op) : formR op = [] := by
  unfold formR
  rw [if_neg (by omega), if_neg (by omega), if_neg (by omega), if_neg (by omega), if_neg (by omega), if_neg (by omega), if_neg (by omega), if_neg (by omega), if_neg (by omega), if_neg (by omega), if_neg (by omega)]

set_option maxRecDepth 100000 in
set_option maxHeartbeats 800000 in
theorem Form_lo (op : Int) (w : World) (h : op < 1) : Calls Tryz.prog 27 #[.int .i64 op] w fun e w' => e = .returned (.string ⟨#[]⟩) ∧ w = w' := by
  have e1 : (op == 1) = false := by simp; omega
  have e2 : (op == 2) = false := by simp; omega
  have e3 : (op == 3) = false := by simp; omega
  have e4 : (op == 4) = false := by simp; omega
  have e5 : (op == 5) = false := by simp; omega
  have e19 : (op == 19) = false := by simp; omega
  have e20 : (op == 20) = false := by simp; omega
  have e21 : (op == 21) = false := by simp; omega
  have e22 : (op == 22) = false := by simp; omega
  have e23 : (op == 23) = false := by simp; omega
  have e24 : (op == 24) = false := by simp; omega
  have e25 : (op == 25) = false := by simp; omega
  have e26 : (op == 26) = false := by simp; omega
  have e27 : (op == 27) = false := by simp; omega
  have e28 : (op == 28) = false := by simp; omega
  have e29 : (op == 29) = false := by simp; omega
  have e30 : (op == 30) = false := by simp; omega
  have e31 : (op == 31) = false := by simp; omega
  have e32 : (op == 32) = false := by simp; omega
  have e33 : (op == 33) = false := by simp; omega
  have d6 : decide (6 ≤ op) = false := by simp; omega
  have d14 : decide (op ≤ 14) = true := by simp; omega
  have d15 : decide (15 ≤ op) = false := by simp; omega
  have d18 : decide (op ≤ 18) = true := by simp; omega
  clear h
  go_enter Tryz.func27, Tryz.ntmps27
  go_wp2
  go_ret
  exact ⟨rfl, rfl⟩

set_option maxRecDepth 100000 in
set_option maxHeartbeats 800000 in
theorem Form_hi (op : Int) (w : World) (h : 33 < op) : Calls Tryz.prog 27 #[.int .i64 op] w fun e w' => e = .returned (.string ⟨#[]⟩) ∧ w = w' := by
  have e1 : (op == 1) = false := by simp; omega
  have e2 : (op == 2) = false := by simp; omega
  have e3 : (op == 3) = false := by simp; omega
  have e4 : (op == 4) = false := by simp; omega
  have e5 : (op == 5) = false := by simp; omega
  have e19 : (op == 19) = false := by simp; omega
  have e20 : (op == 20) = false := by simp; omega
  have e21 : (op == 21) = false := by simp; omega
  have e22 : (op == 22) = false := by simp; omega
  have e23 : (op == 23) = false := by simp; omega
  have e24 : (op == 24) = false := by simp; omega
  have e25 : (op == 25) = false := by simp; omega
  have e26 : (op == 26) = false := by simp; omega
  have e27 : (op == 27) = false := by simp; omega
  have e28 : (op == 28) = false := by simp; omega
  have e29 : (op == 29) = false := by simp; omega
  have e30 : (op == 30) = false := by simp; omega
  have e31 : (op == 31) = false := by simp; omega
  have e32 : (op == 32) = false := by simp; omega
  have e33 : (op == 33) = false := by simp; omega
  have d6 : decide (6 ≤ op) = true := by simp; omega
  have d14 : decide (op ≤ 14) = false := by simp; omega
  have d15 : decide (15 ≤ op) = true := by simp; omega
  have d18 : decide (op ≤ 18) = false := by simp; omega
  clear h
  go_enter Tryz.func27, Tryz.ntmps27
  go_wp2
  go_ret
  exact ⟨rfl, rfl⟩

theorem Form_1 (w : World) : Calls Tryz.prog 27 #[.int .i64 1] w fun e w' => e = .returned (.string ⟨#[68, 83]⟩) ∧ w = w' := by
  go_enter Tryz.func27, Tryz.ntmps27
  go_wp2
  go_ret
  exact ⟨rfl, rfl⟩
theorem Form_2 (w : World) : Calls Tryz.prog 27 #[.int .i64 2] w fun e w' => e = .returned (.string ⟨#[68, 73]⟩) ∧ w = w' := by
  go_enter Tryz.func27, Tryz.ntmps27
  go_wp2
  go_ret
  exact ⟨rfl, rfl⟩
theorem Form_3 (w : World) : Calls Tryz.prog 27 #[.int .i64 3] w fun e w' => e = .returned (.string ⟨#[68, 77]⟩) ∧ w = w' := by
  go_enter Tryz.func27, Tryz.ntmps27
  go_wp2
  go_ret
  exact ⟨rfl, rfl⟩
theorem Form_4 (w : World) : Calls Tryz.prog 27 #[.int .i64 4] w fun e w' => e = .returned (.string ⟨#[83, 77]⟩) ∧ w = w' := by
  go_enter Tryz.func27, Tryz.ntmps27
  go_wp2
  go_ret
  exact ⟨rfl, rfl⟩
theorem Form_5 (w : World) : Calls Tryz.prog 27 #[.int .i64 5] w fun e w' => e = .returned (.string ⟨#[68, 77]⟩) ∧ w = w' := by
  go_enter Tryz.func27, Tryz.ntmps27
  go_wp2
  go_ret
  exact ⟨rfl, rfl⟩
theorem Form_6 (w : World) : Calls Tryz.prog 27 #[.int .i64 6] w fun e w' => e = .returned (.string ⟨#[68, 83]⟩) ∧ w = w' := by
  go_enter Tryz.func27, Tryz.ntmps27
  go_wp2
  go_ret
  exact ⟨rfl, rfl⟩
theorem Form_7 (w : World) : Calls Tryz.prog 27 #[.int .i64 7] w fun e w' => e = .returned (.string ⟨#[68, 83]⟩) ∧ w = w' := by
  go_enter Tryz.func27, Tryz.ntmps27
  go_wp2
  go_ret
  exact ⟨rfl, rfl⟩
theorem Form_8 (w : World) : Calls Tryz.prog 27 #[.int .i64 8] w fun e w' => e = .returned (.string ⟨#[68, 83]⟩) ∧ w = w' := by
  go_enter Tryz.func27, Tryz.ntmps27
  go_wp2
  go_ret
  exact ⟨rfl, rfl⟩
theorem Form_9 (w : World) : Calls Tryz.prog 27 #[.int .i64 9] w fun e w' => e = .returned (.string ⟨#[68, 83]⟩) ∧ w = w' := by
  go_enter Tryz.func27, Tryz.ntmps27
  go_wp2
  go_ret
  exact ⟨rfl, rfl⟩
theorem Form_10 (w : World) : Calls Tryz.prog 27 #[.int .i64 10] w fun e w' => e = .returned (.string ⟨#[68, 83]⟩) ∧ w = w' := by
  go_enter Tryz.func27, Tryz.ntmps27
  go_wp2
  go_ret
  exact ⟨rfl, rfl⟩
theorem Form_11 (w : World) : Calls Tryz.prog 27 #[.int .i64 11] w fun e w' => e = .returned (.string ⟨#[68, 83]⟩) ∧ w = w' := by
  go_enter Tryz.func27, Tryz.ntmps27
  go_wp2
  go_ret
  exact ⟨rfl, rfl⟩
theorem Form_12 (w : World) : Calls Tryz.prog 27 #[.int .i64 12] w fun e w' => e = .returned (.string ⟨#[68, 83]⟩) ∧ w = w' := by
  go_enter Tryz.func27, Tryz.ntmps27
  go_wp2
  go_ret
  exact ⟨rfl, rfl⟩
theorem Form_13 (w : World) : Calls Tryz.prog 27 #[.int .i64 13] w fun e w' => e = .returned (.string ⟨#[68, 83]⟩) ∧ w = w' := by
  go_enter Tryz.func27, Tryz.ntmps27
  go_wp2
  go_ret
  exact ⟨rfl, rfl⟩
theorem Form_14 (w : World) : Calls Tryz.prog 27 #[.int .i64 14] w fun e w' => e = .returned (.string ⟨#[68, 83]⟩) ∧ w = w' := by
  go_enter Tryz.func27, Tryz.ntmps27
  go_wp2
  go_ret
  exact ⟨rfl, rfl⟩
theorem Form_15 (w : World) : Calls Tryz.prog 27 #[.int .i64 15] w fun e w' => e = .returned (.string ⟨#[68, 105]⟩) ∧ w = w' := by
  go_enter Tryz.func27, Tryz.ntmps27
  go_wp2
  go_ret
  exact ⟨rfl, rfl⟩
theorem Form_16 (w : World) : Calls Tryz.prog 27 #[.int .i64 16] w fun e w' => e = .returned (.string ⟨#[68, 105]⟩) ∧ w = w' := by
  go_enter Tryz.func27, Tryz.ntmps27
  go_wp2
  go_ret
  exact ⟨rfl, rfl⟩
theorem Form_17 (w : World) : Calls Tryz.prog 27 #[.int .i64 17] w fun e w' => e = .returned (.string ⟨#[68, 105]⟩) ∧ w = w' := by
  go_enter Tryz.func27, Tryz.ntmps27
  go_wp2
  go_ret
  exact ⟨rfl, rfl⟩
theorem Form_18 (w : World) : Calls Tryz.prog 27 #[.int .i64 18] w fun e w' => e = .returned (.string ⟨#[68, 105]⟩) ∧ w = w' := by
  go_enter Tryz.func27, Tryz.ntmps27
  go_wp2
  go_ret
  exact ⟨rfl, rfl⟩
theorem Form_19 (w : World) : Calls Tryz.prog 27 #[.int .i64 19] w fun e w' => e = .returned (.string ⟨#[68, 83, 84]⟩) ∧ w = w' := by
  go_enter Tryz.func27, Tryz.ntmps27
  go_wp2
  go_ret
  exact ⟨rfl, rfl⟩
theorem Form_20 (w : World) : Calls Tryz.prog 27 #[.int .i64 20] w fun e w' => e = .returned (.string ⟨#[68, 83]⟩) ∧ w = w' := by
  go_enter Tryz.func27, Tryz.ntmps27
  go_wp2
  go_ret
  exact ⟨rfl, rfl⟩
theorem Form_21 (w : World) : Calls Tryz.prog 27 #[.int .i64 21] w fun e w' => e = .returned (.string ⟨#[68, 83]⟩) ∧ w = w' := by
  go_enter Tryz.func27, Tryz.ntmps27
  go_wp2
  go_ret
  exact ⟨rfl, rfl⟩
theorem Form_22 (w : World) : Calls Tryz.prog 27 #[.int .i64 22] w fun e w' => e = .returned (.string ⟨#[68]⟩) ∧ w = w' := by
  go_enter Tryz.func27, Tryz.ntmps27
  go_wp2
  go_ret
  exact ⟨rfl, rfl⟩
theorem Form_23 (w : World) : Calls Tryz.prog 27 #[.int .i64 23] w fun e w' => e = .returned (.string ⟨#[68]⟩) ∧ w = w' := by
  go_enter Tryz.func27, Tryz.ntmps27
  go_wp2
  go_ret
  exact ⟨rfl, rfl⟩
theorem Form_24 (w : World) : Calls Tryz.prog 27 #[.int .i64 24] w fun e w' => e = .returned (.string ⟨#[68, 98]⟩) ∧ w = w' := by
  go_enter Tryz.func27, Tryz.ntmps27
  go_wp2
  go_ret
  exact ⟨rfl, rfl⟩
theorem Form_25 (w : World) : Calls Tryz.prog 27 #[.int .i64 25] w fun e w' => e = .returned (.string ⟨#[68, 98]⟩) ∧ w = w' := by
  go_enter Tryz.func27, Tryz.ntmps27
  go_wp2
  go_ret
  exact ⟨rfl, rfl⟩
theorem Form_26 (w : World) : Calls Tryz.prog 27 #[.int .i64 26] w fun e w' => e = .returned (.string ⟨#[68, 83]⟩) ∧ w = w' := by
  go_enter Tryz.func27, Tryz.ntmps27
  go_wp2
  go_ret
  exact ⟨rfl, rfl⟩
theorem Form_27 (w : World) : Calls Tryz.prog 27 #[.int .i64 27] w fun e w' => e = .returned (.string ⟨#[68, 83]⟩) ∧ w = w' := by
  go_enter Tryz.func27, Tryz.ntmps27
  go_wp2
  go_ret
  exact ⟨rfl, rfl⟩
theorem Form_28 (w : World) : Calls Tryz.prog 27 #[.int .i64 28] w fun e w' => e = .returned (.string ⟨#[83]⟩) ∧ w = w' := by
  go_enter Tryz.func27, Tryz.ntmps27
  go_wp2
  go_ret
  exact ⟨rfl, rfl⟩
theorem Form_29 (w : World) : Calls Tryz.prog 27 #[.int .i64 29] w fun e w' => e = .returned (.string ⟨#[68]⟩) ∧ w = w' := by
  go_enter Tryz.func27, Tryz.ntmps27
  go_wp2
  go_ret
  exact ⟨rfl, rfl⟩
theorem Form_30 (w : World) : Calls Tryz.prog 27 #[.int .i64 30] w fun e w' => e = .returned (.string ⟨#[105]⟩) ∧ w = w' := by
  go_enter Tryz.func27, Tryz.ntmps27
  go_wp2
  go_ret
  exact ⟨rfl, rfl⟩
theorem Form_31 (w : World) : Calls Tryz.prog 27 #[.int .i64 31] w fun e w' => e = .returned (.string ⟨#[105]⟩) ∧ w = w' := by
  go_enter Tryz.func27, Tryz.ntmps27
  go_wp2
  go_ret
  exact ⟨rfl, rfl⟩
theorem Form_32 (w : World) : Calls Tryz.prog 27 #[.int .i64 32] w fun e w' => e = .returned (.string ⟨#[105]⟩) ∧ w = w' := by
  go_enter Tryz.func27, Tryz.ntmps27
  go_wp2
  go_ret
  exact ⟨rfl, rfl⟩
theorem Form_33 (w : World) : Calls Tryz.prog 27 #[.int .i64 33] w fun e w' => e = .returned (.string ⟨#[45]⟩) ∧ w = w' := by
  go_enter Tryz.func27, Tryz.ntmps27
  go_wp2
  go_ret
  exact ⟨rfl, rfl⟩
theorem Form_any (op : Int) (w : World) : Calls Tryz.prog 27 #[.int .i64 op] w fun e w' => e = .returned (.string ⟨(formR op).toArray⟩) ∧ w = w' := by
  rcases (by omega : op < 1 ∨ 33 < op ∨ op = 1 ∨ op = 2 ∨ op = 3 ∨ op = 4 ∨ op = 5 ∨ op = 6 ∨ op = 7 ∨ op = 8 ∨ op = 9 ∨ op = 10 ∨ op = 11 ∨ op = 12 ∨ op = 13 ∨ op = 14 ∨ op = 15 ∨ op = 16 ∨ op = 17 ∨ op = 18 ∨ op = 19 ∨ op = 20 ∨ op = 21 ∨ op = 22 ∨ op = 23 ∨ op = 24 ∨ op = 25 ∨ op = 26 ∨ op = 27 ∨ op = 28 ∨ op = 29 ∨ op = 30 ∨ op = 31 ∨ op = 32 ∨ op = 33) with h | h | rfl | rfl | rfl | rfl | rfl | rfl | rfl | rfl | rfl | rfl | rfl | rfl | rfl | rfl | rfl | rfl | rfl | rfl | rfl | rfl | rfl | rfl | rfl | rfl | rfl | rfl | rfl | rfl | rfl | rfl | rfl | rfl | rfl
  · rw [formR_out (.inl h)]; exact Form_lo op w h
  · rw [formR_out (.inr h)]; exact Form_hi op w h
  · exact Form_1 w
  · exact Form_2 w
  · exact Form_3 w
  · exact Form_4 w
  · exact Form_5 w
  · exact Form_6 w
  · exact Form_7 w
  · exact Form_8 w
  · exact Form_9 w
  · exact Form_10 w
  · exact Form_11 w
  · exact Form_12 w
  · exact Form_13 w
  · exact Form_14 w
  · exact Form_15 w
  · exact Form_16 w
  · exact Form_17 w
  · exact Form_18 w
  · exact Form_19 w
  · exact Form_20 w
  · exact Form_21 w
  · exact Form_22 w
  · exact Form_23 w
  · exact Form_24 w
  · exact Form_25 w
  · exact Form_26 w
  · exact Form_27 w
  · exact Form_28 w
  · exact Form_29 w
  · exact Form_30 w
  · exact Form_31 w
  · exact Form_32 w
  · exact Form_33 w

def hasR (l : List UInt8) (c : Nat) : Bool := l.any fun x => x.toNat == c
theorem hasR_no {l : List UInt8} {c : Nat} (h : ∀ (j : Nat) (x : UInt8), l[j]? = some x → x.toNat ≠ c) : hasR l c = false := by
  unfold hasR
  rw [List.any_eq_false]
  intro x hx
  obtain ⟨j, hj⟩ := List.mem_iff_getElem?.1 hx
  simpa using h j x hj
theorem hasR_yes {l : List UInt8} {c : Nat} {j : Nat} {x : UInt8} (h : l[j]? = some x) (hc : x.toNat = c) : hasR l c = true :=
  List.any_eq_true.2 ⟨x, List.mem_of_getElem? h, by simpa using hc⟩

set_option maxHeartbeats 800000 in
theorem Has_any (s : ByteArray) (c : Nat) (w : World) (hs : s.size ≤ 1000) : Calls Tryz.prog 28 #[.string s, .int .u8 c] w fun e w' => e = .returned (.bool (hasR s.data.toList c)) ∧ w = w' := by
  go_enter Tryz.func28, Tryz.ntmps28
  go_wp2
  go_loop [5] (fun i => ∃ k : Nat, k ≤ s.size ∧ i = .int .i64 k ∧ ∀ (j : Nat) (x : UInt8), j < k → s.data.toList[j]? = some x → x.toNat ≠ c) (fun i => s.size - (intOf i).toNat)
  case atStart => exact ⟨0, Nat.zero_le _, rfl, fun j x hj => absurd hj (by omega)⟩
  case round =>
    obtain ⟨k, hk, rfl, hall⟩ := hrel
    have HALL := Lib.hid hall
    clear hall
    by_cases hlt : k < s.size
    · have hget : s.data.toList[k]? = some s[k] := by rw [List.getElem?_eq_getElem (by simpa using hlt)]; rfl
      have HG := Lib.hid hget
      clear hget
      by_cases hc : s[k].toNat = c
      · have e1 : ((s[k].toNat : Int) == (c : Int)) = true := by simp; omega
        have e2 : (s[k].toNat == c) = true := by simpa using hc
        have hy := hasR_yes HG.out hc
        have HY := Lib.hid hy
        clear hy hc
        go_wp2
        go_ret
        exact ⟨ret_bool HY.out.symm, rfl⟩
      · have e1 : ((s[k].toNat : Int) == (c : Int)) = false := by simp; omega
        have e2 : (s[k].toNat == c) = false := by simpa using hc
        have HC := Lib.hid hc
        clear hc
        go_wp2
        go_round
        case rel => exact ⟨k + 1, by omega, by go_num, fun j x hj hx => by
          rcases Nat.lt_or_ge j k with h | h
          · exact HALL.out j x h hx
          · obtain rfl : j = k := by omega
            have h1 := HG.out
            rw [h1] at hx
            cases hx
            exact HC.out⟩
        case measure => simp [intOf]; omega
    · have hn : hasR s.data.toList c = false := hasR_no fun j x hx => HALL.out j x (by
        have := (List.getElem?_eq_some_iff.1 hx).1; have h2 : s.data.toList.length = s.size := by simp
        omega) hx
      have HN := Lib.hid hn
      clear hn
      go_wp2
      go_ret
      exact ⟨ret_bool HN.out.symm, rfl⟩

theorem rregister_any (r : Int) (w : World) : Calls Tryz.prog 29 #[.int .i64 r] w fun e w' => e = .returned (.bool (regOk r)) ∧ w = w' := by
  unfold regOk
  by_cases h0 : 0 ≤ r
  · have d0 : decide (0 ≤ r) = true := by simpa using h0
    go_enter Tryz.func29, Tryz.ntmps29
    go_wp2
    go_ret
    exact ⟨by simp [d0], rfl⟩
  · have d0 : decide (0 ≤ r) = false := by simpa using h0
    go_enter Tryz.func29, Tryz.ntmps29
    go_wp2
    go_ret
    exact ⟨by simp, rfl⟩
theorem rsmall_any (n : Int) (w : World) : Calls Tryz.prog 31 #[.int .i64 n] w fun e w' => e = .returned (.bool (smallI n)) ∧ w = w' := by
  unfold smallI
  by_cases h0 : -2147483648 ≤ n
  · have d0 : decide (-2147483648 ≤ n) = true := by simpa using h0
    have d1 : decide (n < 2147483648) = decide (n ≤ 2147483647) := by rw [decide_eq_decide]; omega
    go_enter Tryz.func31, Tryz.ntmps31
    go_wp2
    go_ret
    exact ⟨by simp [d0], rfl⟩
  · have d0 : decide (-2147483648 ≤ n) = false := by simpa using h0
    go_enter Tryz.func31, Tryz.ntmps31
    go_wp2
    go_ret
    exact ⟨by simp, rfl⟩
end Go.Proofs.YtmanhikpccnfaaaGreat

/- package keysmithref05: place, Check. -/
namespace Go.Proofs.YtmanhikpccnfaaaGreat
open Go.RowKit

set_option maxHeartbeats 1600000 in
theorem rplace_any (i : Ins) (w : World) :
    Calls Tryz.prog 30 #[.agg #[.int .i64 i.base, .int .i64 i.index, .int .i64 i.scale, .int .i64 i.disp]] w fun e w' => e = .returned (.bool (placeB i)) ∧ Below w.heap.size w w' := by
  obtain ⟨pb, hpb⟩ : ∃ pb, pb = placeB i := ⟨_, rfl⟩
  rw [← hpb]
  unfold placeB fourB at hpb
  have HP := Lib.hid hpb
  clear hpb
  obtain ⟨op, d, s, t, ba, ix, sc, di, im⟩ := i
  simp only at HP ⊢
  obtain ⟨W, hW, hbW, hsz, hnew, _⟩ := boxed w #[.int .i64 ba, .int .i64 ix, .int .i64 sc, .int .i64 di] 27
  have n0 : W.cell? ⟨w.heap.size, 0, none⟩ = some (.int .i64 ba) := hnew 0
  have n1 : W.cell? ⟨w.heap.size, 1, none⟩ = some (.int .i64 ix) := hnew 1
  have n2 : W.cell? ⟨w.heap.size, 2, none⟩ = some (.int .i64 sc) := hnew 2
  have n3 : W.cell? ⟨w.heap.size, 3, none⟩ = some (.int .i64 di) := hnew 3
  have m0 : w.heap.size < W.heap.size := by omega
  have HW := Lib.hid hW
  have HB := Lib.hid hbW
  have HS := Lib.hid (rsmall_any di W)
  have HR := Lib.hid (fun r => rregister_any r W)
  clear hW hbW hsz hnew
  go_enter Tryz.func30, Tryz.ntmps30
  go_wp2_with fail
  rw [← HW.out]
  refine (HR.out ba).mono ?_
  rintro e w1 ⟨rfl, rfl⟩
  cases hb : regOk ba with
  | false =>
    have HX := Lib.hid hb
    clear hb
    go_wp2
    go_ret
    exact ⟨by rw [HP.out, HX.out]; rfl, HB.out⟩
  | true =>
    have HX := Lib.hid hb
    clear hb
    go_wp2_with fail
    refine HS.out.mono ?_
    rintro e w1 ⟨rfl, rfl⟩
    cases hs : smallI di with
    | false =>
      have HY := Lib.hid hs
      clear hs
      go_wp2
      go_ret
      exact ⟨by rw [HP.out, HX.out, HY.out]; rfl, HB.out⟩
    | true =>
      have HY := Lib.hid hs
      clear hs
      by_cases hix : ix = -1
      · subst hix
        go_wp2
        go_ret
        exact ⟨by rw [HP.out, HX.out, HY.out]; rfl, HB.out⟩
      · have d1 : (ix == -1) = false := by simpa using hix
        have HIX := Lib.hid hix
        clear hix
        go_wp2_with fail
        refine (HR.out ix).mono ?_
        rintro e w1 ⟨rfl, rfl⟩
        cases hr : regOk ix with
        | false =>
          have HZ := Lib.hid hr
          clear hr
          go_wp2
          go_ret
          exact ⟨by rw [HP.out, HX.out, HY.out, HZ.out, if_neg HIX.out]; rfl, HB.out⟩
        | true =>
          have HZ := Lib.hid hr
          clear hr
          by_cases h4 : ix = 4
          · subst h4
            go_wp2
            go_ret
            exact ⟨by rw [HP.out, HX.out, HY.out, HZ.out]; rfl, HB.out⟩
          · have d2 : (ix == 4) = false := by simpa using h4
            have d3 : (ix != 4) = true := by simpa using h4
            have H4 := Lib.hid h4
            clear h4
            rcases (by omega : sc = 1 ∨ sc = 2 ∨ sc = 4 ∨ (sc ≠ 1 ∧ sc ≠ 2 ∧ sc ≠ 4)) with rfl | rfl | rfl | ⟨h1, h2, h3⟩
            · go_wp2
              go_ret
              exact ⟨by rw [HP.out, HX.out, HY.out, HZ.out, if_neg HIX.out]; simp [H4.out], HB.out⟩
            · go_wp2
              go_ret
              exact ⟨by rw [HP.out, HX.out, HY.out, HZ.out, if_neg HIX.out]; simp [H4.out], HB.out⟩
            · go_wp2
              go_ret
              exact ⟨by rw [HP.out, HX.out, HY.out, HZ.out, if_neg HIX.out]; simp [H4.out], HB.out⟩
            · have q1 : (sc == 1) = false := by simpa using h1
              have q2 : (sc == 2) = false := by simpa using h2
              have q3 : (sc == 4) = false := by simpa using h3
              have HQ := Lib.hid (And.intro h1 (And.intro h2 h3))
              clear h1 h2 h3
              go_wp2
              go_ret
              exact ⟨by rw [HP.out, HX.out, HY.out, HZ.out, if_neg HIX.out]; simp [H4.out, HQ.out.1, HQ.out.2.1, HQ.out.2.2]; rfl, HB.out⟩

def immR (f : List UInt8) (n : Int) : Bool := if hasR f 105 then smallI n else if hasR f 98 then (decide (1 ≤ n) && decide (n ≤ 63)) else if hasR f 73 then true else n == 0
/-- May it be? By letters. -/
def chkR (f : List UInt8) (i : Ins) : Bool := ((((!f.isEmpty && hasOk (hasR f 68) i.d) && hasOk (hasR f 83) i.s) && (if hasR f 84 then regOk i.t && i.d != i.s else i.t == 0)) && (if hasR f 77 then placeB i else noPlace i)) && immR f i.imm

theorem chk_of {f : List UInt8} {i : Ins} (g : FormX) (hg : formF i.op = g) (he : f.isEmpty = g.name.isEmpty) (h1 : hasR f 68 = hasB g.is 1) (h2 : hasR f 83 = hasB g.is 2) (h3 : hasR f 84 = hasB g.is 4) (h4 : hasR f 77 = hasB g.is 8) (hn : ∀ n, immR f n = numB g.is n) : chkR f i = chkP i := by
  unfold chkR chkP
  rw [hg, he, h1, h2, h3, h4, hn]
  generalize hasOk (hasB g.is 1) i.d = b1
  generalize hasOk (hasB g.is 2) i.s = b2
  have e : (if hasB g.is 4 = true then regOk i.t && i.d != i.s else i.t == 0) = (hasOk (hasB g.is 4) i.t && !(hasB g.is 4 && i.d == i.s)) := by
    unfold hasOk
    cases hasB g.is 4
    · simp; rfl
    · simp [bne]
  rw [e]
  generalize hasOk (hasB g.is 4) i.t = b3
  generalize (hasB g.is 4 && i.d == i.s) = b4
  generalize (if hasB g.is 8 = true then placeB i else noPlace i) = b5
  generalize numB g.is i.imm = b6
  generalize g.name.isEmpty = b7
  cases b1 <;> cases b2 <;> cases b3 <;> cases b4 <;> cases b5 <;> cases b6 <;> cases b7 <;> rfl
theorem chkR_eq (i : Ins) : chkR (formR i.op) i = chkP i := by
  obtain ⟨op, d, s, t, ba, ix, sc, di, im⟩ := i
  by_cases hr : 1 ≤ op ∧ op ≤ 33
  · rcases (by omega : op = 1 ∨ op = 2 ∨ op = 3 ∨ op = 4 ∨ op = 5 ∨ op = 6 ∨ op = 7 ∨ op = 8 ∨ op = 9 ∨ op = 10 ∨ op = 11 ∨ op = 12 ∨ op = 13 ∨ op = 14 ∨ op = 15 ∨ op = 16 ∨ op = 17 ∨ op = 18 ∨ op = 19 ∨ op = 20 ∨ op = 21 ∨ op = 22 ∨ op = 23 ∨ op = 24 ∨ op = 25 ∨ op = 26 ∨ op = 27 ∨ op = 28 ∨ op = 29 ∨ op = 30 ∨ op = 31 ∨ op = 32 ∨ op = 33) with rfl | rfl | rfl | rfl | rfl | rfl | rfl | rfl | rfl | rfl | rfl | rfl | rfl | rfl | rfl | rfl | rfl | rfl | rfl | rfl | rfl | rfl | rfl | rfl | rfl | rfl | rfl | rfl | rfl | rfl | rfl | rfl | rfl
    all_goals exact chk_of _ rfl (by kernel_rfl) (by kernel_rfl) (by kernel_rfl) (by kernel_rfl) (by kernel_rfl) (fun n => by kernel_rfl)
  · have h1 : formR op = [] := formR_out (by omega)
    have h2 : formF op = noForm := by
      rcases (by omega : op < 0 ∨ op = 0 ∨ 34 ≤ op) with h | h | h
      · exact formF_out _ (.inl h)
      · rw [h]; rfl
      · exact formF_out _ (.inr h)
    show chkR (formR op) _ = _
    rw [h1]
    simp only [chkR, chkP, h2]
    simp [noForm]

set_option maxRecDepth 100000 in
set_option maxHeartbeats 3200000 in
theorem rCheck_any (i : Ins) (w : World) :
    Calls Tryz.prog 8 #[.agg (insRow i).toArray] w fun e w' => e = .returned (.int .i64 (errOf (chkP i))) ∧ Below w.heap.size w w' := by
  rw [← chkR_eq]
  have HFORM := Lib.hid (fun w => Form_any i.op w)
  have hsz : (⟨(formR i.op).toArray⟩ : ByteArray).size ≤ 1000 := by
    show (formR i.op).length ≤ 1000
    unfold formR
    repeat' split
    all_goals simp
  generalize hf : formR i.op = f at *
  have HHAS := Lib.hid (show ∀ (c : Nat) (w : World), Calls Tryz.prog 28 #[.string ⟨f.toArray⟩, .int .u8 c] w fun e w' => e = .returned (.bool (hasR f c)) ∧ w = w' from fun c w => Has_any ⟨f.toArray⟩ c w hsz)
  have HPL := Lib.hid (fun w => rplace_any i w)
  have HREG := Lib.hid (fun r w => rregister_any r w)
  have HSM := Lib.hid (fun n w => rsmall_any n w)
  clear hf hsz
  obtain ⟨op, d, s, t, ba, ix, sc, di, im⟩ := i
  simp only [insRow] at HFORM HPL ⊢
  obtain ⟨W1, hW1, hb1, hs1, hn1, _⟩ := boxed w #[.int .i64 op, .int .i64 d, .int .i64 s, .int .i64 t, .int .i64 ba, .int .i64 ix, .int .i64 sc, .int .i64 di, .int .i64 im] 29
  have n0 : W1.cell? ⟨w.heap.size, 0, none⟩ = some (.int .i64 op) := hn1 0
  have n1 : W1.cell? ⟨w.heap.size, 1, none⟩ = some (.int .i64 d) := hn1 1
  have n2 : W1.cell? ⟨w.heap.size, 2, none⟩ = some (.int .i64 s) := hn1 2
  have n3 : W1.cell? ⟨w.heap.size, 3, none⟩ = some (.int .i64 t) := hn1 3
  have n4 : W1.cell? ⟨w.heap.size, 4, none⟩ = some (.int .i64 ba) := hn1 4
  have n5 : W1.cell? ⟨w.heap.size, 5, none⟩ = some (.int .i64 ix) := hn1 5
  have n6 : W1.cell? ⟨w.heap.size, 6, none⟩ = some (.int .i64 sc) := hn1 6
  have n7 : W1.cell? ⟨w.heap.size, 7, none⟩ = some (.int .i64 di) := hn1 7
  have n8 : W1.cell? ⟨w.heap.size, 8, none⟩ = some (.int .i64 im) := hn1 8
  have HW1 := Lib.hid hW1
  have HB1 := Lib.hid hb1
  have HN := Lib.hid hn1
  have m1 : w.heap.size < W1.heap.size := by omega
  clear hW1 hn1 hb1 hs1
  go_enter Tryz.func8, Tryz.ntmps8
  go_wp2_with fail
  rw [← HW1.out]
  refine (HFORM.out W1).mono ?_
  rintro e w2 ⟨rfl, rfl⟩
  go_upto_region 3 with fail
  obtain ⟨b0, hb0⟩ : ∃ q, (!f.isEmpty) = q := ⟨_, rfl⟩
  have HB0 := Lib.hid hb0
  rw [hb0]
  clear hb0
  go_cut [4] (fun s4 wx => s4 = .bool (b0 && hasOk (hasR f 68) d) ∧ W1 = wx)
  case first =>
    cases b0 with
    | false =>
      go_wp2
      go_meet
      exact ⟨rfl, rfl⟩
    | true =>
      go_wp2_with fail
      refine (HHAS.out 68 W1).mono ?_
      rintro e w2 ⟨rfl, rfl⟩
      cases hh : hasR f 68 with
      | true =>
        have HH := Lib.hid hh
        clear hh
        go_wp2_with fail
        refine (HREG.out d W1).mono ?_
        rintro e w2 ⟨rfl, rfl⟩
        cases hr : regOk d with
        | true =>
          have HR := Lib.hid hr
          clear hr
          go_wp2
          go_meet
          exact ⟨by simp [hasOk, HH.out, HR.out], rfl⟩
        | false =>
          have HR := Lib.hid hr
          clear hr
          go_wp2_with fail
          refine (HHAS.out 68 W1).mono ?_
          rintro e w2 ⟨rfl, rfl⟩
          rw [HH.out]
          go_wp2
          go_meet
          exact ⟨by simp [hasOk, HH.out, HR.out], rfl⟩
      | false =>
        have HH := Lib.hid hh
        clear hh
        go_wp2_with fail
        refine (HHAS.out 68 W1).mono ?_
        rintro e w2 ⟨rfl, rfl⟩
        rw [HH.out]
        go_wp2
        go_meet
        exact ⟨by simp [hasOk, HH.out]; rfl, rfl⟩
  case rest =>
  obtain ⟨rfl, rfl⟩ := hcut
  obtain ⟨b1, hb1⟩ : ∃ q, (b0 && hasOk (hasR f 68) d) = q := ⟨_, rfl⟩
  have HQ1 := Lib.hid hb1
  rw [hb1]
  clear hb1
  go_upto_region 4 with fail
  go_cut [4] (fun s4 wx => s4 = .bool (b1 && hasOk (hasR f 83) s) ∧ W1 = wx)
  case first =>
    cases b1 with
    | false =>
      go_wp2
      go_meet
      exact ⟨rfl, rfl⟩
    | true =>
      go_wp2_with fail
      refine (HHAS.out 83 W1).mono ?_
      rintro e w2 ⟨rfl, rfl⟩
      cases hh : hasR f 83 with
      | true =>
        have HH := Lib.hid hh
        clear hh
        go_wp2_with fail
        refine (HREG.out s W1).mono ?_
        rintro e w2 ⟨rfl, rfl⟩
        cases hr : regOk s with
        | true =>
          have HR := Lib.hid hr
          clear hr
          go_wp2
          go_meet
          exact ⟨by simp [hasOk, HH.out, HR.out], rfl⟩
        | false =>
          have HR := Lib.hid hr
          clear hr
          go_wp2_with fail
          refine (HHAS.out 83 W1).mono ?_
          rintro e w2 ⟨rfl, rfl⟩
          rw [HH.out]
          go_wp2
          go_meet
          exact ⟨by simp [hasOk, HH.out, HR.out], rfl⟩
      | false =>
        have HH := Lib.hid hh
        clear hh
        go_wp2_with fail
        refine (HHAS.out 83 W1).mono ?_
        rintro e w2 ⟨rfl, rfl⟩
        rw [HH.out]
        go_wp2
        go_meet
        exact ⟨by simp [hasOk, HH.out]; rfl, rfl⟩
  case rest =>
  obtain ⟨rfl, rfl⟩ := hcut
  obtain ⟨b2, hb1⟩ : ∃ q, (b1 && hasOk (hasR f 83) s) = q := ⟨_, rfl⟩
  have HQ2 := Lib.hid hb1
  rw [hb1]
  clear hb1
  go_upto_region 5 with fail
  go_cut [4] (fun s4 wx => s4 = .bool (b2 && (if hasR f 84 then regOk t && d != s else t == 0)) ∧ W1 = wx)
  case first =>
    cases b2 with
    | false =>
      go_wp2
      go_meet
      exact ⟨rfl, rfl⟩
    | true =>
      go_wp2_with fail
      refine (HHAS.out 84 W1).mono ?_
      rintro e w2 ⟨rfl, rfl⟩
      cases hh : hasR f 84 with
      | true =>
        have HH := Lib.hid hh
        clear hh
        go_wp2_with fail
        refine (HREG.out t W1).mono ?_
        rintro e w2 ⟨rfl, rfl⟩
        cases hr : regOk t with
        | true =>
          have HR := Lib.hid hr
          clear hr
          by_cases hds : d = s
          · subst hds
            have e1 : (d != d) = false := by simp
            go_wp2_with fail
            refine (HHAS.out 84 W1).mono ?_
            rintro e w2 ⟨rfl, rfl⟩
            rw [HH.out]
            go_wp2
            go_meet
            exact ⟨by simp [HH.out], rfl⟩
          · have e1 : (d != s) = true := by simpa using hds
            have HE := Lib.hid hds
            clear hds
            go_wp2
            go_meet
            exact ⟨by simp [HE.out, HH.out, HR.out], rfl⟩
        | false =>
          have HR := Lib.hid hr
          clear hr
          go_wp2_with fail
          refine (HHAS.out 84 W1).mono ?_
          rintro e w2 ⟨rfl, rfl⟩
          rw [HH.out]
          go_wp2
          go_meet
          exact ⟨by simp [HH.out, HR.out], rfl⟩
      | false =>
        have HH := Lib.hid hh
        clear hh
        go_wp2_with fail
        refine (HHAS.out 84 W1).mono ?_
        rintro e w2 ⟨rfl, rfl⟩
        rw [HH.out]
        go_wp2
        go_meet
        exact ⟨by simp [HH.out], rfl⟩
  case rest =>
  obtain ⟨rfl, rfl⟩ := hcut
  obtain ⟨b3, hb3⟩ : ∃ q, (b2 && (if hasR f 84 then regOk t && d != s else t == 0)) = q := ⟨_, rfl⟩
  have HQ3 := Lib.hid hb3
  rw [hb3]
  clear hb3
  go_upto_region 6 with fail
  go_cut [4] (fun s4 wx => s4 = .bool (b3 && (if hasR f 77 then placeB ⟨op, d, s, t, ba, ix, sc, di, im⟩ else noPlace ⟨op, d, s, t, ba, ix, sc, di, im⟩)) ∧ Below W1.heap.size W1 wx)
  case first =>
    cases b3 with
    | false =>
      go_wp2
      go_meet
      exact ⟨rfl, Below.refl _ _⟩
    | true =>
      go_wp2_with fail
      refine (HHAS.out 77 W1).mono ?_
      rintro e w2 ⟨rfl, rfl⟩
      cases hh : hasR f 77 with
      | true =>
        have HH := Lib.hid hh
        clear hh
        go_wp2_with fail
        refine (HPL.out W1).mono ?_
        rintro e w2 ⟨rfl, hb2⟩
        have HB2 := Lib.hid hb2
        have k4 := (hb2.cell (p := ⟨w.heap.size, 4, none⟩) m1).trans n4
        have k5 := (hb2.cell (p := ⟨w.heap.size, 5, none⟩) m1).trans n5
        have k6 := (hb2.cell (p := ⟨w.heap.size, 6, none⟩) m1).trans n6
        have k7 := (hb2.cell (p := ⟨w.heap.size, 7, none⟩) m1).trans n7
        clear hb2
        cases hr : placeB ⟨op, d, s, t, ba, ix, sc, di, im⟩ with
        | true =>
          have HR := Lib.hid hr
          clear hr
          go_wp2
          go_meet
          exact ⟨by simp [HH.out, HR.out], HB2.out⟩
        | false =>
          have HR := Lib.hid hr
          clear hr
          go_wp2_with fail
          refine (HHAS.out 77 w2).mono ?_
          rintro e w3 ⟨rfl, rfl⟩
          rw [HH.out]
          go_wp2
          go_meet
          exact ⟨by simp [HH.out, HR.out], HB2.out⟩
      | false =>
        have HH := Lib.hid hh
        clear hh
        go_wp2_with fail
        refine (HHAS.out 77 W1).mono ?_
        rintro e w2 ⟨rfl, rfl⟩
        rw [HH.out]
        cases hp : noPlace ⟨op, d, s, t, ba, ix, sc, di, im⟩ with
        | true =>
          have hq := hp
          simp only [noPlace, Bool.and_eq_true, decide_eq_true_eq] at hq
          obtain ⟨⟨⟨q1, q2⟩, q3⟩, q4⟩ := hq
          have HP := Lib.hid hp
          clear hp
          rw [q1] at n4
          rw [q2] at n5
          rw [q3] at n6
          rw [q4] at n7
          clear q1 q2 q3 q4
          go_wp2
          go_meet
          exact ⟨by simp [HH.out, HP.out], Below.refl _ _⟩
        | false =>
          have HP := Lib.hid hp
          clear hp
          cases q1 : (ba == 0) with
          | false =>
            go_wp2
            go_meet
            exact ⟨by simp [HH.out, HP.out], Below.refl _ _⟩
          | true =>
            cases q2 : (ix == 0) with
            | false =>
              go_wp2
              go_meet
              exact ⟨by simp [HH.out, HP.out], Below.refl _ _⟩
            | true =>
              cases q3 : (sc == 0) with
              | false =>
                go_wp2
                go_meet
                exact ⟨by simp [HH.out, HP.out], Below.refl _ _⟩
              | true =>
                cases q4 : (di == 0) with
                | false =>
                  go_wp2
                  go_meet
                  exact ⟨by simp [HH.out, HP.out], Below.refl _ _⟩
                | true =>
                  exfalso
                  have h9 := HP.out
                  simp only [beq_iff_eq] at q1 q2 q3 q4
                  simp [noPlace, q1, q2, q3, q4] at h9
  case rest =>
  obtain ⟨rfl, hb2⟩ := hcut
  obtain ⟨b4, hb4⟩ : ∃ q, (b3 && (if hasR f 77 then placeB ⟨op, d, s, t, ba, ix, sc, di, im⟩ else noPlace ⟨op, d, s, t, ba, ix, sc, di, im⟩)) = q := ⟨_, rfl⟩
  have HQ4 := Lib.hid hb4
  rw [hb4]
  have k8 := (hb2.cell (p := ⟨w.heap.size, 8, none⟩) m1).trans n8
  have HB2 := Lib.hid (HB1.out.trans (hb2.mono HB1.out.size))
  clear hb4 hb2 n0 n1 n2 n3 n4 n5 n6 n7 n8
  have HALL := Lib.hid (show chkR f ⟨op, d, s, t, ba, ix, sc, di, im⟩ = (b4 && immR f im) by rw [← HQ4.out, ← HQ3.out, ← HQ2.out, ← HQ1.out, ← HB0.out]; rfl)
  clear HQ4 HQ3 HQ2 HQ1 HB0
  go_wp2_with fail
  refine (HHAS.out 105 wc).mono ?_
  rintro e w3 ⟨rfl, rfl⟩
  cases h1 : hasR f 105 with
  | true =>
    have HX := Lib.hid h1
    clear h1
    cases b4 with
    | false =>
      go_wp2
      go_ret
      exact ⟨ret_int (by rw [HALL.out]; rfl), HB2.out⟩
    | true =>
      go_wp2_with fail
      refine (HSM.out im wc).mono ?_
      rintro e w3 ⟨rfl, rfl⟩
      cases hs : smallI im with
      | true =>
        have HS := Lib.hid hs
        clear hs
        go_wp2
        go_ret
        exact ⟨ret_int (by rw [HALL.out]; simp [immR, HX.out, HS.out, errOf]), HB2.out⟩
      | false =>
        have HS := Lib.hid hs
        clear hs
        go_wp2
        go_ret
        exact ⟨ret_int (by rw [HALL.out]; simp [immR, HX.out, HS.out, errOf]), HB2.out⟩
  | false =>
    have HX := Lib.hid h1
    clear h1
    go_wp2_with fail
    refine (HHAS.out 98 wc).mono ?_
    rintro e w3 ⟨rfl, rfl⟩
    cases h2 : hasR f 98 with
    | true =>
      have HY := Lib.hid h2
      clear h2
      cases b4 with
      | false =>
        go_wp2
        go_ret
        exact ⟨ret_int (by rw [HALL.out]; rfl), HB2.out⟩
      | true =>
        by_cases q1 : 1 ≤ im
        · have d1 : decide (1 ≤ im) = true := by simpa using q1
          have HD := Lib.hid d1
          clear q1
          by_cases q2 : im ≤ 63
          · have d2 : decide (im ≤ 63) = true := by simpa using q2
            have HD2 := Lib.hid d2
            clear q2
            go_wp2
            go_ret
            exact ⟨ret_int (by rw [HALL.out]; simp only [immR, HX.out, HY.out, HD.out, HD2.out]; rfl), HB2.out⟩
          · have d2 : decide (im ≤ 63) = false := by simpa using q2
            have HD2 := Lib.hid d2
            clear q2
            go_wp2
            go_ret
            exact ⟨ret_int (by rw [HALL.out]; simp only [immR, HX.out, HY.out, HD.out, HD2.out]; rfl), HB2.out⟩
        · have d1 : decide (1 ≤ im) = false := by simpa using q1
          have HD := Lib.hid d1
          clear q1
          go_wp2
          go_ret
          exact ⟨ret_int (by rw [HALL.out]; simp only [immR, HX.out, HY.out, HD.out]; rfl), HB2.out⟩
    | false =>
      have HY := Lib.hid h2
      clear h2
      go_wp2_with fail
      refine (HHAS.out 73 wc).mono ?_
      rintro e w3 ⟨rfl, rfl⟩
      cases h3 : hasR f 73 with
      | true =>
        have HZ := Lib.hid h3
        clear h3
        cases b4 with
        | false =>
          go_wp2
          go_ret
          exact ⟨ret_int (by rw [HALL.out]; rfl), HB2.out⟩
        | true =>
          go_wp2
          go_ret
          exact ⟨ret_int (by rw [HALL.out]; simp only [immR, HX.out, HY.out, HZ.out]; rfl), HB2.out⟩
      | false =>
        have HZ := Lib.hid h3
        clear h3
        cases b4 with
        | false =>
          go_wp2
          go_ret
          exact ⟨ret_int (by rw [HALL.out]; rfl), HB2.out⟩
        | true =>
          cases h0 : (im == 0) with
          | true =>
            have H0 := Lib.hid h0
            go_wp2
            go_ret
            exact ⟨ret_int (by rw [HALL.out]; simp only [immR, HX.out, HY.out, HZ.out, H0.out]; rfl), HB2.out⟩
          | false =>
            have H0 := Lib.hid h0
            go_wp2
            go_ret
            exact ⟨ret_int (by rw [HALL.out]; simp only [immR, HX.out, HY.out, HZ.out, H0.out]; rfl), HB2.out⟩
end Go.Proofs.YtmanhikpccnfaaaGreat

/- package keysmithref05: rising; keysmithlaw08.in. -/
namespace Go.Proofs.YtmanhikpccnfaaaGreat
open Go.RowKit

theorem infoI64 : (Tryz.prog.info? 3).map (fun i => (i.zero, i.size, i.bytes)) = some (some (.int .i64 0), 1, 8) := by kernel_rfl

/-- A slice of numbers. -/
def IntsAt (w : World) (F : Nat → Prop) (v : Value) (l : List Nat) : Prop := Rows w F 1 v (l.map fun n => [Value.int .i64 (n : Nat)])
theorem IntsAt.keep {w w' : World} {F : Nat → Prop} {v : Value} {l : List Nat} (h : IntsAt w F v l) (hk : SameOn F w w') : IntsAt w' F v l := Rows.keep h hk
theorem IntsAt.form {w : World} {F : Nat → Prop} {v : Value} {l : List Nat} (h : IntsAt w F v l) : ∃ A c, v = .slice A l.length c ∧ l.length ≤ c := by
  obtain ⟨A, c, rfl, hc, _, _⟩ := h
  rw [List.length_map] at hc ⊢
  exact ⟨A, c, rfl, hc⟩
theorem IntsAt.at_ {w : World} {F : Nat → Prop} {A : Option Addr} {n c : Nat} {l : List Nat} (h : IntsAt w F (.slice A n c) l) {k : Nat} {x : Nat} (hk : l[k]? = some x) :
    ∃ b o, A = some ⟨b, o, none⟩ ∧ F b ∧ w.cell? ⟨b, o + k, none⟩ = some (.int .i64 x) := by
  obtain ⟨A', c', hv, hc, hl, hne⟩ := h
  cases hv
  have h1 : (l.map fun n => [Value.int .i64 (n : Nat)])[k]? = some [Value.int .i64 (x : Nat)] := by rw [List.getElem?_map, hk]; rfl
  obtain ⟨b, o, rfl, hF, hat⟩ := hne (fun e => by rw [e] at h1; cases h1)
  have := hat k 0 _ _ h1 rfl
  exact ⟨b, o, rfl, hF, by simpa using this⟩
def intRow (l : List Nat) : List Value := (l.map fun n => [Value.int .i64 (n : Nat)]).flatten
theorem intRow_snoc (l : List Nat) (x : Nat) : intRow (l ++ [x]) = intRow l ++ [Value.int .i64 (x : Nat)] := by simp [intRow]
theorem ints_own {w : World} {base : Nat} {v : Value} {l : List Nat} (h : w.ownsRow base 3 1 v l.length (intRow l)) : IntsAt w (fun k => base ≤ k ∧ k < w.heap.size) v l := by
  have hsz : ∀ r ∈ (l.map fun n => [Value.int .i64 (n : Nat)]), r.length = 1 := by intro r hr; obtain ⟨x, _, rfl⟩ := List.mem_map.1 hr; rfl
  rcases Nat.eq_zero_or_pos l.length with h0 | hpos
  · obtain rfl := List.eq_nil_of_length_eq_zero h0
    rcases h.2 with ⟨rfl, _⟩ | ⟨g, cap, cur, rfl, _, _, hnc, _⟩
    · exact ⟨none, 0, rfl, by simp, by simp, fun h => absurd rfl h⟩
    · exact ⟨_, cap, rfl, by simp, by simp, fun h => absurd rfl h⟩
  · obtain ⟨g, cap, rfl, hg, hnc, hrow⟩ := rowsBlk_of_own h hsz hpos
    refine ⟨_, cap, by simp, by simpa using hnc, hsz, fun _ => ⟨g, 0, rfl, ⟨hg, hrow.lt⟩, fun i j r u hr hu => ?_⟩⟩
    rw [Nat.zero_add]
    exact hrow.cell hr hu

/-- The numbers at which it is true. -/
def risingF (L : List Bool) : List Nat := (List.range 16).filter fun k => L.getD k false
def upTo (L : List Bool) (k : Nat) : List Nat := (List.range k).filter fun k => L.getD k false
theorem upTo_yes {L : List Bool} {k : Nat} (h : L.getD k false = true) : upTo L (k + 1) = upTo L k ++ [k] := by
  unfold upTo
  rw [List.range_succ, List.filter_append]
  simp only [List.filter_cons, h, if_true, List.filter_nil]
theorem upTo_no {L : List Bool} {k : Nat} (h : L.getD k false = false) : upTo L (k + 1) = upTo L k := by
  unfold upTo
  rw [List.range_succ, List.filter_append]
  simp only [List.filter_cons, h, List.filter_nil, Bool.false_eq_true, if_false, List.append_nil]
theorem upTo_few (L : List Bool) (k : Nat) : (upTo L k).length ≤ k := Nat.le_trans (List.length_filter_le _ _) (by simp)
theorem rising_mem {L : List Bool} {k : Nat} (h : k < 16) : (risingF L).contains k = L.getD k false := by
  rw [Bool.eq_iff_iff, List.contains_iff_mem, risingF, List.mem_filter, List.mem_range]
  exact ⟨fun h => h.2, fun h' => ⟨h, h'⟩⟩

set_option maxRecDepth 100000 in
set_option maxHeartbeats 1600000 in
theorem rising_any (L : List Bool) (hL : L.length = 16) (w : World) :
    Calls Tryz.prog 40 #[.agg (L.map Value.bool).toArray] w fun e w' => ∃ v, e = .returned v ∧ IntsAt w' (fun k => w.heap.size ≤ k ∧ k < w'.heap.size) v (risingF L) ∧ Below w.heap.size w w' := by
  obtain ⟨i0, hi0, hz0, hz1, hz2⟩ := info_parts infoI64
  obtain ⟨W1, hW1, hb1, hs1, hn1, _⟩ := boxed w (L.map Value.bool).toArray 80
  have HW1 := Lib.hid hW1
  have HB1 := Lib.hid hb1
  have HN1 := Lib.hid hn1
  have m1 : w.heap.size < W1.heap.size := by omega
  have HL := Lib.hid hL
  generalize hcs : (L.map Value.bool).toArray = cs at *
  have HCS := Lib.hid hcs
  clear hW1 hb1 hs1 hn1 hL hcs
  go_enter Tryz.func40, Tryz.ntmps40
  go_wp2_with fail
  rw [← HW1.out]
  go_loopw [3, 4] (fun sl i wr => ∃ k : Nat, k ≤ 16 ∧ i = .int .i64 k ∧ Below W1.heap.size W1 wr ∧ wr.ownsRow W1.heap.size 3 1 sl (upTo L k).length (intRow (upTo L k))) (fun _ i _ => 16 - (intOf i).toNat)
  case atStart => exact ⟨0, by omega, rfl, Below.refl _ _, ⟨rfl, .inl ⟨rfl, rfl⟩⟩⟩
  case round =>
    obtain ⟨k, hk, rfl, hbl, hown⟩ := hrel
    have HBL := Lib.hid hbl
    have HOWN := Lib.hid hown
    clear hbl hown
    by_cases hlt : k < 16
    · have cb : wr.cell? ⟨w.heap.size, k, none⟩ = some (.bool (L.getD k false)) := by
        rw [HBL.out.cell (p := ⟨w.heap.size, k, none⟩) m1, HN1.out, ← HCS.out]
        have hkl : k < L.length := by rw [HL.out]; exact hlt
        simp [hkl]
      have i0' : (0 : Int) ≤ (k : Int) := by omega
      have i1' : (k : Int) < 16 := by omega
      cases hb : L.getD k false with
      | false =>
        rw [hb] at cb
        have HU := Lib.hid (upTo_no hb)
        clear hb
        go_wp2
        go_roundw
        case rel => exact ⟨k + 1, by omega, by go_num, HBL.out, by rw [HU.out]; exact HOWN.out⟩
        case measure => simp [intOf]; omega
      | true =>
        rw [hb] at cb
        have HU := Lib.hid (upTo_yes hb)
        have hfew := upTo_few L k
        obtain ⟨A3, c3, rfl⟩ : ∃ A c, u3 = .slice A (upTo L k).length c := by
          rcases HOWN.out.2 with ⟨h1, h2⟩ | ⟨g', cap', cur, hv, _⟩
          · exact ⟨none, 0, by rw [h1, h2]⟩
          · exact ⟨_, _, hv⟩
        generalize hn : (upTo L k).length = n at *
        have HNN := Lib.hid hn
        have hsz1 := HBL.out.size
        clear hb hn
        go_wp2_with ((at_builtin; refine wpList_append_own_at _ rfl _ _ 52 rfl W1.heap.size 3 i0 (.int .i64 0) 1 8 Tryz.underlying52 hi0 hz0 hz1 hz2 rfl (by decide) _ n _ rfl (HOWN.out.alloc _) ⟨wr.heap.size, 0, none⟩ 1 1 [.int .i64 k] rfl (by simp) (World.news_of_block (cs := #[.int .i64 k]) (t := 3) (fr := (0, 0)) (heap_alloc_new wr _)) (by simp [Value.oneCell']) (by unfold maxLen; omega) (by omega) (by simp; omega) ?_); intro v w1 hown hg _ _; have HO := Lib.hid hown; have HG := Lib.hid hg; clear hown hg)
        go_roundw
        case rel => exact ⟨k + 1, by omega, by go_num, ((HBL.out.trans ((Below.refl wr.heap.size wr).alloc (Nat.le_refl _) _ |>.mono HBL.out.size)).grown HG.out (by simp; omega) (fun k hk => (own_lt HOWN.out k hk).2)), by rw [HU.out, List.length_append, HNN.out, intRow_snoc]; exact HO.out⟩
        case measure => simp [intOf]; omega
    · obtain rfl : k = 16 := by omega
      have HI := Lib.hid (ints_own HOWN.out)
      go_wp2
      go_ret
      exact ⟨_, rfl, HI.out.mono fun k hk => ⟨by have := HB1.out.size; omega, hk.2⟩, HB1.out.trans (HBL.out.mono (by omega))⟩

/-- Is a number among some? -/
def inF (l : List Nat) (n : Nat) : Bool := l.contains n
theorem inF_rising {L : List Bool} {k : Nat} (h : k < 16) : inF (risingF L) k = L.getD k false := rising_mem h
set_option maxHeartbeats 800000 in
theorem in_any (l : List Nat) (v : Value) (n : Nat) (w : World) (F : Nat → Prop) (hl : IntsAt w F v l) (hF : ∀ k, F k → k < w.heap.size) (h : l.length ≤ 1000) :
    Calls Tryz.prog 19 #[v, .int .i64 n] w fun e w' => e = .returned (.bool (inF l n)) ∧ w = w' := by
  obtain ⟨A, c, rfl, _⟩ := hl.form
  have HL := Lib.hid hl
  have HF := Lib.hid hF
  clear hl hF
  generalize hln : l.length = m at *
  have HM := Lib.hid hln
  clear hln
  go_enter Tryz.func19, Tryz.ntmps19
  go_wp2
  go_loop [5] (fun i => ∃ k : Nat, k ≤ m ∧ i = .int .i64 k ∧ ∀ (j x : Nat), j < k → l[j]? = some x → x ≠ n) (fun i => m - (intOf i).toNat)
  case atStart => exact ⟨0, Nat.zero_le _, rfl, fun j x hj => absurd hj (by omega)⟩
  case round =>
    obtain ⟨k, hk, rfl, hall⟩ := hrel
    have HALL := Lib.hid hall
    clear hall
    by_cases hlt : k < m
    · obtain ⟨x, hx⟩ : ∃ x, l[k]? = some x := ⟨_, List.getElem?_eq_getElem (by have := HM.out; omega)⟩
      obtain ⟨b, o, rfl, hFb, hc⟩ := HL.out.at_ hx
      have hbl := HF.out b hFb
      have i0 : (0 : Int) ≤ (k : Int) := by omega
      have i1 : (k : Int) < (m : Int) := by omega
      have HX := Lib.hid hx
      clear hx hFb
      by_cases hn : x = n
      · have e1 : ((x : Int) == (n : Int)) = true := by simp; omega
        have e2 : (x == n) = true := by simpa using hn
        have hy : inF l n = true := by unfold inF; rw [List.contains_iff_mem]; exact hn ▸ List.mem_of_getElem? HX.out
        have HY := Lib.hid hy
        clear hy hn
        go_wp2
        go_ret
        exact ⟨ret_bool HY.out.symm, rfl⟩
      · have e1 : ((x : Int) == (n : Int)) = false := by simp; omega
        have e2 : (x == n) = false := by simpa using hn
        have HC := Lib.hid hn
        clear hn
        go_wp2
        go_round
        case rel => exact ⟨k + 1, by omega, by go_num, fun j y hj hy => by
          rcases Nat.lt_or_ge j k with h | h
          · exact HALL.out j y h hy
          · obtain rfl : j = k := by omega
            have h1 := HX.out
            rw [h1] at hy
            cases hy
            exact HC.out⟩
        case measure => simp [intOf]; omega
    · have hn : inF l n = false := by
        unfold inF
        rw [Bool.eq_false_iff]
        intro h
        rw [List.contains_iff_mem] at h
        obtain ⟨j, hj⟩ := List.mem_iff_getElem?.1 h
        exact HALL.out j n (by have := (List.getElem?_eq_some_iff.1 hj).1; have := HM.out; omega) hj rfl
      have HN := Lib.hid hn
      clear hn
      go_wp2
      go_ret
      exact ⟨ret_bool HN.out.symm, rfl⟩
end Go.Proofs.YtmanhikpccnfaaaGreat
