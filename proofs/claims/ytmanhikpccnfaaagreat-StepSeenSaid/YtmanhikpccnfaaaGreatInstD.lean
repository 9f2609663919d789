/- package inst: Check. -/
import Derived.Test.YtmanhikpccnfaaaGreatInstC
import Derived.Deep.DeepCutAuto
import Derived.Outline
namespace Go.Proofs.YtmanhikpccnfaaaGreat
open Go.RowKit

def chkP (i : Ins) : Bool := (!(formF i.op).name.isEmpty && numB (formF i.op).is i.imm) && (hasOk (hasB (formF i.op).is 1) i.d && hasOk (hasB (formF i.op).is 2) i.s && hasOk (hasB (formF i.op).is 4) i.t) &&
  ((if hasB (formF i.op).is 8 then placeB i else noPlace i) && !(hasB (formF i.op).is 4 && i.d == i.s))

/-- What is known of an instruction's numbers. -/
structure InsOk (i : Ins) : Prop where
  disp : -9223372036854775808 ≤ i.disp ∧ i.disp ≤ 9223372036854775807
  imm : -9223372036854775808 ≤ i.imm ∧ i.imm ≤ 9223372036854775807

def insRow' (i : Ins) : List Value := [.int .i64 i.op, .int .i64 i.d, .int .i64 i.s, .int .i64 i.t, .int .i64 i.base, .int .i64 i.index, .int .i64 i.scale, .int .i64 i.disp, .int .i64 i.imm]

def errOf (b : Bool) : Int := if b then 0 else 2
theorem chk_no {i : Ins} (h : chkP i = false) : errOf (chkP i) = 2 := by rw [h]; rfl

set_option maxRecDepth 100000 in
set_option maxHeartbeats 1600000 in
theorem iCheck_any (i : Ins) (h : InsOk i) (w : World) :
    Calls Tryz.prog 36 #[.agg #[.int .i64 i.op, .int .i64 i.d, .int .i64 i.s, .int .i64 i.t, .int .i64 i.base, .int .i64 i.index, .int .i64 i.scale, .int .i64 i.disp, .int .i64 i.imm]] w fun e w' => e = .returned (.int .i64 (errOf (chkP i))) ∧ Below w.heap.size w w' := by
  obtain ⟨pb, hpb⟩ : ∃ pb, pb = chkP i := ⟨_, rfl⟩
  rw [← hpb]
  have HP0 := Lib.hid hpb
  unfold chkP at hpb
  have HP := Lib.hid hpb
  clear hpb
  have HOF := Lib.hid (fun w => of_form w i.op)
  generalize hf : formF i.op = f at *
  have HNUM := Lib.hid (fun w => number_any f i.imm h.imm w)
  have HHAS := Lib.hid (fun what w => has_any f what w)
  have HPL := Lib.hid (fun w => iplace_any i h.disp w)
  have HREG := Lib.hid (fun r w => register_any r w)
  clear hf h
  unfold formV formRow at HOF HNUM HHAS
  obtain ⟨W1, hW1, hb1, hs1, hn1, _⟩ := boxed w #[.int .i64 i.op, .int .i64 i.d, .int .i64 i.s, .int .i64 i.t, .int .i64 i.base, .int .i64 i.index, .int .i64 i.scale, .int .i64 i.disp, .int .i64 i.imm] 29
  have HW1 := Lib.hid hW1
  have n0 : W1.cell? ⟨w.heap.size, 0, none⟩ = some (.int .i64 i.op) := hn1 0
  have HN1 := Lib.hid hn1
  have HB1 := Lib.hid hb1
  have m1 : w.heap.size < W1.heap.size := by omega
  clear hW1 hn1 hb1 hs1
  go_enter Tryz.func36, Tryz.ntmps36
  go_wp2_with fail
  rw [← HW1.out]
  refine (HOF.out W1).mono ?_
  rintro e w2 ⟨rfl, hb2⟩
  obtain ⟨W3, hW3, hb3, hs3, hn3, _⟩ := boxed w2 #[.string ⟨f.name.toArray⟩, .int .i64 f.is, .int .i64 f.reads, .int .i64 f.writes] 99
  have hsz2 := hb2.size
  -- the cells, in any later world
  have keep : ∀ w_, Below W3.heap.size W3 w_ → (∀ (j : Nat) (v : Value), (#[Value.int .i64 i.op, .int .i64 i.d, .int .i64 i.s, .int .i64 i.t, .int .i64 i.base, .int .i64 i.index, .int .i64 i.scale, .int .i64 i.disp, .int .i64 i.imm] : Array Value)[j]? = some v → w_.cell? ⟨w.heap.size, j, none⟩ = some v) ∧
      (∀ (j : Nat) (v : Value), (#[Value.string ⟨f.name.toArray⟩, .int .i64 f.is, .int .i64 f.reads, .int .i64 f.writes] : Array Value)[j]? = some v → w_.cell? ⟨w2.heap.size, j, none⟩ = some v) := fun w_ hw_ => by
    refine ⟨fun j v hj => ?_, fun j v hj => ?_⟩
    · rw [hw_.cell (p := ⟨w.heap.size, j, none⟩) (by show w.heap.size < W3.heap.size; omega), hb3.cell (p := ⟨w.heap.size, j, none⟩) (by show w.heap.size < w2.heap.size; omega), hb2.cell (p := ⟨w.heap.size, j, none⟩) m1, HN1.out j]; exact hj
    · rw [hw_.cell (p := ⟨w2.heap.size, j, none⟩) (by show w2.heap.size < W3.heap.size; omega), hn3 j]; exact hj
  have KEEP := Lib.hid keep
  have HW3 := Lib.hid hW3
  have HB3 := Lib.hid ((HB1.out.trans (hb2.mono HB1.out.size)).trans (hb3.mono (by omega)))
  have g1 : w2.cell? ⟨w.heap.size, 8, none⟩ = some (.int .i64 i.imm) := (hb2.cell (p := ⟨w.heap.size, 8, none⟩) m1).trans (HN1.out 8)
  have l0 : w.heap.size < w2.heap.size := by omega
  have l1 : w.heap.size < W3.heap.size := by omega
  have l2 : w2.heap.size < W3.heap.size := by omega
  clear keep hW3 hb3 hs3 hn3 hb2 hsz2 n0
  cases hne : f.name.isEmpty with
  | true =>
    have HX := Lib.hid hne
    have hne2 : f.name = [] := by simpa using hne
    have HNE2 := Lib.hid hne2
    have hpf : pb = false := by rw [HP.out, HX.out]; rfl
    have HPF := Lib.hid hpf
    clear hpf
    go_wp2
    go_ret
    refine ⟨ret_int (by rw [HPF.out]; rfl), ?_⟩
    have h1 := HW3.out
    have h2 := HB3.out
    rw [h1, hne2] at h2
    exact h2
  | false =>
    have HX := Lib.hid hne
    have hne2 : ¬ f.name = [] := by intro e; rw [e] at hne; cases hne
    go_wp2_with fail
    rw [← HW3.out]
    refine (HNUM.out W3).mono ?_
    rintro e w4 ⟨rfl, hb4⟩
    have HB4 := Lib.hid hb4
    have g0 := (KEEP.out w4 hb4).1 1 _ rfl
    have g2 := (KEEP.out w4 hb4).1 2 _ rfl
    have g3 := (KEEP.out w4 hb4).1 3 _ rfl
    clear hb4 g1 hne2 hne
    cases hnum : numB f.is i.imm with
    | false =>
      have hpf : pb = false := by rw [HP.out, HX.out, hnum]; rfl
      have HPF := Lib.hid hpf
      clear hpf hnum
      go_wp2
      go_ret
      exact ⟨ret_int (by rw [HPF.out]; rfl), HB3.out.trans (HB4.out.mono (by have := HB3.out.size; omega))⟩
    | true =>
      have HNB := Lib.hid hnum
      clear hnum
      have hi0 : ∀ w_, (Instr.index 102 (.agg #[.int .i64 1, .int .i64 i.d, .int .i64 2, .int .i64 i.s, .int .i64 4, .int .i64 i.t]) (.int .i64 0)).run Tryz.prog w_ = .ok (.agg #[.int .i64 1, .int .i64 i.d]) w_ := fun w_ => by kernel_rfl
      have hi1 : ∀ w_, (Instr.index 102 (.agg #[.int .i64 1, .int .i64 i.d, .int .i64 2, .int .i64 i.s, .int .i64 4, .int .i64 i.t]) (.int .i64 1)).run Tryz.prog w_ = .ok (.agg #[.int .i64 2, .int .i64 i.s]) w_ := fun w_ => by kernel_rfl
      have hi2 : ∀ w_, (Instr.index 102 (.agg #[.int .i64 1, .int .i64 i.d, .int .i64 2, .int .i64 i.s, .int .i64 4, .int .i64 i.t]) (.int .i64 2)).run Tryz.prog w_ = .ok (.agg #[.int .i64 4, .int .i64 i.t]) w_ := fun w_ => by kernel_rfl
      have HI0 := Lib.hid hi0
      have HI1 := Lib.hid hi1
      have HI2 := Lib.hid hi2
      clear hi0 hi1 hi2
      go_wp2
      go_loopw [29] (fun z wr => ∃ (q : Nat) (y : Int), y = q ∧ q ≤ 3 ∧ z = .int .i64 y ∧ Below W3.heap.size W3 wr ∧ ((1 ≤ q → hasOk (hasB f.is 1) i.d = true) ∧ (2 ≤ q → hasOk (hasB f.is 2) i.s = true) ∧ (3 ≤ q → hasOk (hasB f.is 4) i.t = true))) (fun z _ => 3 - (intOf z).toNat)
      case atStart => exact ⟨0, 0, rfl, by omega, rfl, HB4.out, by omega, by omega, by omega⟩
      case round =>
        obtain ⟨q, y, hy, hq, rfl, hbl, hne⟩ := hrel
        have HNE := Lib.hid hne
        have k0 := (KEEP.out wr hbl).2 0 _ rfl
        have k1 := (KEEP.out wr hbl).2 1 _ rfl
        have k2 := (KEEP.out wr hbl).2 2 _ rfl
        have k3 := (KEEP.out wr hbl).2 3 _ rfl
        have l3 : w2.heap.size < wr.heap.size := Nat.lt_of_lt_of_le l2 hbl.size
        have HBL := Lib.hid hbl
        clear hne hbl g0 g2 g3
        rcases (by omega : y = 0 ∨ y = 1 ∨ y = 2 ∨ y = 3) with rfl | rfl | rfl | rfl
        · have HQ := Lib.hid hy
          have hi := HI0.out
          clear hy hq
          obtain ⟨W5, hW5, hb5, hs5, hn5, _⟩ := boxed wr #[.int .i64 1, .int .i64 i.d] 101
          have HW5 := Lib.hid hW5
          have HB5 := Lib.hid (HBL.out.trans (hb5.mono HBL.out.size))
          have p1 : W5.cell? ⟨wr.heap.size, 1, none⟩ = some (.int .i64 i.d) := hn5 1
          have p0 : W5.cell? ⟨wr.heap.size, 0, none⟩ = some (.int .i64 1) := hn5 0
          have l5 : wr.heap.size < W5.heap.size := by omega
          clear hW5 hb5 hs5 hn5
          go_wp2_with fail
          rw [← HW5.out]
          refine (HHAS.out 1 W5).mono ?_
          rintro e w6 ⟨rfl, hb6⟩
          have r1 := (hb6.cell (p := ⟨wr.heap.size, 1, none⟩) l5).trans p1
          have r0 := (hb6.cell (p := ⟨wr.heap.size, 0, none⟩) l5).trans p0
          have l6 : wr.heap.size < w6.heap.size := Nat.lt_of_lt_of_le l5 hb6.size
          have hb6' := HB5.out.trans (hb6.mono HB5.out.size)
          replace k0 := (KEEP.out w6 hb6').2 0 _ rfl
          replace k1 := (KEEP.out w6 hb6').2 1 _ rfl
          replace k2 := (KEEP.out w6 hb6').2 2 _ rfl
          replace k3 := (KEEP.out w6 hb6').2 3 _ rfl
          have HB6 := Lib.hid hb6'
          clear hb6 hb6' p0 p1 hi l5
          cases hh : hasB f.is 1 with
          | true =>
            have HH := Lib.hid hh
            clear hh
            go_wp2_with fail
            refine (HREG.out i.d w6).mono ?_
            rintro e w7 ⟨rfl, rfl⟩
            cases hr : regOk i.d with
            | false =>
              have hpf : pb = false := by
                rw [HP.out]
                have h9 : hasOk (hasB f.is 1) i.d = false := by rw [HH.out]; exact hr
                simp [h9]
              have HPF := Lib.hid hpf
              clear hpf hr
              go_wp2
              go_ret
              exact ⟨ret_int (by rw [HPF.out]; rfl), HB3.out.trans (HB6.out.mono (by have := HB3.out.size; omega))⟩
            | true =>
              have HR := Lib.hid hr
              clear hr
              go_wp2_with fail
              refine (HHAS.out 1 w6).mono ?_
              rintro e w7 ⟨rfl, hb7⟩
              rw [HH.out]
              have HB7 := Lib.hid (HB6.out.trans (hb7.mono HB6.out.size))
              clear hb7
              go_wp2
              go_roundw
              case rel => have h1 := HNE.out; have h2 := HQ.out; have h3 : hasOk (hasB f.is 1) i.d = true := (by rw [HH.out]; exact HR.out); exact ⟨q + 1, 0 + 1, by omega, by omega, rfl, HB7.out, by first | exact fun _ => h3 | exact fun _ => h1.1 (by omega), by first | exact fun _ => h3 | exact fun _ => h1.2.1 (by omega) | (intro h4; omega), by first | exact fun _ => h3 | (intro h4; omega)⟩
              case measure => simp [intOf]
          | false =>
            have HH := Lib.hid hh
            clear hh
            go_wp2_with fail
            refine (HHAS.out 1 w6).mono ?_
            rintro e w7 ⟨rfl, hb7⟩
            rw [HH.out]
            have s1 := (hb7.cell (p := ⟨wr.heap.size, 1, none⟩) l6).trans r1
            have HB7 := Lib.hid (HB6.out.trans (hb7.mono HB6.out.size))
            clear hb7
            by_cases hz : i.d = 0
            · have hz2 : (i.d != 0) = false := by simpa using hz
              have HZ := Lib.hid hz
              clear hz
              go_wp2
              go_roundw
              case rel => have h1 := HNE.out; have h2 := HQ.out; have h3 : hasOk (hasB f.is 1) i.d = true := (by rw [HH.out]; simpa [hasOk] using HZ.out); exact ⟨q + 1, 0 + 1, by omega, by omega, rfl, HB7.out, by first | exact fun _ => h3 | exact fun _ => h1.1 (by omega), by first | exact fun _ => h3 | exact fun _ => h1.2.1 (by omega) | (intro h4; omega), by first | exact fun _ => h3 | (intro h4; omega)⟩
              case measure => simp [intOf]
            · have hz2 : (i.d != 0) = true := by simpa using hz
              have hpf : pb = false := by
                rw [HP.out]
                have h9 : hasOk (hasB f.is 1) i.d = false := by rw [HH.out]; simpa [hasOk] using hz
                simp [h9]
              have HPF := Lib.hid hpf
              clear hpf hz
              go_wp2
              go_ret
              exact ⟨ret_int (by rw [HPF.out]; rfl), HB3.out.trans (HB7.out.mono (by have := HB3.out.size; omega))⟩
        · have HQ := Lib.hid hy
          have hi := HI1.out
          clear hy hq
          obtain ⟨W5, hW5, hb5, hs5, hn5, _⟩ := boxed wr #[.int .i64 2, .int .i64 i.s] 101
          have HW5 := Lib.hid hW5
          have HB5 := Lib.hid (HBL.out.trans (hb5.mono HBL.out.size))
          have p1 : W5.cell? ⟨wr.heap.size, 1, none⟩ = some (.int .i64 i.s) := hn5 1
          have p0 : W5.cell? ⟨wr.heap.size, 0, none⟩ = some (.int .i64 2) := hn5 0
          have l5 : wr.heap.size < W5.heap.size := by omega
          clear hW5 hb5 hs5 hn5
          go_wp2_with fail
          rw [← HW5.out]
          refine (HHAS.out 2 W5).mono ?_
          rintro e w6 ⟨rfl, hb6⟩
          have r1 := (hb6.cell (p := ⟨wr.heap.size, 1, none⟩) l5).trans p1
          have r0 := (hb6.cell (p := ⟨wr.heap.size, 0, none⟩) l5).trans p0
          have l6 : wr.heap.size < w6.heap.size := Nat.lt_of_lt_of_le l5 hb6.size
          have hb6' := HB5.out.trans (hb6.mono HB5.out.size)
          replace k0 := (KEEP.out w6 hb6').2 0 _ rfl
          replace k1 := (KEEP.out w6 hb6').2 1 _ rfl
          replace k2 := (KEEP.out w6 hb6').2 2 _ rfl
          replace k3 := (KEEP.out w6 hb6').2 3 _ rfl
          have HB6 := Lib.hid hb6'
          clear hb6 hb6' p0 p1 hi l5
          cases hh : hasB f.is 2 with
          | true =>
            have HH := Lib.hid hh
            clear hh
            go_wp2_with fail
            refine (HREG.out i.s w6).mono ?_
            rintro e w7 ⟨rfl, rfl⟩
            cases hr : regOk i.s with
            | false =>
              have hpf : pb = false := by
                rw [HP.out]
                have h9 : hasOk (hasB f.is 2) i.s = false := by rw [HH.out]; exact hr
                simp [h9]
              have HPF := Lib.hid hpf
              clear hpf hr
              go_wp2
              go_ret
              exact ⟨ret_int (by rw [HPF.out]; rfl), HB3.out.trans (HB6.out.mono (by have := HB3.out.size; omega))⟩
            | true =>
              have HR := Lib.hid hr
              clear hr
              go_wp2_with fail
              refine (HHAS.out 2 w6).mono ?_
              rintro e w7 ⟨rfl, hb7⟩
              rw [HH.out]
              have HB7 := Lib.hid (HB6.out.trans (hb7.mono HB6.out.size))
              clear hb7
              go_wp2
              go_roundw
              case rel => have h1 := HNE.out; have h2 := HQ.out; have h3 : hasOk (hasB f.is 2) i.s = true := (by rw [HH.out]; exact HR.out); exact ⟨q + 1, 1 + 1, by omega, by omega, rfl, HB7.out, by first | exact fun _ => h3 | exact fun _ => h1.1 (by omega), by first | exact fun _ => h3 | exact fun _ => h1.2.1 (by omega) | (intro h4; omega), by first | exact fun _ => h3 | (intro h4; omega)⟩
              case measure => simp [intOf]
          | false =>
            have HH := Lib.hid hh
            clear hh
            go_wp2_with fail
            refine (HHAS.out 2 w6).mono ?_
            rintro e w7 ⟨rfl, hb7⟩
            rw [HH.out]
            have s1 := (hb7.cell (p := ⟨wr.heap.size, 1, none⟩) l6).trans r1
            have HB7 := Lib.hid (HB6.out.trans (hb7.mono HB6.out.size))
            clear hb7
            by_cases hz : i.s = 0
            · have hz2 : (i.s != 0) = false := by simpa using hz
              have HZ := Lib.hid hz
              clear hz
              go_wp2
              go_roundw
              case rel => have h1 := HNE.out; have h2 := HQ.out; have h3 : hasOk (hasB f.is 2) i.s = true := (by rw [HH.out]; simpa [hasOk] using HZ.out); exact ⟨q + 1, 1 + 1, by omega, by omega, rfl, HB7.out, by first | exact fun _ => h3 | exact fun _ => h1.1 (by omega), by first | exact fun _ => h3 | exact fun _ => h1.2.1 (by omega) | (intro h4; omega), by first | exact fun _ => h3 | (intro h4; omega)⟩
              case measure => simp [intOf]
            · have hz2 : (i.s != 0) = true := by simpa using hz
              have hpf : pb = false := by
                rw [HP.out]
                have h9 : hasOk (hasB f.is 2) i.s = false := by rw [HH.out]; simpa [hasOk] using hz
                simp [h9]
              have HPF := Lib.hid hpf
              clear hpf hz
              go_wp2
              go_ret
              exact ⟨ret_int (by rw [HPF.out]; rfl), HB3.out.trans (HB7.out.mono (by have := HB3.out.size; omega))⟩
        · have HQ := Lib.hid hy
          have hi := HI2.out
          clear hy hq
          obtain ⟨W5, hW5, hb5, hs5, hn5, _⟩ := boxed wr #[.int .i64 4, .int .i64 i.t] 101
          have HW5 := Lib.hid hW5
          have HB5 := Lib.hid (HBL.out.trans (hb5.mono HBL.out.size))
          have p1 : W5.cell? ⟨wr.heap.size, 1, none⟩ = some (.int .i64 i.t) := hn5 1
          have p0 : W5.cell? ⟨wr.heap.size, 0, none⟩ = some (.int .i64 4) := hn5 0
          have l5 : wr.heap.size < W5.heap.size := by omega
          clear hW5 hb5 hs5 hn5
          go_wp2_with fail
          rw [← HW5.out]
          refine (HHAS.out 4 W5).mono ?_
          rintro e w6 ⟨rfl, hb6⟩
          have r1 := (hb6.cell (p := ⟨wr.heap.size, 1, none⟩) l5).trans p1
          have r0 := (hb6.cell (p := ⟨wr.heap.size, 0, none⟩) l5).trans p0
          have l6 : wr.heap.size < w6.heap.size := Nat.lt_of_lt_of_le l5 hb6.size
          have hb6' := HB5.out.trans (hb6.mono HB5.out.size)
          replace k0 := (KEEP.out w6 hb6').2 0 _ rfl
          replace k1 := (KEEP.out w6 hb6').2 1 _ rfl
          replace k2 := (KEEP.out w6 hb6').2 2 _ rfl
          replace k3 := (KEEP.out w6 hb6').2 3 _ rfl
          have HB6 := Lib.hid hb6'
          clear hb6 hb6' p0 p1 hi l5
          cases hh : hasB f.is 4 with
          | true =>
            have HH := Lib.hid hh
            clear hh
            go_wp2_with fail
            refine (HREG.out i.t w6).mono ?_
            rintro e w7 ⟨rfl, rfl⟩
            cases hr : regOk i.t with
            | false =>
              have hpf : pb = false := by
                rw [HP.out]
                have h9 : hasOk (hasB f.is 4) i.t = false := by rw [HH.out]; exact hr
                simp [h9]
              have HPF := Lib.hid hpf
              clear hpf hr
              go_wp2
              go_ret
              exact ⟨ret_int (by rw [HPF.out]; rfl), HB3.out.trans (HB6.out.mono (by have := HB3.out.size; omega))⟩
            | true =>
              have HR := Lib.hid hr
              clear hr
              go_wp2_with fail
              refine (HHAS.out 4 w6).mono ?_
              rintro e w7 ⟨rfl, hb7⟩
              rw [HH.out]
              have HB7 := Lib.hid (HB6.out.trans (hb7.mono HB6.out.size))
              clear hb7
              go_wp2
              go_roundw
              case rel => have h1 := HNE.out; have h2 := HQ.out; have h3 : hasOk (hasB f.is 4) i.t = true := (by rw [HH.out]; exact HR.out); exact ⟨q + 1, 2 + 1, by omega, by omega, rfl, HB7.out, by first | exact fun _ => h3 | exact fun _ => h1.1 (by omega), by first | exact fun _ => h3 | exact fun _ => h1.2.1 (by omega) | (intro h4; omega), by first | exact fun _ => h3 | (intro h4; omega)⟩
              case measure => simp [intOf]
          | false =>
            have HH := Lib.hid hh
            clear hh
            go_wp2_with fail
            refine (HHAS.out 4 w6).mono ?_
            rintro e w7 ⟨rfl, hb7⟩
            rw [HH.out]
            have s1 := (hb7.cell (p := ⟨wr.heap.size, 1, none⟩) l6).trans r1
            have HB7 := Lib.hid (HB6.out.trans (hb7.mono HB6.out.size))
            clear hb7
            by_cases hz : i.t = 0
            · have hz2 : (i.t != 0) = false := by simpa using hz
              have HZ := Lib.hid hz
              clear hz
              go_wp2
              go_roundw
              case rel => have h1 := HNE.out; have h2 := HQ.out; have h3 : hasOk (hasB f.is 4) i.t = true := (by rw [HH.out]; simpa [hasOk] using HZ.out); exact ⟨q + 1, 2 + 1, by omega, by omega, rfl, HB7.out, by first | exact fun _ => h3 | exact fun _ => h1.1 (by omega), by first | exact fun _ => h3 | exact fun _ => h1.2.1 (by omega) | (intro h4; omega), by first | exact fun _ => h3 | (intro h4; omega)⟩
              case measure => simp [intOf]
            · have hz2 : (i.t != 0) = true := by simpa using hz
              have hpf : pb = false := by
                rw [HP.out]
                have h9 : hasOk (hasB f.is 4) i.t = false := by rw [HH.out]; simpa [hasOk] using hz
                simp [h9]
              have HPF := Lib.hid hpf
              clear hpf hz
              go_wp2
              go_ret
              exact ⟨ret_int (by rw [HPF.out]; rfl), HB3.out.trans (HB7.out.mono (by have := HB3.out.size; omega))⟩
        · have HQ := Lib.hid hy
          clear hy hq
          go_wp2_with fail
          refine (HHAS.out 8 wr).mono ?_
          rintro e w6 ⟨rfl, hb6⟩
          have hb6' := HBL.out.trans (hb6.mono HBL.out.size)
          replace k0 := (KEEP.out w6 hb6').2 0 _ rfl
          replace k1 := (KEEP.out w6 hb6').2 1 _ rfl
          replace k2 := (KEEP.out w6 hb6').2 2 _ rfl
          replace k3 := (KEEP.out w6 hb6').2 3 _ rfl
          have g1 := (KEEP.out w6 hb6').1 1 _ rfl
          have g2 := (KEEP.out w6 hb6').1 2 _ rfl
          have g4 := (KEEP.out w6 hb6').1 4 _ rfl
          have g5 := (KEEP.out w6 hb6').1 5 _ rfl
          have g6 := (KEEP.out w6 hb6').1 6 _ rfl
          have g7 := (KEEP.out w6 hb6').1 7 _ rfl
          have HB6 := Lib.hid hb6'
          clear hb6 hb6'
          cases hh : hasB f.is 8 with
          | true =>
            have HH := Lib.hid hh
            clear hh
            go_wp2_with fail
            refine (HPL.out w6).mono ?_
            rintro e w7 ⟨rfl, hb7⟩
            have hb7' := HB6.out.trans (hb7.mono HB6.out.size)
            replace k0 := (KEEP.out w7 hb7').2 0 _ rfl
            replace k1 := (KEEP.out w7 hb7').2 1 _ rfl
            replace k2 := (KEEP.out w7 hb7').2 2 _ rfl
            replace k3 := (KEEP.out w7 hb7').2 3 _ rfl
            have g1 := (KEEP.out w7 hb7').1 1 _ rfl
            have g2 := (KEEP.out w7 hb7').1 2 _ rfl
            have g4 := (KEEP.out w7 hb7').1 4 _ rfl
            have g5 := (KEEP.out w7 hb7').1 5 _ rfl
            have g6 := (KEEP.out w7 hb7').1 6 _ rfl
            have g7 := (KEEP.out w7 hb7').1 7 _ rfl
            have HB7 := Lib.hid hb7'
            clear hb7 hb7'
            cases hp : placeB i with
            | false =>
              have HX2 := Lib.hid hp
              clear hp
              have hpf : pb = false := by
                rw [HP.out]
                rw [HH.out, HX2.out]; simp
              have HPF := Lib.hid hpf
              clear hpf
              go_wp2
              go_ret
              exact ⟨ret_int (by rw [HPF.out]; rfl), HB3.out.trans (HB7.out.mono (by have := HB3.out.size; omega))⟩
            | true =>
              have HX2 := Lib.hid hp
              clear hp
              go_wp2_with fail
              refine (HHAS.out 8 w7).mono ?_
              rintro e w8 ⟨rfl, hb8⟩
              rw [HH.out]
              have hb8' := HB7.out.trans (hb8.mono HB7.out.size)
              replace k0 := (KEEP.out w8 hb8').2 0 _ rfl
              replace k1 := (KEEP.out w8 hb8').2 1 _ rfl
              replace k2 := (KEEP.out w8 hb8').2 2 _ rfl
              replace k3 := (KEEP.out w8 hb8').2 3 _ rfl
              have g1 := (KEEP.out w8 hb8').1 1 _ rfl
              have g2 := (KEEP.out w8 hb8').1 2 _ rfl
              have g4 := (KEEP.out w8 hb8').1 4 _ rfl
              have g5 := (KEEP.out w8 hb8').1 5 _ rfl
              have g6 := (KEEP.out w8 hb8').1 6 _ rfl
              have g7 := (KEEP.out w8 hb8').1 7 _ rfl
              have HB8 := Lib.hid hb8'
              clear hb8 hb8'
              have HPM := Lib.hid (show (if hasB f.is 8 = true then placeB i else noPlace i) = true by rw [HH.out]; exact HX2.out)
              go_wp2_with fail
              refine (HHAS.out 4 w8).mono ?_
              rintro e w9 ⟨rfl, hb9⟩
              have hb9' := HB8.out.trans (hb9.mono HB8.out.size)
              have g1 := (KEEP.out w9 hb9').1 1 _ rfl
              have g2 := (KEEP.out w9 hb9').1 2 _ rfl
              have HB9 := Lib.hid hb9'
              clear hb9 hb9' g4 g5 g6 g7
              have good : (hasB f.is 4 && i.d == i.s) = false → pb = true := fun h9 => by
                have h1 := HNE.out
                have h2 := HQ.out
                rw [HP.out, HX.out, HNB.out, h1.1 (by omega), h1.2.1 (by omega), h1.2.2 (by omega), HPM.out, h9]; rfl
              have bad : (hasB f.is 4 && i.d == i.s) = true → pb = false := fun h9 => by
                rw [HP.out, h9]; simp
              have GOOD := Lib.hid good
              have BAD := Lib.hid bad
              clear good bad
              cases h4 : hasB f.is 4 with
              | false =>
                rw [h4] at GOOD BAD
                have HPF := Lib.hid (GOOD.out (by simp))
                clear h4
                go_wp2
                go_ret
                exact ⟨ret_int (by rw [HPF.out]; rfl), HB3.out.trans (HB9.out.mono (by have := HB3.out.size; omega))⟩
              | true =>
                rw [h4] at GOOD BAD
                clear h4
                cases hds : (i.d == i.s) with
                | false =>
                  have HPF := Lib.hid (GOOD.out (by rw [hds]; rfl))
                  go_wp2
                  go_ret
                  exact ⟨ret_int (by rw [HPF.out]; rfl), HB3.out.trans (HB9.out.mono (by have := HB3.out.size; omega))⟩
                | true =>
                  have HPF := Lib.hid (BAD.out (by rw [hds]; rfl))
                  go_wp2
                  go_ret
                  exact ⟨ret_int (by rw [HPF.out]; rfl), HB3.out.trans (HB9.out.mono (by have := HB3.out.size; omega))⟩
          | false =>
            have HH := Lib.hid hh
            clear hh
            go_wp2_with fail
            refine (HHAS.out 8 w6).mono ?_
            rintro e w7 ⟨rfl, hb7⟩
            rw [HH.out]
            have hb7' := HB6.out.trans (hb7.mono HB6.out.size)
            replace k0 := (KEEP.out w7 hb7').2 0 _ rfl
            replace k1 := (KEEP.out w7 hb7').2 1 _ rfl
            replace k2 := (KEEP.out w7 hb7').2 2 _ rfl
            replace k3 := (KEEP.out w7 hb7').2 3 _ rfl
            have g1 := (KEEP.out w7 hb7').1 1 _ rfl
            have g2 := (KEEP.out w7 hb7').1 2 _ rfl
            have g4 := (KEEP.out w7 hb7').1 4 _ rfl
            have g5 := (KEEP.out w7 hb7').1 5 _ rfl
            have g6 := (KEEP.out w7 hb7').1 6 _ rfl
            have g7 := (KEEP.out w7 hb7').1 7 _ rfl
            have HB8 := Lib.hid hb7'
            clear hb7 hb7'
            obtain ⟨w8, rfl⟩ : ∃ w8 : World, w8 = w7 := ⟨_, rfl⟩
            cases hp : noPlace i with
            | true =>
              have hq := hp
              simp only [noPlace, Bool.and_eq_true, decide_eq_true_eq] at hq
              obtain ⟨⟨⟨q1, q2⟩, q3⟩, q4⟩ := hq
              have HPM := Lib.hid (show (if hasB f.is 8 = true then placeB i else noPlace i) = true by rw [HH.out]; exact hp)
              rw [q1] at g4
              rw [q2] at g5
              rw [q3] at g6
              rw [q4] at g7
              clear hp q1 q2 q3 q4
              go_wp2_with fail
              refine (HHAS.out 4 w8).mono ?_
              rintro e w9 ⟨rfl, hb9⟩
              have hb9' := HB8.out.trans (hb9.mono HB8.out.size)
              have g1 := (KEEP.out w9 hb9').1 1 _ rfl
              have g2 := (KEEP.out w9 hb9').1 2 _ rfl
              have HB9 := Lib.hid hb9'
              clear hb9 hb9' g4 g5 g6 g7
              have good : (hasB f.is 4 && i.d == i.s) = false → pb = true := fun h9 => by
                have h1 := HNE.out
                have h2 := HQ.out
                rw [HP.out, HX.out, HNB.out, h1.1 (by omega), h1.2.1 (by omega), h1.2.2 (by omega), HPM.out, h9]; rfl
              have bad : (hasB f.is 4 && i.d == i.s) = true → pb = false := fun h9 => by
                rw [HP.out, h9]; simp
              have GOOD := Lib.hid good
              have BAD := Lib.hid bad
              clear good bad
              cases h4 : hasB f.is 4 with
              | false =>
                rw [h4] at GOOD BAD
                have HPF := Lib.hid (GOOD.out (by simp))
                clear h4
                go_wp2
                go_ret
                exact ⟨ret_int (by rw [HPF.out]; rfl), HB3.out.trans (HB9.out.mono (by have := HB3.out.size; omega))⟩
              | true =>
                rw [h4] at GOOD BAD
                clear h4
                cases hds : (i.d == i.s) with
                | false =>
                  have HPF := Lib.hid (GOOD.out (by rw [hds]; rfl))
                  go_wp2
                  go_ret
                  exact ⟨ret_int (by rw [HPF.out]; rfl), HB3.out.trans (HB9.out.mono (by have := HB3.out.size; omega))⟩
                | true =>
                  have HPF := Lib.hid (BAD.out (by rw [hds]; rfl))
                  go_wp2
                  go_ret
                  exact ⟨ret_int (by rw [HPF.out]; rfl), HB3.out.trans (HB9.out.mono (by have := HB3.out.size; omega))⟩
            | false =>
              have HX2 := Lib.hid hp
              have hpf : pb = false := by rw [HP.out, HH.out]; simp [hp]
              have HPF := Lib.hid hpf
              clear hpf hp
              go_wp2_with fail
              all_goals first
                | (exfalso; have h9 := HX2.out; revert h9; unfold noPlace; simp only [‹i.base = 0›, ‹i.index = 0›, ‹i.scale = 0›, ‹i.disp = 0›]; decide)
                | (go_ret; exact ⟨ret_int (by rw [HPF.out]; rfl), HB3.out.trans (HB8.out.mono (by have := HB3.out.size; omega))⟩)
end Go.Proofs.YtmanhikpccnfaaaGreat
