/- package keysmithref05: place, Check. -/
import Derived.Test.YtmanhikpccnfaaaGreatRef05
import Derived.Test.YtmanhikpccnfaaaGreatStepAt
import Derived.Deep.DeepCutAuto
import Derived.Outline
namespace Go.Proofs.YtmanhikpccnfaaaGreat
open Go.RowKit

set_option maxHeartbeats 1600000 in
theorem rplace_any (i : Ins) (w : World) :
    Calls Tryz.prog 30 #[.agg #[.int .i64 i.base, .int .i64 i.index, .int .i64 i.scale, .int .i64 i.disp]] w fun e w' => e = .returned (.bool (placeB i)) ∧ Below w.heap.size w w' := by
  obtain ⟨pb, hpb⟩ : ∃ pb, pb = placeB i := ⟨_, rfl⟩
  rw [← hpb]
  unfold placeB fourB at hpb
  have HP := Lib.hid hpb
  clear hpb
  obtain ⟨op, d, s, t, ba, ix, sc, di, im⟩ := i
  simp only at HP ⊢
  obtain ⟨W, hW, hbW, hsz, hnew, _⟩ := boxed w #[.int .i64 ba, .int .i64 ix, .int .i64 sc, .int .i64 di] 27
  have n0 : W.cell? ⟨w.heap.size, 0, none⟩ = some (.int .i64 ba) := hnew 0
  have n1 : W.cell? ⟨w.heap.size, 1, none⟩ = some (.int .i64 ix) := hnew 1
  have n2 : W.cell? ⟨w.heap.size, 2, none⟩ = some (.int .i64 sc) := hnew 2
  have n3 : W.cell? ⟨w.heap.size, 3, none⟩ = some (.int .i64 di) := hnew 3
  have m0 : w.heap.size < W.heap.size := by omega
  have HW := Lib.hid hW
  have HB := Lib.hid hbW
  have HS := Lib.hid (rsmall_any di W)
  have HR := Lib.hid (fun r => rregister_any r W)
  clear hW hbW hsz hnew
  go_enter Tryz.func30, Tryz.ntmps30
  go_wp2_with fail
  rw [← HW.out]
  refine (HR.out ba).mono ?_
  rintro e w1 ⟨rfl, rfl⟩
  cases hb : regOk ba with
  | false =>
    have HX := Lib.hid hb
    clear hb
    go_wp2
    go_ret
    exact ⟨by rw [HP.out, HX.out]; rfl, HB.out⟩
  | true =>
    have HX := Lib.hid hb
    clear hb
    go_wp2_with fail
    refine HS.out.mono ?_
    rintro e w1 ⟨rfl, rfl⟩
    cases hs : smallI di with
    | false =>
      have HY := Lib.hid hs
      clear hs
      go_wp2
      go_ret
      exact ⟨by rw [HP.out, HX.out, HY.out]; rfl, HB.out⟩
    | true =>
      have HY := Lib.hid hs
      clear hs
      by_cases hix : ix = -1
      · subst hix
        go_wp2
        go_ret
        exact ⟨by rw [HP.out, HX.out, HY.out]; rfl, HB.out⟩
      · have d1 : (ix == -1) = false := by simpa using hix
        have HIX := Lib.hid hix
        clear hix
        go_wp2_with fail
        refine (HR.out ix).mono ?_
        rintro e w1 ⟨rfl, rfl⟩
        cases hr : regOk ix with
        | false =>
          have HZ := Lib.hid hr
          clear hr
          go_wp2
          go_ret
          exact ⟨by rw [HP.out, HX.out, HY.out, HZ.out, if_neg HIX.out]; rfl, HB.out⟩
        | true =>
          have HZ := Lib.hid hr
          clear hr
          by_cases h4 : ix = 4
          · subst h4
            go_wp2
            go_ret
            exact ⟨by rw [HP.out, HX.out, HY.out, HZ.out]; rfl, HB.out⟩
          · have d2 : (ix == 4) = false := by simpa using h4
            have d3 : (ix != 4) = true := by simpa using h4
            have H4 := Lib.hid h4
            clear h4
            rcases (by omega : sc = 1 ∨ sc = 2 ∨ sc = 4 ∨ (sc ≠ 1 ∧ sc ≠ 2 ∧ sc ≠ 4)) with rfl | rfl | rfl | ⟨h1, h2, h3⟩
            · go_wp2
              go_ret
              exact ⟨by rw [HP.out, HX.out, HY.out, HZ.out, if_neg HIX.out]; simp [H4.out], HB.out⟩
            · go_wp2
              go_ret
              exact ⟨by rw [HP.out, HX.out, HY.out, HZ.out, if_neg HIX.out]; simp [H4.out], HB.out⟩
            · go_wp2
              go_ret
              exact ⟨by rw [HP.out, HX.out, HY.out, HZ.out, if_neg HIX.out]; simp [H4.out], HB.out⟩
            · have q1 : (sc == 1) = false := by simpa using h1
              have q2 : (sc == 2) = false := by simpa using h2
              have q3 : (sc == 4) = false := by simpa using h3
              have HQ := Lib.hid (And.intro h1 (And.intro h2 h3))
              clear h1 h2 h3
              go_wp2
              go_ret
              exact ⟨by rw [HP.out, HX.out, HY.out, HZ.out, if_neg HIX.out]; simp [H4.out, HQ.out.1, HQ.out.2.1, HQ.out.2.2]; rfl, HB.out⟩

def immR (f : List UInt8) (n : Int) : Bool := if hasR f 105 then smallI n else if hasR f 98 then (decide (1 ≤ n) && decide (n ≤ 63)) else if hasR f 73 then true else n == 0
/-- May it be? By letters. -/
def chkR (f : List UInt8) (i : Ins) : Bool := ((((!f.isEmpty && hasOk (hasR f 68) i.d) && hasOk (hasR f 83) i.s) && (if hasR f 84 then regOk i.t && i.d != i.s else i.t == 0)) && (if hasR f 77 then placeB i else noPlace i)) && immR f i.imm

theorem chk_of {f : List UInt8} {i : Ins} (g : FormX) (hg : formF i.op = g) (he : f.isEmpty = g.name.isEmpty) (h1 : hasR f 68 = hasB g.is 1) (h2 : hasR f 83 = hasB g.is 2) (h3 : hasR f 84 = hasB g.is 4) (h4 : hasR f 77 = hasB g.is 8) (hn : ∀ n, immR f n = numB g.is n) : chkR f i = chkP i := by
  unfold chkR chkP
  rw [hg, he, h1, h2, h3, h4, hn]
  generalize hasOk (hasB g.is 1) i.d = b1
  generalize hasOk (hasB g.is 2) i.s = b2
  have e : (if hasB g.is 4 = true then regOk i.t && i.d != i.s else i.t == 0) = (hasOk (hasB g.is 4) i.t && !(hasB g.is 4 && i.d == i.s)) := by
    unfold hasOk
    cases hasB g.is 4
    · simp; rfl
    · simp [bne]
  rw [e]
  generalize hasOk (hasB g.is 4) i.t = b3
  generalize (hasB g.is 4 && i.d == i.s) = b4
  generalize (if hasB g.is 8 = true then placeB i else noPlace i) = b5
  generalize numB g.is i.imm = b6
  generalize g.name.isEmpty = b7
  cases b1 <;> cases b2 <;> cases b3 <;> cases b4 <;> cases b5 <;> cases b6 <;> cases b7 <;> rfl
theorem chkR_eq (i : Ins) : chkR (formR i.op) i = chkP i := by
  obtain ⟨op, d, s, t, ba, ix, sc, di, im⟩ := i
  by_cases hr : 1 ≤ op ∧ op ≤ 33
  · rcases (by omega : op = 1 ∨ op = 2 ∨ op = 3 ∨ op = 4 ∨ op = 5 ∨ op = 6 ∨ op = 7 ∨ op = 8 ∨ op = 9 ∨ op = 10 ∨ op = 11 ∨ op = 12 ∨ op = 13 ∨ op = 14 ∨ op = 15 ∨ op = 16 ∨ op = 17 ∨ op = 18 ∨ op = 19 ∨ op = 20 ∨ op = 21 ∨ op = 22 ∨ op = 23 ∨ op = 24 ∨ op = 25 ∨ op = 26 ∨ op = 27 ∨ op = 28 ∨ op = 29 ∨ op = 30 ∨ op = 31 ∨ op = 32 ∨ op = 33) with rfl | rfl | rfl | rfl | rfl | rfl | rfl | rfl | rfl | rfl | rfl | rfl | rfl | rfl | rfl | rfl | rfl | rfl | rfl | rfl | rfl | rfl | rfl | rfl | rfl | rfl | rfl | rfl | rfl | rfl | rfl | rfl | rfl
    all_goals exact chk_of _ rfl (by kernel_rfl) (by kernel_rfl) (by kernel_rfl) (by kernel_rfl) (by kernel_rfl) (fun n => by kernel_rfl)
  · have h1 : formR op = [] := formR_out (by omega)
    have h2 : formF op = noForm := by
      rcases (by omega : op < 0 ∨ op = 0 ∨ 34 ≤ op) with h | h | h
      · exact formF_out _ (.inl h)
      · rw [h]; rfl
      · exact formF_out _ (.inr h)
    show chkR (formR op) _ = _
    rw [h1]
    simp only [chkR, chkP, h2]
    simp [noForm]

set_option maxRecDepth 100000 in
set_option maxHeartbeats 3200000 in
theorem rCheck_any (i : Ins) (w : World) :
    Calls Tryz.prog 8 #[.agg (insRow i).toArray] w fun e w' => e = .returned (.int .i64 (errOf (chkP i))) ∧ Below w.heap.size w w' := by
  rw [← chkR_eq]
  have HFORM := Lib.hid (fun w => Form_any i.op w)
  have hsz : (⟨(formR i.op).toArray⟩ : ByteArray).size ≤ 1000 := by
    show (formR i.op).length ≤ 1000
    unfold formR
    repeat' split
    all_goals simp
  generalize hf : formR i.op = f at *
  have HHAS := Lib.hid (show ∀ (c : Nat) (w : World), Calls Tryz.prog 28 #[.string ⟨f.toArray⟩, .int .u8 c] w fun e w' => e = .returned (.bool (hasR f c)) ∧ w = w' from fun c w => Has_any ⟨f.toArray⟩ c w hsz)
  have HPL := Lib.hid (fun w => rplace_any i w)
  have HREG := Lib.hid (fun r w => rregister_any r w)
  have HSM := Lib.hid (fun n w => rsmall_any n w)
  clear hf hsz
  obtain ⟨op, d, s, t, ba, ix, sc, di, im⟩ := i
  simp only [insRow] at HFORM HPL ⊢
  obtain ⟨W1, hW1, hb1, hs1, hn1, _⟩ := boxed w #[.int .i64 op, .int .i64 d, .int .i64 s, .int .i64 t, .int .i64 ba, .int .i64 ix, .int .i64 sc, .int .i64 di, .int .i64 im] 29
  have n0 : W1.cell? ⟨w.heap.size, 0, none⟩ = some (.int .i64 op) := hn1 0
  have n1 : W1.cell? ⟨w.heap.size, 1, none⟩ = some (.int .i64 d) := hn1 1
  have n2 : W1.cell? ⟨w.heap.size, 2, none⟩ = some (.int .i64 s) := hn1 2
  have n3 : W1.cell? ⟨w.heap.size, 3, none⟩ = some (.int .i64 t) := hn1 3
  have n4 : W1.cell? ⟨w.heap.size, 4, none⟩ = some (.int .i64 ba) := hn1 4
  have n5 : W1.cell? ⟨w.heap.size, 5, none⟩ = some (.int .i64 ix) := hn1 5
  have n6 : W1.cell? ⟨w.heap.size, 6, none⟩ = some (.int .i64 sc) := hn1 6
  have n7 : W1.cell? ⟨w.heap.size, 7, none⟩ = some (.int .i64 di) := hn1 7
  have n8 : W1.cell? ⟨w.heap.size, 8, none⟩ = some (.int .i64 im) := hn1 8
  have HW1 := Lib.hid hW1
  have HB1 := Lib.hid hb1
  have HN := Lib.hid hn1
  have m1 : w.heap.size < W1.heap.size := by omega
  clear hW1 hn1 hb1 hs1
  go_enter Tryz.func8, Tryz.ntmps8
  go_wp2_with fail
  rw [← HW1.out]
  refine (HFORM.out W1).mono ?_
  rintro e w2 ⟨rfl, rfl⟩
  go_upto_region 3 with fail
  obtain ⟨b0, hb0⟩ : ∃ q, (!f.isEmpty) = q := ⟨_, rfl⟩
  have HB0 := Lib.hid hb0
  rw [hb0]
  clear hb0
  go_cut [4] (fun s4 wx => s4 = .bool (b0 && hasOk (hasR f 68) d) ∧ W1 = wx)
  case first =>
    cases b0 with
    | false =>
      go_wp2
      go_meet
      exact ⟨rfl, rfl⟩
    | true =>
      go_wp2_with fail
      refine (HHAS.out 68 W1).mono ?_
      rintro e w2 ⟨rfl, rfl⟩
      cases hh : hasR f 68 with
      | true =>
        have HH := Lib.hid hh
        clear hh
        go_wp2_with fail
        refine (HREG.out d W1).mono ?_
        rintro e w2 ⟨rfl, rfl⟩
        cases hr : regOk d with
        | true =>
          have HR := Lib.hid hr
          clear hr
          go_wp2
          go_meet
          exact ⟨by simp [hasOk, HH.out, HR.out], rfl⟩
        | false =>
          have HR := Lib.hid hr
          clear hr
          go_wp2_with fail
          refine (HHAS.out 68 W1).mono ?_
          rintro e w2 ⟨rfl, rfl⟩
          rw [HH.out]
          go_wp2
          go_meet
          exact ⟨by simp [hasOk, HH.out, HR.out], rfl⟩
      | false =>
        have HH := Lib.hid hh
        clear hh
        go_wp2_with fail
        refine (HHAS.out 68 W1).mono ?_
        rintro e w2 ⟨rfl, rfl⟩
        rw [HH.out]
        go_wp2
        go_meet
        exact ⟨by simp [hasOk, HH.out]; rfl, rfl⟩
  case rest =>
  obtain ⟨rfl, rfl⟩ := hcut
  obtain ⟨b1, hb1⟩ : ∃ q, (b0 && hasOk (hasR f 68) d) = q := ⟨_, rfl⟩
  have HQ1 := Lib.hid hb1
  rw [hb1]
  clear hb1
  go_upto_region 4 with fail
  go_cut [4] (fun s4 wx => s4 = .bool (b1 && hasOk (hasR f 83) s) ∧ W1 = wx)
  case first =>
    cases b1 with
    | false =>
      go_wp2
      go_meet
      exact ⟨rfl, rfl⟩
    | true =>
      go_wp2_with fail
      refine (HHAS.out 83 W1).mono ?_
      rintro e w2 ⟨rfl, rfl⟩
      cases hh : hasR f 83 with
      | true =>
        have HH := Lib.hid hh
        clear hh
        go_wp2_with fail
        refine (HREG.out s W1).mono ?_
        rintro e w2 ⟨rfl, rfl⟩
        cases hr : regOk s with
        | true =>
          have HR := Lib.hid hr
          clear hr
          go_wp2
          go_meet
          exact ⟨by simp [hasOk, HH.out, HR.out], rfl⟩
        | false =>
          have HR := Lib.hid hr
          clear hr
          go_wp2_with fail
          refine (HHAS.out 83 W1).mono ?_
          rintro e w2 ⟨rfl, rfl⟩
          rw [HH.out]
          go_wp2
          go_meet
          exact ⟨by simp [hasOk, HH.out, HR.out], rfl⟩
      | false =>
        have HH := Lib.hid hh
        clear hh
        go_wp2_with fail
        refine (HHAS.out 83 W1).mono ?_
        rintro e w2 ⟨rfl, rfl⟩
        rw [HH.out]
        go_wp2
        go_meet
        exact ⟨by simp [hasOk, HH.out]; rfl, rfl⟩
  case rest =>
  obtain ⟨rfl, rfl⟩ := hcut
  obtain ⟨b2, hb1⟩ : ∃ q, (b1 && hasOk (hasR f 83) s) = q := ⟨_, rfl⟩
  have HQ2 := Lib.hid hb1
  rw [hb1]
  clear hb1
  go_upto_region 5 with fail
  go_cut [4] (fun s4 wx => s4 = .bool (b2 && (if hasR f 84 then regOk t && d != s else t == 0)) ∧ W1 = wx)
  case first =>
    cases b2 with
    | false =>
      go_wp2
      go_meet
      exact ⟨rfl, rfl⟩
    | true =>
      go_wp2_with fail
      refine (HHAS.out 84 W1).mono ?_
      rintro e w2 ⟨rfl, rfl⟩
      cases hh : hasR f 84 with
      | true =>
        have HH := Lib.hid hh
        clear hh
        go_wp2_with fail
        refine (HREG.out t W1).mono ?_
        rintro e w2 ⟨rfl, rfl⟩
        cases hr : regOk t with
        | true =>
          have HR := Lib.hid hr
          clear hr
          by_cases hds : d = s
          · subst hds
            have e1 : (d != d) = false := by simp
            go_wp2_with fail
            refine (HHAS.out 84 W1).mono ?_
            rintro e w2 ⟨rfl, rfl⟩
            rw [HH.out]
            go_wp2
            go_meet
            exact ⟨by simp [HH.out], rfl⟩
          · have e1 : (d != s) = true := by simpa using hds
            have HE := Lib.hid hds
            clear hds
            go_wp2
            go_meet
            exact ⟨by simp [HE.out, HH.out, HR.out], rfl⟩
        | false =>
          have HR := Lib.hid hr
          clear hr
          go_wp2_with fail
          refine (HHAS.out 84 W1).mono ?_
          rintro e w2 ⟨rfl, rfl⟩
          rw [HH.out]
          go_wp2
          go_meet
          exact ⟨by simp [HH.out, HR.out], rfl⟩
      | false =>
        have HH := Lib.hid hh
        clear hh
        go_wp2_with fail
        refine (HHAS.out 84 W1).mono ?_
        rintro e w2 ⟨rfl, rfl⟩
        rw [HH.out]
        go_wp2
        go_meet
        exact ⟨by simp [HH.out], rfl⟩
  case rest =>
  obtain ⟨rfl, rfl⟩ := hcut
  obtain ⟨b3, hb3⟩ : ∃ q, (b2 && (if hasR f 84 then regOk t && d != s else t == 0)) = q := ⟨_, rfl⟩
  have HQ3 := Lib.hid hb3
  rw [hb3]
  clear hb3
  go_upto_region 6 with fail
  go_cut [4] (fun s4 wx => s4 = .bool (b3 && (if hasR f 77 then placeB ⟨op, d, s, t, ba, ix, sc, di, im⟩ else noPlace ⟨op, d, s, t, ba, ix, sc, di, im⟩)) ∧ Below W1.heap.size W1 wx)
  case first =>
    cases b3 with
    | false =>
      go_wp2
      go_meet
      exact ⟨rfl, Below.refl _ _⟩
    | true =>
      go_wp2_with fail
      refine (HHAS.out 77 W1).mono ?_
      rintro e w2 ⟨rfl, rfl⟩
      cases hh : hasR f 77 with
      | true =>
        have HH := Lib.hid hh
        clear hh
        go_wp2_with fail
        refine (HPL.out W1).mono ?_
        rintro e w2 ⟨rfl, hb2⟩
        have HB2 := Lib.hid hb2
        have k4 := (hb2.cell (p := ⟨w.heap.size, 4, none⟩) m1).trans n4
        have k5 := (hb2.cell (p := ⟨w.heap.size, 5, none⟩) m1).trans n5
        have k6 := (hb2.cell (p := ⟨w.heap.size, 6, none⟩) m1).trans n6
        have k7 := (hb2.cell (p := ⟨w.heap.size, 7, none⟩) m1).trans n7
        clear hb2
        cases hr : placeB ⟨op, d, s, t, ba, ix, sc, di, im⟩ with
        | true =>
          have HR := Lib.hid hr
          clear hr
          go_wp2
          go_meet
          exact ⟨by simp [HH.out, HR.out], HB2.out⟩
        | false =>
          have HR := Lib.hid hr
          clear hr
          go_wp2_with fail
          refine (HHAS.out 77 w2).mono ?_
          rintro e w3 ⟨rfl, rfl⟩
          rw [HH.out]
          go_wp2
          go_meet
          exact ⟨by simp [HH.out, HR.out], HB2.out⟩
      | false =>
        have HH := Lib.hid hh
        clear hh
        go_wp2_with fail
        refine (HHAS.out 77 W1).mono ?_
        rintro e w2 ⟨rfl, rfl⟩
        rw [HH.out]
        cases hp : noPlace ⟨op, d, s, t, ba, ix, sc, di, im⟩ with
        | true =>
          have hq := hp
          simp only [noPlace, Bool.and_eq_true, decide_eq_true_eq] at hq
          obtain ⟨⟨⟨q1, q2⟩, q3⟩, q4⟩ := hq
          have HP := Lib.hid hp
          clear hp
          rw [q1] at n4
          rw [q2] at n5
          rw [q3] at n6
          rw [q4] at n7
          clear q1 q2 q3 q4
          go_wp2
          go_meet
          exact ⟨by simp [HH.out, HP.out], Below.refl _ _⟩
        | false =>
          have HP := Lib.hid hp
          clear hp
          cases q1 : (ba == 0) with
          | false =>
            go_wp2
            go_meet
            exact ⟨by simp [HH.out, HP.out], Below.refl _ _⟩
          | true =>
            cases q2 : (ix == 0) with
            | false =>
              go_wp2
              go_meet
              exact ⟨by simp [HH.out, HP.out], Below.refl _ _⟩
            | true =>
              cases q3 : (sc == 0) with
              | false =>
                go_wp2
                go_meet
                exact ⟨by simp [HH.out, HP.out], Below.refl _ _⟩
              | true =>
                cases q4 : (di == 0) with
                | false =>
                  go_wp2
                  go_meet
                  exact ⟨by simp [HH.out, HP.out], Below.refl _ _⟩
                | true =>
                  exfalso
                  have h9 := HP.out
                  simp only [beq_iff_eq] at q1 q2 q3 q4
                  simp [noPlace, q1, q2, q3, q4] at h9
  case rest =>
  obtain ⟨rfl, hb2⟩ := hcut
  obtain ⟨b4, hb4⟩ : ∃ q, (b3 && (if hasR f 77 then placeB ⟨op, d, s, t, ba, ix, sc, di, im⟩ else noPlace ⟨op, d, s, t, ba, ix, sc, di, im⟩)) = q := ⟨_, rfl⟩
  have HQ4 := Lib.hid hb4
  rw [hb4]
  have k8 := (hb2.cell (p := ⟨w.heap.size, 8, none⟩) m1).trans n8
  have HB2 := Lib.hid (HB1.out.trans (hb2.mono HB1.out.size))
  clear hb4 hb2 n0 n1 n2 n3 n4 n5 n6 n7 n8
  have HALL := Lib.hid (show chkR f ⟨op, d, s, t, ba, ix, sc, di, im⟩ = (b4 && immR f im) by rw [← HQ4.out, ← HQ3.out, ← HQ2.out, ← HQ1.out, ← HB0.out]; rfl)
  clear HQ4 HQ3 HQ2 HQ1 HB0
  go_wp2_with fail
  refine (HHAS.out 105 wc).mono ?_
  rintro e w3 ⟨rfl, rfl⟩
  cases h1 : hasR f 105 with
  | true =>
    have HX := Lib.hid h1
    clear h1
    cases b4 with
    | false =>
      go_wp2
      go_ret
      exact ⟨ret_int (by rw [HALL.out]; rfl), HB2.out⟩
    | true =>
      go_wp2_with fail
      refine (HSM.out im wc).mono ?_
      rintro e w3 ⟨rfl, rfl⟩
      cases hs : smallI im with
      | true =>
        have HS := Lib.hid hs
        clear hs
        go_wp2
        go_ret
        exact ⟨ret_int (by rw [HALL.out]; simp [immR, HX.out, HS.out, errOf]), HB2.out⟩
      | false =>
        have HS := Lib.hid hs
        clear hs
        go_wp2
        go_ret
        exact ⟨ret_int (by rw [HALL.out]; simp [immR, HX.out, HS.out, errOf]), HB2.out⟩
  | false =>
    have HX := Lib.hid h1
    clear h1
    go_wp2_with fail
    refine (HHAS.out 98 wc).mono ?_
    rintro e w3 ⟨rfl, rfl⟩
    cases h2 : hasR f 98 with
    | true =>
      have HY := Lib.hid h2
      clear h2
      cases b4 with
      | false =>
        go_wp2
        go_ret
        exact ⟨ret_int (by rw [HALL.out]; rfl), HB2.out⟩
      | true =>
        by_cases q1 : 1 ≤ im
        · have d1 : decide (1 ≤ im) = true := by simpa using q1
          have HD := Lib.hid d1
          clear q1
          by_cases q2 : im ≤ 63
          · have d2 : decide (im ≤ 63) = true := by simpa using q2
            have HD2 := Lib.hid d2
            clear q2
            go_wp2
            go_ret
            exact ⟨ret_int (by rw [HALL.out]; simp only [immR, HX.out, HY.out, HD.out, HD2.out]; rfl), HB2.out⟩
          · have d2 : decide (im ≤ 63) = false := by simpa using q2
            have HD2 := Lib.hid d2
            clear q2
            go_wp2
            go_ret
            exact ⟨ret_int (by rw [HALL.out]; simp only [immR, HX.out, HY.out, HD.out, HD2.out]; rfl), HB2.out⟩
        · have d1 : decide (1 ≤ im) = false := by simpa using q1
          have HD := Lib.hid d1
          clear q1
          go_wp2
          go_ret
          exact ⟨ret_int (by rw [HALL.out]; simp only [immR, HX.out, HY.out, HD.out]; rfl), HB2.out⟩
    | false =>
      have HY := Lib.hid h2
      clear h2
      go_wp2_with fail
      refine (HHAS.out 73 wc).mono ?_
      rintro e w3 ⟨rfl, rfl⟩
      cases h3 : hasR f 73 with
      | true =>
        have HZ := Lib.hid h3
        clear h3
        cases b4 with
        | false =>
          go_wp2
          go_ret
          exact ⟨ret_int (by rw [HALL.out]; rfl), HB2.out⟩
        | true =>
          go_wp2
          go_ret
          exact ⟨ret_int (by rw [HALL.out]; simp only [immR, HX.out, HY.out, HZ.out]; rfl), HB2.out⟩
      | false =>
        have HZ := Lib.hid h3
        clear h3
        cases b4 with
        | false =>
          go_wp2
          go_ret
          exact ⟨ret_int (by rw [HALL.out]; rfl), HB2.out⟩
        | true =>
          cases h0 : (im == 0) with
          | true =>
            have H0 := Lib.hid h0
            go_wp2
            go_ret
            exact ⟨ret_int (by rw [HALL.out]; simp only [immR, HX.out, HY.out, HZ.out, H0.out]; rfl), HB2.out⟩
          | false =>
            have H0 := Lib.hid h0
            go_wp2
            go_ret
            exact ⟨ret_int (by rw [HALL.out]; simp only [immR, HX.out, HY.out, HZ.out, H0.out]; rfl), HB2.out⟩
end Go.Proofs.YtmanhikpccnfaaaGreat
