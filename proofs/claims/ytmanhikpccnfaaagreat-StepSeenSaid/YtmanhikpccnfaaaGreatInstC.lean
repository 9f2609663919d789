/- package inst: has, register, small, number, place. -/
import Derived.Test.YtmanhikpccnfaaaGreatInstB
import Derived.Test.YtmanhikpccnfaaaGreatRegion
import Derived.Deep.LoopGhost
import Derived.Outline
namespace Go.Proofs.YtmanhikpccnfaaaGreat
open Go.RowKit

def hasB (is : Nat) (what : Int) : Bool := Go.bits .and .i64 (is : Int) what != 0

set_option maxHeartbeats 400000 in
theorem has_any (f : FormX) (what : Int) (w : World) : Calls Tryz.prog 62 #[formV f, .int .i64 what] w fun e w' => e = .returned (.bool (hasB f.is what)) ∧ Below w.heap.size w w' := by
  have h1 : (Go.bits .and .i64 (f.is : Int) what != 0) = hasB f.is what := rfl
  unfold formV formRow
  generalize hasB f.is what = b at *
  go_enter Tryz.func62, Tryz.ntmps62
  go_wp2
  go_ret
  exact ⟨rfl, (Below.refl _ _).alloc (Nat.le_refl _) _⟩

theorem register_any (r : Int) (w : World) : Calls Tryz.prog 63 #[.int .i64 r] w fun e w' => e = .returned (.bool (regOk r)) ∧ w = w' := by
  unfold regOk
  by_cases h0 : 0 ≤ r
  · have d0 : decide (0 ≤ r) = true := by simpa using h0
    go_enter Tryz.func63, Tryz.ntmps63
    go_wp2
    go_ret
    exact ⟨by simp [d0], rfl⟩
  · have d0 : decide (0 ≤ r) = false := by simpa using h0
    go_enter Tryz.func63, Tryz.ntmps63
    go_wp2
    go_ret
    exact ⟨by simp, rfl⟩

theorem small_wrap (n : Int) (h : -9223372036854775808 ≤ n ∧ n ≤ 9223372036854775807) : (n == wrap64 (wrap32 n)) = smallI n := by
  rw [Bool.eq_iff_iff, beq_iff_eq]
  simp only [smallI, Bool.and_eq_true, decide_eq_true_eq, wrap64, wrap32]
  omega

theorem small_any (n : Int) (h : -9223372036854775808 ≤ n ∧ n ≤ 9223372036854775807) (w : World) : Calls Tryz.prog 82 #[.int .i64 n] w fun e w' => e = .returned (.bool (smallI n)) ∧ w = w' := by
  have h1 := small_wrap n h
  generalize smallI n = b at *
  clear h
  go_enter Tryz.func82, Tryz.ntmps82
  go_wp2
  go_ret
  exact ⟨rfl, rfl⟩

def numB (is : Nat) (n : Int) : Bool := if hasB is 32 then true else if hasB is 16 then smallI n else if hasB is 64 then decide (1 ≤ n) && decide (n ≤ 63) else n == 0

set_option maxHeartbeats 400000 in
theorem number_any (f : FormX) (n : Int) (h : -9223372036854775808 ≤ n ∧ n ≤ 9223372036854775807) (w : World) : Calls Tryz.prog 61 #[formV f, .int .i64 n] w fun e w' => e = .returned (.bool (numB f.is n)) ∧ Below w.heap.size w w' := by
  have HH := Lib.hid (fun (what : Int) (w : World) => has_any f what w)
  have HS := Lib.hid (fun (w : World) => small_any n h w)
  obtain ⟨W, hW, hbW, hsz, hnew, _⟩ := boxed w (formRow f).toArray 99
  have n0 : W.cell? ⟨w.heap.size, 0, none⟩ = some (.string ⟨f.name.toArray⟩) := hnew 0
  have n1 : W.cell? ⟨w.heap.size, 1, none⟩ = some (.int .i64 f.is) := hnew 1
  have n2 : W.cell? ⟨w.heap.size, 2, none⟩ = some (.int .i64 f.reads) := hnew 2
  have n3 : W.cell? ⟨w.heap.size, 3, none⟩ = some (.int .i64 f.writes) := hnew 3
  have m0 : w.heap.size < W.heap.size := by omega
  have HW := Lib.hid hW
  have HB := Lib.hid hbW
  unfold formV formRow at HH HW ⊢
  obtain ⟨nb, hnb⟩ : ∃ nb, nb = numB f.is n := ⟨_, rfl⟩
  rw [← hnb]
  unfold numB at hnb
  have HN := Lib.hid hnb
  clear hnb
  clear hW hbW hsz hnew h
  go_enter Tryz.func61, Tryz.ntmps61
  go_wp2_with fail
  rw [← HW.out]
  refine (HH.out 32 W).mono ?_
  rintro e w1 ⟨rfl, hb1⟩
  have q0 := (hb1.cell (p := ⟨w.heap.size, 0, none⟩) m0).trans n0
  have q1 := (hb1.cell (p := ⟨w.heap.size, 1, none⟩) m0).trans n1
  have q2 := (hb1.cell (p := ⟨w.heap.size, 2, none⟩) m0).trans n2
  have q3 := (hb1.cell (p := ⟨w.heap.size, 3, none⟩) m0).trans n3
  have m1 := Nat.lt_of_lt_of_le m0 hb1.size
  have HB1 := Lib.hid (HB.out.trans (hb1.mono HB.out.size))
  clear hb1
  cases h32 : hasB f.is 32 with
  | true =>
    have HX := Lib.hid h32
    clear h32
    go_wp2
    go_ret
    exact ⟨by rw [HN.out, HX.out]; rfl, HB1.out⟩
  | false =>
    have HX := Lib.hid h32
    clear h32
    go_wp2_with fail
    refine (HH.out 16 w1).mono ?_
    rintro e w2 ⟨rfl, hb2⟩
    have r0 := (hb2.cell (p := ⟨w.heap.size, 0, none⟩) m1).trans q0
    have r1 := (hb2.cell (p := ⟨w.heap.size, 1, none⟩) m1).trans q1
    have r2 := (hb2.cell (p := ⟨w.heap.size, 2, none⟩) m1).trans q2
    have r3 := (hb2.cell (p := ⟨w.heap.size, 3, none⟩) m1).trans q3
    have HB2 := Lib.hid (HB1.out.trans (hb2.mono HB1.out.size))
    clear hb2
    cases h16 : hasB f.is 16 with
    | true =>
      have HY := Lib.hid h16
      clear h16
      go_wp2_with fail
      refine (HS.out w2).mono ?_
      rintro e w3 ⟨rfl, rfl⟩
      go_wp2
      go_ret
      exact ⟨by rw [HN.out, HX.out, HY.out]; rfl, HB2.out⟩
    | false =>
      have HY := Lib.hid h16
      clear h16
      go_wp2_with fail
      refine (HH.out 64 w2).mono ?_
      rintro e w3 ⟨rfl, hb3⟩
      have HB3 := Lib.hid (HB2.out.trans (hb3.mono HB2.out.size))
      clear hb3
      cases h64 : hasB f.is 64 with
      | true =>
        have HZ := Lib.hid h64
        clear h64
        by_cases h1 : 1 ≤ n
        · have d1 : decide (1 ≤ n) = true := by simpa using h1
          have HD := Lib.hid d1
          go_wp2
          go_ret
          exact ⟨by rw [HN.out, HX.out, HY.out, HZ.out, HD.out]; rfl, HB3.out⟩
        · have d1 : decide (1 ≤ n) = false := by simpa using h1
          have HD := Lib.hid d1
          go_wp2
          go_ret
          exact ⟨by rw [HN.out, HX.out, HY.out, HZ.out, HD.out]; rfl, HB3.out⟩
      | false =>
        have HZ := Lib.hid h64
        clear h64
        go_wp2
        go_ret
        exact ⟨by rw [HN.out, HX.out, HY.out, HZ.out]; rfl, HB3.out⟩

/-- One of four. -/
def fourB (z : Int) : Bool := decide (z = 1) || decide (z = 2) || decide (z = 4) || decide (z = 8)

set_option maxHeartbeats 400000 in
theorem Index4_any (g : Nat) (z : Int) (w : World) (c0 : w.cell? ⟨g, 0, none⟩ = some (.int .i64 1)) (c1 : w.cell? ⟨g, 1, none⟩ = some (.int .i64 2)) (c2 : w.cell? ⟨g, 2, none⟩ = some (.int .i64 4)) (c3 : w.cell? ⟨g, 3, none⟩ = some (.int .i64 8)) :
    Calls Tryz.prog 120 #[.slice (some ⟨g, 0, none⟩) 4 4, .int .i64 z] w fun e w' => e = .returned (.int .i64 (if z = 1 then 0 else if z = 2 then 1 else if z = 4 then 2 else if z = 8 then 3 else -1)) ∧ w = w' := by
  obtain ⟨r, hr⟩ : ∃ r : Int, r = (if z = 1 then 0 else if z = 2 then 1 else if z = 4 then 2 else if z = 8 then 3 else -1) := ⟨_, rfl⟩
  rw [← hr]
  have HR := Lib.hid hr
  clear hr
  go_enter Tryz.func120, Tryz.ntmps120
  go_wp2
  go_loop [8] (fun i => ∃ (q : Nat) (y : Int), y = q ∧ q ≤ 4 ∧ i = .int .i64 y ∧ ((1 ≤ q → z ≠ 1) ∧ (2 ≤ q → z ≠ 2) ∧ (3 ≤ q → z ≠ 4) ∧ (4 ≤ q → z ≠ 8))) (fun i => 4 - (intOf i).toNat)
  case atStart => exact ⟨0, 0, rfl, by omega, rfl, by omega, by omega, by omega, by omega⟩
  case round =>
    obtain ⟨q, y, hy, hq, rfl, hne⟩ := hrel
    have HNE := Lib.hid hne
    clear hne
    rcases (by omega : y = 0 ∨ y = 1 ∨ y = 2 ∨ y = 3 ∨ y = 4) with rfl | rfl | rfl | rfl | rfl
    · have HQ := Lib.hid hy
      clear hy hq
      by_cases hz : z = 1
      · subst hz
        go_wp2
        go_ret
        exact ⟨ret_int (by rw [HR.out]; rfl), rfl⟩
      · have hb : (z == 1) = false := by simpa using hz
        have HZ := Lib.hid hz
        clear hz
        go_wp2
        go_round
        case rel => have h1 := HNE.out; have h2 := HQ.out; have h3 := HZ.out; exact ⟨1, 1, rfl, by omega, rfl, by omega, by omega, by omega, by omega⟩
        case measure => simp [intOf]
    · have HQ := Lib.hid hy
      clear hy hq
      by_cases hz : z = 2
      · subst hz
        go_wp2
        go_ret
        exact ⟨ret_int (by rw [HR.out]; rfl), rfl⟩
      · have hb : (z == 2) = false := by simpa using hz
        have HZ := Lib.hid hz
        clear hz
        go_wp2
        go_round
        case rel => have h1 := HNE.out; have h2 := HQ.out; have h3 := HZ.out; exact ⟨2, 2, rfl, by omega, rfl, by omega, by omega, by omega, by omega⟩
        case measure => simp [intOf]
    · have HQ := Lib.hid hy
      clear hy hq
      by_cases hz : z = 4
      · subst hz
        go_wp2
        go_ret
        exact ⟨ret_int (by rw [HR.out]; rfl), rfl⟩
      · have hb : (z == 4) = false := by simpa using hz
        have HZ := Lib.hid hz
        clear hz
        go_wp2
        go_round
        case rel => have h1 := HNE.out; have h2 := HQ.out; have h3 := HZ.out; exact ⟨3, 3, rfl, by omega, rfl, by omega, by omega, by omega, by omega⟩
        case measure => simp [intOf]
    · have HQ := Lib.hid hy
      clear hy hq
      by_cases hz : z = 8
      · subst hz
        go_wp2
        go_ret
        exact ⟨ret_int (by rw [HR.out]; rfl), rfl⟩
      · have hb : (z == 8) = false := by simpa using hz
        have HZ := Lib.hid hz
        clear hz
        go_wp2
        go_round
        case rel => have h1 := HNE.out; have h2 := HQ.out; have h3 := HZ.out; exact ⟨4, 4, rfl, by omega, rfl, by omega, by omega, by omega, by omega⟩
        case measure => simp [intOf]
    · have HQ := Lib.hid hy
      clear hy hq
      go_wp2
      go_ret
      have h1 := HNE.out
      have h2 := HQ.out
      exact ⟨ret_int (by rw [HR.out, if_neg (by omega), if_neg (by omega), if_neg (by omega), if_neg (by omega)]), rfl⟩

theorem Contains4_any (g : Nat) (z : Int) (w : World) (c0 : w.cell? ⟨g, 0, none⟩ = some (.int .i64 1)) (c1 : w.cell? ⟨g, 1, none⟩ = some (.int .i64 2)) (c2 : w.cell? ⟨g, 2, none⟩ = some (.int .i64 4)) (c3 : w.cell? ⟨g, 3, none⟩ = some (.int .i64 8)) :
    Calls Tryz.prog 83 #[.slice (some ⟨g, 0, none⟩) 4 4, .int .i64 z] w fun e w' => e = .returned (.bool (fourB z)) ∧ w = w' := by
  have HI := Lib.hid (Index4_any g z w c0 c1 c2 c3)
  have hb : decide (0 ≤ (if z = 1 then 0 else if z = 2 then 1 else if z = 4 then 2 else if z = 8 then 3 else -1 : Int)) = fourB z := by
    unfold fourB
    by_cases h1 : z = 1
    · subst h1; rfl
    · by_cases h2 : z = 2
      · subst h2; rfl
      · by_cases h3 : z = 4
        · subst h3; rfl
        · by_cases h4 : z = 8
          · subst h4; rfl
          · rw [if_neg h1, if_neg h2, if_neg h3, if_neg h4]; simp [h1, h2, h3, h4]
  generalize (if z = 1 then 0 else if z = 2 then 1 else if z = 4 then 2 else if z = 8 then 3 else -1 : Int) = r at *
  generalize fourB z = b at *
  clear c0 c1 c2 c3
  go_enter Tryz.func83, Tryz.ntmps83
  go_wp2_with ((with_reducible refine (HI.out).mono ?_); rintro e w1 ⟨rfl, rfl⟩)
  go_ret
  exact ⟨rfl, rfl⟩

def placeB (i : Ins) : Bool := (regOk i.base && smallI i.disp) && (if i.index = -1 then decide (i.scale = 1) else (regOk i.index && decide (i.index ≠ 4)) && fourB i.scale)

set_option maxHeartbeats 800000 in
theorem iplace_any (i : Ins) (h : -9223372036854775808 ≤ i.disp ∧ i.disp ≤ 9223372036854775807) (w : World) :
    Calls Tryz.prog 64 #[.agg #[.int .i64 i.base, .int .i64 i.index, .int .i64 i.scale, .int .i64 i.disp]] w fun e w' => e = .returned (.bool (placeB i)) ∧ Below w.heap.size w w' := by
  obtain ⟨pb, hpb⟩ : ∃ pb, pb = placeB i := ⟨_, rfl⟩
  rw [← hpb]
  unfold placeB at hpb
  have HP := Lib.hid hpb
  clear hpb
  obtain ⟨op, d, s, t, ba, ix, sc, di, im⟩ := i
  simp only at h HP ⊢
  obtain ⟨W, hW, hbW, hsz, hnew, _⟩ := boxed w #[.int .i64 ba, .int .i64 ix, .int .i64 sc, .int .i64 di] 27
  have n0 : W.cell? ⟨w.heap.size, 0, none⟩ = some (.int .i64 ba) := hnew 0
  have n1 : W.cell? ⟨w.heap.size, 1, none⟩ = some (.int .i64 ix) := hnew 1
  have n2 : W.cell? ⟨w.heap.size, 2, none⟩ = some (.int .i64 sc) := hnew 2
  have n3 : W.cell? ⟨w.heap.size, 3, none⟩ = some (.int .i64 di) := hnew 3
  have m0 : w.heap.size < W.heap.size := by omega
  have HW := Lib.hid hW
  have HB := Lib.hid hbW
  have HS := Lib.hid (small_any di h W)
  have HR := Lib.hid (fun r => register_any r W)
  clear hW hbW hsz hnew h
  go_enter Tryz.func64, Tryz.ntmps64
  go_wp2_with fail
  rw [← HW.out]
  refine (HR.out ba).mono ?_
  rintro e w1 ⟨rfl, rfl⟩
  cases hb : regOk ba with
  | false =>
    have HX := Lib.hid hb
    clear hb
    go_wp2
    go_ret
    exact ⟨by rw [HP.out, HX.out]; rfl, HB.out⟩
  | true =>
    have HX := Lib.hid hb
    clear hb
    go_wp2_with fail
    refine HS.out.mono ?_
    rintro e w1 ⟨rfl, rfl⟩
    cases hs : smallI di with
    | false =>
      have HY := Lib.hid hs
      clear hs
      go_wp2
      go_ret
      exact ⟨by rw [HP.out, HX.out, HY.out]; rfl, HB.out⟩
    | true =>
      have HY := Lib.hid hs
      clear hs
      by_cases hix : ix = -1
      · subst hix
        go_wp2
        go_ret
        exact ⟨by rw [HP.out, HX.out, HY.out]; rfl, HB.out⟩
      · have d1 : (ix == -1) = false := by simpa using hix
        have HIX := Lib.hid hix
        clear hix
        go_wp2_with fail
        refine (HR.out ix).mono ?_
        rintro e w1 ⟨rfl, rfl⟩
        cases hr : regOk ix with
        | false =>
          have HZ := Lib.hid hr
          clear hr
          go_wp2
          go_ret
          exact ⟨by rw [HP.out, HX.out, HY.out, HZ.out, if_neg HIX.out]; rfl, HB.out⟩
        | true =>
          have HZ := Lib.hid hr
          clear hr
          by_cases h4 : ix = 4
          · subst h4
            go_wp2
            go_ret
            exact ⟨by rw [HP.out, HX.out, HY.out, HZ.out]; rfl, HB.out⟩
          · have d2 : (ix == 4) = false := by simpa using h4
            have d3 : (ix != 4) = true := by simpa using h4
            have H4 := Lib.hid h4
            clear h4
            go_wp2_with fail
            refine (Contains4_any W.heap.size sc _ (by go_simp) (by go_simp) (by go_simp) (by go_simp)).mono ?_
            rintro e w1 ⟨rfl, rfl⟩
            go_wp2
            go_ret
            exact ⟨by rw [HP.out, HX.out, HY.out, HZ.out, if_neg HIX.out]; simp [H4.out], HB.out.trans ((Below.refl _ _).alloc (Nat.le_of_lt m0) _)⟩
end Go.Proofs.YtmanhikpccnfaaaGreat
