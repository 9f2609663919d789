/- ref12.Ends: of each loop and end the other one. -/
import Derived.Test.YtppoiahhaclleaaDoorRLimbI
namespace Go.Proofs.YtppoiahhaclleaaDoor
open Go.RowKit

theorem make_ints (n : Nat) (hn : n ≤ 65536) (w : World) : (Instr.makeSlice 35 (.int .i64 n) (.int .i64 n)).run Tryd.prog w = .ok (.slice (some ⟨w.heap.size, 0, none⟩) n n) (w.alloc (.cells (intV (List.replicate n 0)).toArray 3)) := by
  obtain ⟨i0, hi, hz0, hz1, hz2⟩ := info_parts infoI
  have h := run_make (P := Tryd.prog) w 35 3 i0 (.int .i64 0) Tryd.underlying35 hi hz0 .i64 .i64 n n (by omega) (by omega) (by rw [hz2]; omega) (by omega)
  rw [hz1] at h
  have e : (Value.int .i64 0).cells = #[.int .i64 0] := rfl
  have e2 : madeCells #[.int .i64 0] n = (intV (List.replicate n 0)).toArray := by
    refine Array.ext (by simp [size_madeCells, intV]) fun i h1 h2 => ?_
    simp [madeCells, Nat.mod_one, intV]
  rw [e] at h
  simp only [Int.toNat_natCast, Nat.mul_one, e2] at h
  exact h
/-- What was not come to yet stands at -1. -/
theorem ends_rest {ops : List LOp} (h : Bal ops) {k : Nat} (hk : k ≤ ops.length) : ∀ j, k ≤ j → j < ops.length → (endsTo ops k).1[j]? = some (-1) := by
  induction k with
  | zero => intro j _ hj; simp [endsTo, hj]
  | succ k ih =>
    intro j hj hjl
    have ih := ih (by omega) j (by omega) hjl
    have hst := (ends_inv h k (by omega)).open_
    obtain ⟨o, ho⟩ : ∃ o, ops[k]? = some o := ⟨_, List.getElem?_eq_getElem (by omega)⟩
    simp only [endsTo, ho]
    generalize endsTo ops k = s at ih hst
    obtain ⟨E, st⟩ := s
    unfold endsStep
    split
    · exact ih
    · split
      · cases st with
        | nil => exact ih
        | cons m l =>
          have hm := (hst m List.mem_cons_self).1
          simp only
          rw [List.getElem?_set_ne (by omega), List.getElem?_set_ne (by omega)]
          exact ih
      · exact ih
/-- As far as it was gone. -/
structure EUp (ops : List LOp) (k : Nat) (E : List Int) : Prop where
  len : E.length = ops.length
  up : ∀ j, j < k → E[j]? = (endsTo ops k).1[j]?
theorem EUp.done {ops : List LOp} {E : List Int} (h : EUp ops ops.length E) : E = endsF ops := by
  refine List.ext_getElem? fun j => ?_
  unfold endsF
  by_cases hj : j < ops.length
  · exact h.up j hj
  · rw [List.getElem?_eq_none (by rw [h.len]; omega), List.getElem?_eq_none (by rw [ends_to_len]; omega)]
theorem EUp.none_ {ops : List LOp} {k : Nat} {E : List Int} (h : EUp ops k E) (hb : Bal ops) (hk : k < ops.length) (hs : (endsTo ops (k + 1)).1 = (endsTo ops k).1) : EUp ops (k + 1) (E.set k (-1)) := by
  refine ⟨by simp [h.len], fun j hj => ?_⟩
  rw [hs]
  by_cases e : j = k
  · subst e
    rw [List.getElem?_set_self (by rw [h.len]; exact hk), ends_rest hb (by omega) j (Nat.le_refl _) hk]
  · rw [List.getElem?_set_ne (by omega)]
    exact h.up j (by omega)
theorem EUp.end_ {ops : List LOp} {k m : Nat} {E : List Int} (h : EUp ops k E) (hs : (endsTo ops (k + 1)).1 = ((endsTo ops k).1.set k (m : Nat)).set m (k : Int)) : EUp ops (k + 1) (((E.set k (-1)).set k (m : Nat)).set m (k : Int)) := by
  refine ⟨by simp [h.len], fun j hj => ?_⟩
  rw [hs]
  simp only [List.getElem?_set, List.length_set, h.len, ends_to_len]
  by_cases e : m = j
  · rw [if_pos e, if_pos e]
  · rw [if_neg e, if_neg e]
    by_cases e2 : k = j
    · rw [if_pos e2, if_pos e2]
    · rw [if_neg e2, if_neg e2, if_neg e2]
      exact h.up j (by omega)

set_option maxRecDepth 100000 in
set_option maxHeartbeats 8000000 in
theorem Rends_any (p : LP) (Ab Ao : Option Addr) (nb cb no co : Nat) (w : World) (hp : ProgAt w (fun k => k < w.heap.size) [.int .i64 p.regs, .slice Ab nb cb, .slice Ao no co] p) (h0 : (checkF p p.regs.toNat).2 = 0) :
    Calls Tryd.prog 21 #[.agg #[.int .i64 p.regs, .slice Ab nb cb, .slice Ao no co]] w fun e w' => ∃ g, e = .returned (.slice (some ⟨g, 0, none⟩) p.ops.length p.ops.length) ∧ w.heap.size ≤ g ∧ w'.heap[g]? = some (.cells (intV (endsF p.ops)).toArray 3 (0, 0)) ∧ Below w.heap.size w w' := by
  obtain ⟨W, hW, hbW, hzW, hl_, hr_⟩ := boxed w #[.int .i64 p.regs, .slice Ab nb cb, .slice Ao no co] 25
  have c0 : W.cell? ⟨w.heap.size, 0, none⟩ = some (.int .i64 p.regs) := by rw [hl_]; rfl
  have c1 : W.cell? ⟨w.heap.size, 1, none⟩ = some (.slice Ab nb cb) := by rw [hl_]; rfl
  have c2 : W.cell? ⟨w.heap.size, 2, none⟩ = some (.slice Ao no co) := by rw [hl_]; rfl
  have hp1 := prog_next hp hbW
  have hOps : OpsAt w (fun k => k < w.heap.size) (.slice Ao no co) p.ops := by
    obtain ⟨vb, vo, h, h1, h2⟩ := hp.row
    simp only [List.cons.injEq] at h
    rw [h.2.2.1]; exact h2
  have hno : p.ops.length = no := by obtain ⟨A, c, hv, _⟩ := rows_form hOps; cases hv; rfl
  have HCK := Lib.hid (Rcheck_any p Ab Ao nb cb no co W hp1)
  have hn64 : no ≤ 65536 := by have := (head_ok (check_run h0).1).2.2.2.1; omega
  have HBAL := Lib.hid (check_bal h0)
  have HW := Lib.hid hW
  have HB := Lib.hid hbW
  have HOPS := Lib.hid hOps
  have HNO := Lib.hid hno
  have HLT := Lib.hid (show w.heap.size < W.heap.size by omega)
  rw [h0] at HCK
  obtain ⟨x, hx⟩ : ∃ x, (checkF p p.regs.toNat).1 = x := ⟨_, rfl⟩
  rw [hx] at HCK
  rw [hno]
  clear hW hbW hzW hOps hp hno hl_ hr_ hp1 h0 hx
  go_enter Tryd.func21, Tryd.ntmps21
  go_upto_region 1 with fail
  rw [← HW.out]
  go_upto_region 4 with ((with_reducible refine (HCK.out).mono ?_); rintro e w1 ⟨rfl, hb1⟩)
  have HB1 := Lib.hid hb1
  have e2 := (hb1.cell (p := ⟨w.heap.size, 2, none⟩) HLT.out).trans c2
  obtain ⟨g1, hg1⟩ : ∃ g, w1.heap.size = g := ⟨_, rfl⟩
  have hmk := make_ints no hn64 w1
  obtain ⟨W1, hW1⟩ : ∃ q, q = w1.alloc (.cells (intV (List.replicate no 0)).toArray 3) := ⟨_, rfl⟩
  rw [← hW1, hg1] at hmk
  have hb2 : Below w1.heap.size w1 W1 := by rw [hW1]; exact (Below.refl _ _).alloc (Nat.le_refl _) _
  have HS0 := Lib.hid (show W1.heap[g1]? = some (.cells (intV (List.replicate no 0)).toArray 3 (0, 0)) by rw [hW1, ← hg1]; exact heap_alloc_new w1 _)
  have HBW1 := Lib.hid (show Below w.heap.size w W1 from HB.out.trans ((hb1.trans (hb2.mono hb1.size)).mono HB.out.size))
  have hg1w : w.heap.size < g1 := by have := HLT.out; have := hb1.size; omega
  have HE0 := Lib.hid (show EUp p.ops 0 (List.replicate no 0) from ⟨by simp [HNO.out], fun j hj => absurd hj (by omega)⟩)
  have HD3 := Lib.hid (show W1.cell? ⟨w.heap.size, 2, none⟩ = some (.slice Ao no co) by rw [hb2.cell (p := ⟨w.heap.size, 2, none⟩) (by simp only []; omega)]; exact e2)
  have HWG := Lib.hid (show W.heap.size ≤ g1 by have := hb1.size; omega)
  clear c0 c1 c2 hb1 hb2 hW1 hg1
  go_upto_region 5 with fail
  clear hmk e2
  go_wp2
  go_loopw [6, 7] (fun v i wr => ∃ (k : Nat) (A : Option Addr) (c : Nat) (E : List Int), k ≤ no ∧ i = .int .i64 k ∧ v = .slice A (endsTo p.ops k).2.length c ∧ wr.ownsRow W.heap.size 3 1 (.slice A (endsTo p.ops k).2.length c) (endsTo p.ops k).2.length (intV (stkI (endsTo p.ops k).2)) ∧ (Value.slice A (endsTo p.ops k).2.length c).ownBlock ≠ some g1 ∧
    wr.heap[g1]? = some (.cells (intV E).toArray 3 (0, 0)) ∧ EUp p.ops k E ∧ Below w.heap.size w wr ∧ wr.cell? ⟨w.heap.size, 2, none⟩ = some (.slice Ao no co)) (fun _ i _ => no - (intOf i).toNat)
  case atStart => exact ⟨0, none, 0, _, by omega, rfl, rfl, World.ownsRow_nil _ _ _ _, (fun e => by cases e), HS0.out, HE0.out, HBW1.out, HD3.out⟩
  case round =>
    obtain ⟨k, A, c, E, hk, rfl, rfl, hown, hne, hblk, heu, hbel, hd3⟩ := hrel
    have HOWN := Lib.hid hown
    have HNE := Lib.hid hne
    have HBLK := Lib.hid hblk
    have HBEL := Lib.hid hbel
    have HEU := Lib.hid heu
    have HD := Lib.hid hd3
    clear hown hne hblk heu hbel
    by_cases hlt : k < no
    · obtain ⟨o, ho⟩ : ∃ o, p.ops[k]? = some o := ⟨_, List.getElem?_eq_getElem (by rw [HNO.out]; omega)⟩
      obtain ⟨g, off, hA, hF, x0, _⟩ := HOPS.out.at_ ho
      subst hA
      have y0 := (HBEL.out.cell (p := ⟨g, off + k * 8, none⟩) hF).trans x0
      have HO := Lib.hid ho
      have i0 : (0 : Int) ≤ (k : Int) := by omega
      have i1 : (k : Int) < (no : Int) := by omega
      obtain ⟨kd, hkd⟩ : ∃ q, o.kind = q := ⟨_, rfl⟩
      rw [hkd] at y0
      have HKD := Lib.hid hkd
      have HSL := Lib.hid (stk_len p.ops k)
      have HST : Hid (endsTo p.ops (k + 1) = endsStep o k (endsTo p.ops k)) := by show _ = _; simp only [endsTo, HO.out]
      have hwlt : g1 < wr.heap.size := lt_of_block HBLK.out
      have hkl : k < p.ops.length := by rw [HNO.out]; exact hlt
      obtain ⟨x1, hx1⟩ : ∃ x, E[k]? = some x := ⟨_, List.getElem?_eq_getElem (by rw [HEU.out.len]; exact hkl)⟩
      have z1 : wr.cell? ⟨g1, k, none⟩ = some (.int .i64 x1) := cell_row HBLK.out (intV_get hx1)
      have z2 : wr.frozen? ⟨g1, k, none⟩ = false := frozen_row HBLK.out k
      obtain ⟨W5, hW5⟩ : ∃ q, q = wr.setCell ⟨g1, k, none⟩ (.int .i64 (-1)) := ⟨_, rfl⟩
      have hS1 := setCell_row HBLK.out k (.int .i64 (-1))
      rw [intV_set, ← hW5] at hS1
      have HBLK5 := Lib.hid hS1
      have HB5 := Lib.hid (show Below w.heap.size w W5 by rw [hW5]; exact HBEL.out.setCell (by simp only []; omega) _)
      have HOWN5 := Lib.hid (show W5.ownsRow W.heap.size 3 1 (.slice A (endsTo p.ops k).2.length c) (endsTo p.ops k).2.length (intV (stkI (endsTo p.ops k).2)) by
        rw [hW5]
        exact row_keep (fun g hg => Below.heap_setCell _ _ _ _ (fun e => HNE.out (by rw [hg, e]))) HOWN.out)
      have d5 : W5.cell? ⟨w.heap.size, 2, none⟩ = some (.slice (some ⟨g, off, none⟩) no co) := by rw [hW5]; exact (World.cell?_of_block (w := wr) (Below.heap_setCell _ _ _ _ (by simp only []; omega))).trans hd3
      have y5 : W5.cell? ⟨g, off + k * 8, none⟩ = some (.int .i64 kd) := by rw [hW5]; exact (World.cell?_of_block (w := wr) (Below.heap_setCell _ _ _ _ (by have : g < w.heap.size := hF; simp only []; omega))).trans y0
      have HLT5 := Lib.hid (lt_of_block HBLK5.out)
      clear x0 hF ho hkd hx1 hS1
      go_upto_region 10 with fail
      rw [← hW5]
      have HD5 := Lib.hid d5
      clear hW5 z1 z2 y0 hd3 hwlt
      by_cases h16 : kd = 16
      · have e16 : (kd == 16) = true := by simpa using h16
        have HN := Lib.hid (show endsTo p.ops (k + 1) = ((endsTo p.ops k).1, k :: (endsTo p.ops k).2) by rw [HST.out]; unfold endsStep; rw [if_pos (by rw [HKD.out]; exact h16)])
        have HEN := Lib.hid (HEU.out.none_ HBAL.out hkl (by rw [HN.out]))
        clear h16 hkl
        obtain ⟨j0, hie, hy0, hy1, hy2⟩ := info_parts infoI
        obtain ⟨ls, hls⟩ : ∃ n, (endsTo p.ops k).2.length = n := ⟨_, rfl⟩
        rw [hls] at HOWN5 HNE HSL
        rw [hls]
        have hlsk : ls ≤ k := HSL.out
        have HLS := Lib.hid hls
        clear hls
        go_wp2_with ((at_builtin; refine wpList_append_own_at _ rfl _ _ 35 rfl W.heap.size 3 j0 (.int .i64 0) 1 8 Tryd.underlying35 hie hy0 hy1 hy2 rfl (by decide) _ ls _ rfl (HOWN5.out.alloc _) ⟨W5.heap.size, 0, none⟩ 1 1 [.int .i64 k] rfl (by simp) (World.news_of_block (cs := #[.int .i64 k]) (t := 3) (fr := (0, 0)) (heap_alloc_new W5 _)) (by simp [Value.oneCell']) (by unfold maxLen; omega) (by omega) (by have := HWG.out; have := HLT5.out; simp; omega) ?_); intro v w6 hown6 hg6 _ hwh6; have HOWN6 := Lib.hid hown6; have HG6 := Lib.hid hg6; have HWH6 := Lib.hid hwh6; clear hown6 hg6 hwh6)
        obtain ⟨A6, c6, rfl⟩ := own_form HOWN6.out
        have hl6 : (k :: (endsTo p.ops k).2).length = ls + 1 := by rw [List.length_cons, HLS.out]
        have hb6 : Below W5.heap.size W5 (W5.alloc (.cells #[.int .i64 k] 3)) := (Below.refl _ _).alloc (Nat.le_refl _) _
        have hz6 : (W5.alloc (.cells #[.int .i64 k] 3)).heap.size = W5.heap.size + 1 := by simp
        have hne6 : (Value.slice A6 (ls + 1) c6).ownBlock ≠ some g1 := fun e => by
          rcases HWH6.out with h | h
          · exact HNE.out (h ▸ e)
          · rw [e] at h
            have h2 := Option.some.inj h
            have := HLT5.out; omega
        have hblk6 : w6.heap[g1]? = some (.cells (intV (E.set k (-1))).toArray 3 (0, 0)) := by
          rw [HG6.out.block g1 (by have := HLT5.out; omega) (fun e => HNE.out e.symm), hb6.block g1 HLT5.out]
          exact HBLK5.out
        have hbel6 : Below w.heap.size w w6 := (HB5.out.trans (hb6.mono HB5.out.size)).grown HG6.out (by have := HB5.out.size; omega) (fun k hk => by have := (own_lt HOWN5.out k hk).2; have := HLT.out; omega)
        have hown6 := HOWN6.out
        rw [show intV (stkI (endsTo p.ops k).2) ++ [Value.int .i64 (k : Int)] = intV (stkI (k :: (endsTo p.ops k).2)) by rw [stkI_cons, intV_append]; rfl, ← hl6] at hown6
        have hd6 : w6.cell? ⟨w.heap.size, 2, none⟩ = some (.slice (some ⟨g, off, none⟩) no co) := by
          refine (World.cell?_of_block (w := W5) ?_).trans HD5.out
          show w6.heap[w.heap.size]? = W5.heap[w.heap.size]?
          rw [HG6.out.block w.heap.size (by have := HLT5.out; omega) (fun e => by have := (own_lt HOWN5.out _ e.symm).2; have := HLT.out; omega), hb6.block w.heap.size (by have := HLT5.out; omega)]
        go_roundw
        case rel => exact ⟨k + 1, A6, c6, _, by omega, by go_num, by rw [HN.out, hl6], by rw [HN.out]; exact hown6, by rw [HN.out]; simp only [hl6]; exact hne6, hblk6, HEN.out, hbel6, hd6⟩
        case measure => simp [intOf]; omega
      · have e16 : (kd == 16) = false := by simpa using h16
        by_cases h17 : kd = 17
        · have e17 : (kd == 17) = true := by simpa using h17
          have hnil := HBAL.out.some_ k o HO.out (by rw [HKD.out]; exact h17)
          obtain ⟨m, l, hml⟩ : ∃ m l, (endsTo p.ops k).2 = m :: l := by
            cases h : (endsTo p.ops k).2 with
            | nil => exact absurd h hnil
            | cons m l => exact ⟨m, l, rfl⟩
          have HN := Lib.hid (show endsTo p.ops (k + 1) = (((endsTo p.ops k).1.set k (m : Nat)).set m (k : Int), l) by rw [HST.out]; unfold endsStep; rw [if_neg (by rw [HKD.out]; exact h16), if_pos (by rw [HKD.out]; exact h17), hml])
          rw [hml] at HOWN5 HNE HSL
          have hmk : m < k := ((ends_inv HBAL.out k (by rw [HNO.out]; omega)).open_ m (by rw [hml]; exact List.mem_cons_self)).1
          have HEN := Lib.hid (HEU.out.end_ (by rw [HN.out]))
          have HEL := Lib.hid HEU.out.len
          rw [hml]
          clear h16 h17 hnil hml hkl
          obtain ⟨ll, hll⟩ : ∃ n, l.length = n := ⟨_, rfl⟩
          have hl1 : (m :: l).length = ll + 1 := by rw [List.length_cons, hll]
          rw [hl1] at HOWN5 HNE HSL
          rw [hl1]
          have hlk : ll < k := HSL.out
          obtain ⟨gs, capx, hA⟩ : ∃ gs cap, Value.slice A (ll + 1) c = .slice (some ⟨gs, 0, none⟩) (ll + 1) cap := by
            rcases HOWN5.out.2 with ⟨_, h⟩ | ⟨g, cap, cur, hv, _⟩
            · omega
            · exact ⟨g, cap, hv⟩
          cases hA
          have hnm := nums_own (l := stkI (m :: l)) (by rw [stkI_len, hl1]; exact HOWN5.out)
          obtain ⟨b', o', hb', _, hcell⟩ := hnm.at_ (k := ll) (x := (m : Int)) (by rw [← hll]; exact stkI_top m l)
          cases hb'
          rw [Nat.zero_add] at hcell
          have hca : ll + 1 ≤ c := by
            rcases HOWN5.out.2 with ⟨_, h⟩ | ⟨g, cap, cur, hv, _, _, hnc, _⟩
            · omega
            · cases hv; exact hnc
          have hE : (E.set k (-1)).length = no := by rw [List.length_set, HEL.out, HNO.out]
          obtain ⟨E5, hE5⟩ : ∃ q, E.set k (-1) = q := ⟨_, rfl⟩
          rw [hE5] at HBLK5 HEN hE
          have hS1 := setCell_row HBLK5.out k (.int .i64 (m : Nat))
          rw [intV_set] at hS1
          have hS2 := setCell_row hS1 m (.int .i64 (k : Nat))
          rw [intV_set] at hS2
          have HS2 := Lib.hid hS2
          obtain ⟨x1, hx1⟩ : ∃ x, E5[k]? = some x := ⟨_, List.getElem?_eq_getElem (by omega)⟩
          obtain ⟨x2, hx2⟩ : ∃ x, (E5.set k (m : Int))[m]? = some x := ⟨_, List.getElem?_eq_getElem (by simp; omega)⟩
          have z1 : W5.cell? ⟨g1, k, none⟩ = some (.int .i64 x1) := cell_row HBLK5.out (intV_get hx1)
          have z2 : W5.frozen? ⟨g1, k, none⟩ = false := frozen_row HBLK5.out k
          have z3 : (W5.setCell ⟨g1, k, none⟩ (.int .i64 (m : Nat))).cell? ⟨g1, m, none⟩ = some (.int .i64 x2) := cell_row hS1 (intV_get hx2)
          have z4 : (W5.setCell ⟨g1, k, none⟩ (.int .i64 (m : Nat))).frozen? ⟨g1, m, none⟩ = false := frozen_row hS1 m
          have j0 : (0 : Int) ≤ (m : Int) := by omega
          have j1 : (m : Int) < (no : Int) := by omega
          have j2 : IntKind.i64.wrap ((((ll + 1 : Nat) : Int)) - 1) = ll := by simp [IntKind.wrap, IntKind.bits, IntKind.signed]; omega
          have j3 : (ll : Int) < ((ll + 1 : Nat) : Int) := by omega
          have j4 : (0 : Int) ≤ (ll : Int) := by omega
          have HLL := Lib.hid hll
          clear hS1 hS2 hx1 hx2 hl1 hnm hll hE hE5
          go_wp2
          have hne2 : ∀ kk, (Value.slice (some ⟨gs, 0, none⟩) ll c).ownBlock = some kk → kk ≠ g1 := fun kk h e => HNE.out (by rw [e] at h; exact h)
          have hbel2 : Below w.heap.size w ((W5.setCell ⟨g1, k, none⟩ (.int .i64 (m : Nat))).setCell ⟨g1, m, none⟩ (.int .i64 (k : Nat))) := (HB5.out.setCell (by simp only []; omega) _).setCell (by simp only []; omega) _
          have hown2 := own_take HOWN5.out (k := ll) (by omega)
          rw [intV_take, ← HLL.out, stkI_pop, HLL.out] at hown2
          have hown3 := row_keep (w' := (W5.setCell ⟨g1, k, none⟩ (.int .i64 (m : Nat))).setCell ⟨g1, m, none⟩ (.int .i64 (k : Nat))) (fun g hg => (Below.heap_setCell _ _ _ _ (hne2 g hg)).trans (Below.heap_setCell _ _ _ _ (hne2 g hg))) hown2
          have hd7 : ((W5.setCell ⟨g1, k, none⟩ (.int .i64 (m : Nat))).setCell ⟨g1, m, none⟩ (.int .i64 (k : Nat))).cell? ⟨w.heap.size, 2, none⟩ = some (.slice (some ⟨g, off, none⟩) no co) :=
            (World.cell?_of_block (w := W5) ((Below.heap_setCell _ _ _ _ (by simp only []; omega)).trans (Below.heap_setCell _ _ _ _ (by simp only []; omega)))).trans HD5.out
          go_roundw
          case rel => exact ⟨k + 1, some ⟨gs, 0, none⟩, c, _, by omega, by go_num, by rw [HN.out, HLL.out], by rw [HN.out]; simp only [HLL.out]; exact hown3, by rw [HN.out]; exact fun h => hne2 _ h rfl, HS2.out, HEN.out, hbel2, hd7⟩
          case measure => simp [intOf]; omega
        · have e17 : (kd == 17) = false := by simpa using h17
          have HN := Lib.hid (show endsTo p.ops (k + 1) = endsTo p.ops k by rw [HST.out]; unfold endsStep; rw [if_neg (by rw [HKD.out]; exact h16), if_neg (by rw [HKD.out]; exact h17)])
          have HEN := Lib.hid (HEU.out.none_ HBAL.out hkl (by rw [HN.out]))
          clear h16 h17 hkl
          go_wp2
          go_roundw
          case rel => exact ⟨k + 1, A, c, _, by omega, by go_num, by rw [HN.out], by rw [HN.out]; exact HOWN5.out, by rw [HN.out]; exact HNE.out, HBLK5.out, HEN.out, HB5.out, HD5.out⟩
          case measure => simp [intOf]; omega
    · have hkn : k = p.ops.length := by rw [HNO.out]; omega
      have HRES := Lib.hid (show wr.heap[g1]? = some (.cells (intV (endsF p.ops)).toArray 3 (0, 0)) by
        have := HEU.out
        rw [hkn] at this
        rw [← this.done]; exact HBLK.out)
      clear hkn
      go_wp2
      go_ret
      exact ⟨g1, rfl, by omega, HRES.out, HBEL.out⟩
end Go.Proofs.YtppoiahhaclleaaDoor
