/- limb.ends, Ends: of each loop and end the other one. -/
import Derived.Test.YtppoiahhaclleaaDoorRep14
namespace Go.Proofs.YtppoiahhaclleaaDoor
open Go.RowKit

def natI (l : List Nat) : List Int := l.map fun (k : Nat) => (k : Int)
def stkI (l : List Nat) : List Int := natI l.reverse
theorem stkI_len (l : List Nat) : (stkI l).length = l.length := by simp [stkI, natI]
theorem stkI_cons (m : Nat) (l : List Nat) : stkI (m :: l) = stkI l ++ [(m : Int)] := by simp [stkI, natI]
theorem stkI_top (m : Nat) (l : List Nat) : (stkI (m :: l))[l.length]? = some (m : Int) := by
  rw [stkI_cons, List.getElem?_append_right (by rw [stkI_len]; exact Nat.le_refl _), stkI_len]
  simp
theorem stkI_pop (m : Nat) (l : List Nat) : (stkI (m :: l)).take l.length = stkI l := by rw [stkI_cons, ← stkI_len l, List.take_left]
theorem intV_set (l : List Int) (k : Nat) (x : Int) : (intV l).set k (.int .i64 x) = intV (l.set k x) := by unfold intV; rw [List.map_set]
theorem intV_append (a b : List Int) : intV (a ++ b) = intV a ++ intV b := by simp [intV]
theorem intV_get {l : List Int} {k : Nat} {x : Int} (h : l[k]? = some x) : (intV l)[k]? = some (.int .i64 x) := by unfold intV; rw [List.getElem?_map, h]; rfl
theorem ends_to_len (ops : List LOp) (k : Nat) : (endsTo ops k).1.length = ops.length := by
  induction k with
  | zero => simp [endsTo]
  | succ k ih =>
    simp only [endsTo]
    split
    · unfold endsStep
      split
      · exact ih
      · split
        · split
          · exact ih
          · simpa using ih
        · exact ih
    · exact ih
theorem intV_rep (x : Int) (n : Nat) : intV (List.replicate n x) = repV [.int .i64 x] n := by
  unfold intV repV
  rw [List.map_replicate]
  induction n with
  | zero => rfl
  | succ n ih => rw [List.replicate_succ, List.replicate_succ, List.flatten_cons, ← ih]; rfl
theorem stk_len (ops : List LOp) (k : Nat) : (endsTo ops k).2.length ≤ k := by
  induction k with
  | zero => simp [endsTo]
  | succ k ih =>
    simp only [endsTo]
    split
    · rename_i o _
      generalize endsTo ops k = s at ih
      obtain ⟨E, st⟩ := s
      unfold endsStep
      split
      · simp at ih ⊢; omega
      · split
        · cases st with
          | nil => simp
          | cons m l => simp at ih ⊢; omega
        · simp at ih ⊢; omega
    · omega

set_option maxRecDepth 100000 in
set_option maxHeartbeats 8000000 in
theorem ends_any (p : LP) (Ab Ao : Option Addr) (nb cb no co : Nat) (w : World) (hp : ProgAt w (fun k => k < w.heap.size) [.int .i64 p.regs, .slice Ab nb cb, .slice Ao no co] p) (hbal : Bal p.ops) (hlen : p.ops.length ≤ 65536) :
    Calls Tryd.prog 71 #[.agg #[.int .i64 p.regs, .slice Ab nb cb, .slice Ao no co]] w fun e w' => ∃ g, e = .returned (.slice (some ⟨g, 0, none⟩) p.ops.length p.ops.length) ∧ w.heap.size ≤ g ∧ w'.heap[g]? = some (.cells (intV (endsF p.ops)).toArray 3 (0, 0)) ∧ Below w.heap.size w w' := by
  obtain ⟨W, hW, hbW, hzW, hcW, _⟩ := boxed w #[.int .i64 p.regs, .slice Ab nb cb, .slice Ao no co] 25
  have c2 : W.cell? ⟨w.heap.size, 2, none⟩ = some (.slice Ao no co) := by rw [hcW]; rfl
  have hOps : OpsAt w (fun k => k < w.heap.size) (.slice Ao no co) p.ops := by
    obtain ⟨vb, vo, h, h1, h2⟩ := hp.row
    simp only [List.cons.injEq] at h
    rw [h.2.2.1]; exact h2
  have hno : p.ops.length = no := by obtain ⟨A, c, hv, _⟩ := rows_form hOps; cases hv; rfl
  obtain ⟨W1, hW1⟩ : ∃ q, q = W.alloc (.cells (intV [-1]).toArray 3) := ⟨_, rfl⟩
  have hb1 : Below W.heap.size W W1 := by rw [hW1]; exact (Below.refl _ _).alloc (Nat.le_refl _) _
  have hz1 : W1.heap.size = W.heap.size + 1 := by rw [hW1]; simp
  have hn1 : W1.heap[W.heap.size]? = some (.cells (intV [-1]).toArray 3 (0, 0)) := by rw [hW1]; exact heap_alloc_new W _
  have hrep := Repeat_Int [.int .i64 (-1)] rfl (by simp [Value.oneCell']) W.heap.size 0 1 no (by omega) W1 (by omega) (fun j v hv => by rw [Nat.zero_add]; exact cell_row hn1 hv)
  obtain ⟨g1, hg1⟩ : ∃ g, W1.heap.size = g := ⟨_, rfl⟩
  rw [hg1] at hrep
  have HG1 := Lib.hid hg1
  have hrep2 : Calls Tryd.prog 84 #[.slice (some ⟨W.heap.size, 0, none⟩) 1 1, .int .i64 no] (W.alloc (.cells #[.int .i64 (-1)] 3)) fun e w' => e = .returned (.slice (some ⟨g1, 0, none⟩) no no) ∧ w'.heap[g1]? = some (.cells (repV [.int .i64 (-1)] no).toArray 3 (0, 0)) ∧ Below g1 W1 w' := by
    have := hW1
    unfold intV at this
    rw [show (W.alloc (.cells #[.int .i64 (-1)] 3)) = W1 from this.symm]
    exact hrep
  have HREP := Lib.hid hrep2
  have hlt0 : w.heap.size < W.heap.size := by omega
  have HW := Lib.hid hW
  have HW1 := Lib.hid hW1
  have HB := Lib.hid hbW
  have HB1 := Lib.hid hb1
  have HOPS := Lib.hid hOps
  have HNO := Lib.hid hno
  have HBAL := Lib.hid hbal
  have hn64 : no ≤ 65536 := by omega
  have HLT := Lib.hid (show w.heap.size < W.heap.size ∧ W.heap.size < W1.heap.size by omega)
  rw [hno]
  clear hW hbW hzW hcW hOps hp hno hW1 hb1 hz1 hn1 hbal hlen hrep hrep2 hg1
  go_enter Tryd.func71, Tryd.ntmps71
  go_upto_region 1 with fail
  rw [← HW.out]
  go_upto_region 2 with ((with_reducible refine (HREP.out).mono ?_); rintro e w1 ⟨rfl, hgb, hb2⟩)
  have hbw1 : Below w.heap.size w w1 := HB.out.trans ((HB1.out.trans (hb2.mono (by rw [← HG1.out]; exact HB1.out.size))).mono HB.out.size)
  have d2 := (hbw1.trans (Below.refl _ _)).size
  have HBW1 := Lib.hid hbw1
  have hg1w : w.heap.size < g1 := by have := HLT.out; have := HG1.out; omega
  have hg1s : g1 < w1.heap.size := lt_of_block hgb
  have hs0 : intV (endsTo p.ops 0).1 = repV [.int .i64 (-1)] no := by
    rw [show (endsTo p.ops 0).1 = List.replicate p.ops.length (-1) from rfl, HNO.out]
    exact intV_rep _ _
  rw [← hs0] at hgb
  have HS0 := Lib.hid hgb
  have d3 : w1.cell? ⟨w.heap.size, 2, none⟩ = some (.slice Ao no co) := by
    rw [hb2.cell (p := ⟨w.heap.size, 2, none⟩) hg1w, HB1.out.cell (p := ⟨w.heap.size, 2, none⟩) hlt0]; exact c2
  have HD3 := Lib.hid d3
  clear hs0 hgb c2 d2 hbw1 hb2 hlt0
  go_wp2
  go_loopw [4, 16] (fun v i wr => ∃ (k : Nat) (A : Option Addr) (c : Nat), k ≤ no ∧ i = .int .i64 k ∧ v = .slice A (endsTo p.ops k).2.length c ∧ wr.ownsRow w.heap.size 3 1 (.slice A (endsTo p.ops k).2.length c) (endsTo p.ops k).2.length (intV (stkI (endsTo p.ops k).2)) ∧ (Value.slice A (endsTo p.ops k).2.length c).ownBlock ≠ some g1 ∧
    wr.heap[g1]? = some (.cells (intV (endsTo p.ops k).1).toArray 3 (0, 0)) ∧ Below w.heap.size w wr) (fun _ i _ => no - (intOf i).toNat)
  case atStart => exact ⟨0, none, 0, by omega, rfl, rfl, World.ownsRow_nil _ _ _ _, (fun e => by cases e), HS0.out, HBW1.out⟩
  case round =>
    obtain ⟨k, A, c, hk, rfl, rfl, hown, hne, hblk, hbel⟩ := hrel
    have HOWN := Lib.hid hown
    have HNE := Lib.hid hne
    have HBLK := Lib.hid hblk
    have HBEL := Lib.hid hbel
    clear hown hne hblk hbel d3
    by_cases hlt : k < no
    · obtain ⟨o, ho⟩ : ∃ o, p.ops[k]? = some o := ⟨_, List.getElem?_eq_getElem (by rw [HNO.out]; omega)⟩
      obtain ⟨g, off, hA, hF, x0, x1, x2, x3, x4, x5, x6, x7⟩ := HOPS.out.at_ ho
      subst hA
      have y0 := (HBEL.out.cell (p := ⟨g, off + k * 8, none⟩) hF).trans x0
      have y1 := (HBEL.out.cell (p := ⟨g, off + k * 8 + 1, none⟩) hF).trans x1
      have y2 := (HBEL.out.cell (p := ⟨g, off + k * 8 + 2, none⟩) hF).trans x2
      have y3 := (HBEL.out.cell (p := ⟨g, off + k * 8 + 3, none⟩) hF).trans x3
      have y4 := (HBEL.out.cell (p := ⟨g, off + k * 8 + 4, none⟩) hF).trans x4
      have y5 := (HBEL.out.cell (p := ⟨g, off + k * 8 + 5, none⟩) hF).trans x5
      have y6 := (HBEL.out.cell (p := ⟨g, off + k * 8 + 6, none⟩) hF).trans x6
      have y7 := (HBEL.out.cell (p := ⟨g, off + k * 8 + 7, none⟩) hF).trans x7
      have HO := Lib.hid ho
      have i0 : (0 : Int) ≤ (k : Int) := by omega
      have i1 : (k : Int) < (no : Int) := by omega
      obtain ⟨kd, hkd⟩ : ∃ q, o.kind = q := ⟨_, rfl⟩
      rw [hkd] at y0
      have HKD := Lib.hid hkd
      have HSL := Lib.hid (stk_len p.ops k)
      have HST : Hid (endsTo p.ops (k + 1) = endsStep o k (endsTo p.ops k)) := by show _ = _; simp only [endsTo, HO.out]
      have hwlt : g1 < wr.heap.size := lt_of_block HBLK.out
      clear x0 x1 x2 x3 x4 x5 x6 x7 hF ho hkd
      by_cases h16 : kd = 16
      · have e16 : (kd == 16) = true := by simpa using h16
        have HN := Lib.hid (show endsTo p.ops (k + 1) = ((endsTo p.ops k).1, k :: (endsTo p.ops k).2) by rw [HST.out]; unfold endsStep; rw [if_pos (by rw [HKD.out]; exact h16)])
        clear h16
        go_upto_region 8 with fail
        obtain ⟨W5, hW5⟩ : ∃ q, q = wr.alloc (.cells #[.int .i64 kd, .int .i64 o.d, .int .i64 o.e, .int .i64 o.a, .int .i64 o.b, .int .i64 o.c, .int .i64 o.buf, .int .u64 o.imm] 47) := ⟨_, rfl⟩
        have hb5 : Below wr.heap.size wr W5 := by rw [hW5]; exact (Below.refl _ _).alloc (Nat.le_refl _) _
        rw [← hW5]
        have HB5 := Lib.hid (HBEL.out.trans (hb5.mono HBEL.out.size))
        have HOWN5 := Lib.hid (row_keep (fun g hg => hb5.block g (own_lt HOWN.out g hg).1) HOWN.out)
        have HBLK5 := Lib.hid ((hb5.block g1 hwlt).trans HBLK.out)
        have HLT5 := Lib.hid (Nat.lt_of_lt_of_le hwlt hb5.size)
        clear hW5 hb5 hwlt e16 y0 y1 y2 y3 y4 y5 y6 y7
        obtain ⟨j0, hie, hy0, hy1, hy2⟩ := info_parts infoI
        obtain ⟨ls, hls⟩ : ∃ n, (endsTo p.ops k).2.length = n := ⟨_, rfl⟩
        rw [hls] at HOWN5 HNE HSL
        rw [hls]
        have hlsk : ls ≤ k := HSL.out
        have HLS := Lib.hid hls
        clear hls
        go_wp2_with ((at_builtin; refine wpList_append_own_at _ rfl _ _ 35 rfl w.heap.size 3 j0 (.int .i64 0) 1 8 Tryd.underlying35 hie hy0 hy1 hy2 rfl (by decide) _ ls _ rfl (HOWN5.out.alloc _) ⟨W5.heap.size, 0, none⟩ 1 1 [.int .i64 k] rfl (by simp) (World.news_of_block (cs := #[.int .i64 k]) (t := 3) (fr := (0, 0)) (heap_alloc_new W5 _)) (by simp [Value.oneCell']) (by unfold maxLen; omega) (by omega) (by have := HB5.out.size; simp; omega) ?_); intro v w6 hown6 hg6 _ hwh6; have HOWN6 := Lib.hid hown6; have HG6 := Lib.hid hg6; have HWH6 := Lib.hid hwh6; clear hown6 hg6 hwh6)
        obtain ⟨A6, c6, rfl⟩ := own_form HOWN6.out
        have hl6 : (k :: (endsTo p.ops k).2).length = ls + 1 := by rw [List.length_cons, HLS.out]
        have hb6 : Below W5.heap.size W5 (W5.alloc (.cells #[.int .i64 k] 3)) := (Below.refl _ _).alloc (Nat.le_refl _) _
        have hz6 : (W5.alloc (.cells #[.int .i64 k] 3)).heap.size = W5.heap.size + 1 := by simp
        have hne6 : (Value.slice A6 (ls + 1) c6).ownBlock ≠ some g1 := fun e => by
          rcases HWH6.out with h | h
          · exact HNE.out (h ▸ e)
          · rw [e] at h
            have h2 := Option.some.inj h
            have := HLT5.out; omega
        have hblk6 : w6.heap[g1]? = some (.cells (intV (endsTo p.ops k).1).toArray 3 (0, 0)) := by
          rw [HG6.out.block g1 (by have := HLT5.out; omega) (fun e => HNE.out e.symm), hb6.block g1 HLT5.out]
          exact HBLK5.out
        have hbel6 : Below w.heap.size w w6 := (HB5.out.trans (hb6.mono HB5.out.size)).grown HG6.out (by have := HB5.out.size; omega) (fun k hk => (own_lt HOWN5.out k hk).2)
        have hown6 := HOWN6.out
        rw [show intV (stkI (endsTo p.ops k).2) ++ [Value.int .i64 (k : Int)] = intV (stkI (k :: (endsTo p.ops k).2)) by rw [stkI_cons, intV_append]; rfl, ← hl6] at hown6
        go_roundw
        case rel => exact ⟨k + 1, A6, c6, by omega, by go_num, by rw [HN.out, hl6], by rw [HN.out]; exact hown6, by rw [HN.out]; simp only [hl6]; exact hne6, by rw [HN.out]; exact hblk6, hbel6⟩
        case measure => simp [intOf]; omega
      · have e16 : (kd == 16) = false := by simpa using h16
        by_cases h17 : kd = 17
        · have e17 : (kd == 17) = true := by simpa using h17
          have hnil := HBAL.out.some_ k o HO.out (by rw [HKD.out]; exact h17)
          obtain ⟨m, l, hml⟩ : ∃ m l, (endsTo p.ops k).2 = m :: l := by
            cases h : (endsTo p.ops k).2 with
            | nil => exact absurd h hnil
            | cons m l => exact ⟨m, l, rfl⟩
          have HN := Lib.hid (show endsTo p.ops (k + 1) = (((endsTo p.ops k).1.set k (m : Nat)).set m (k : Int), l) by rw [HST.out]; unfold endsStep; rw [if_neg (by rw [HKD.out]; exact h16), if_pos (by rw [HKD.out]; exact h17), hml])
          rw [hml] at HOWN HNE HSL
          have hmk : m < k := ((ends_inv HBAL.out k (by rw [HNO.out]; omega)).open_ m (by rw [hml]; exact List.mem_cons_self)).1
          rw [hml]
          clear h16 h17 hnil hml
          go_upto_region 10 with fail
          obtain ⟨W5, hW5⟩ : ∃ q, q = wr.alloc (.cells #[.int .i64 kd, .int .i64 o.d, .int .i64 o.e, .int .i64 o.a, .int .i64 o.b, .int .i64 o.c, .int .i64 o.buf, .int .u64 o.imm] 47) := ⟨_, rfl⟩
          have hb5 : Below wr.heap.size wr W5 := by rw [hW5]; exact (Below.refl _ _).alloc (Nat.le_refl _) _
          rw [← hW5]
          have HB5 := Lib.hid (HBEL.out.trans (hb5.mono HBEL.out.size))
          have HOWN5 := Lib.hid (row_keep (fun g hg => hb5.block g (own_lt HOWN.out g hg).1) HOWN.out)
          have HBLK5 := Lib.hid ((hb5.block g1 hwlt).trans HBLK.out)
          have HLT5 := Lib.hid (Nat.lt_of_lt_of_le hwlt hb5.size)
          clear hW5 hb5 hwlt e16 e17 y0 y1 y2 y3 y4 y5 y6 y7
          obtain ⟨ll, hll⟩ : ∃ n, l.length = n := ⟨_, rfl⟩
          have hl1 : (m :: l).length = ll + 1 := by rw [List.length_cons, hll]
          rw [hl1] at HOWN5 HNE HSL
          rw [hl1]
          have hlk : ll < k := HSL.out
          obtain ⟨gs, capx, hA⟩ : ∃ gs cap, Value.slice A (ll + 1) c = .slice (some ⟨gs, 0, none⟩) (ll + 1) cap := by
            rcases HOWN5.out.2 with ⟨_, h⟩ | ⟨g, cap, cur, hv, _⟩
            · omega
            · exact ⟨g, cap, hv⟩
          cases hA
          have hnm := nums_own (l := stkI (m :: l)) (by rw [stkI_len, hl1]; exact HOWN5.out)
          obtain ⟨b', o', hb', _, hcell⟩ := hnm.at_ (k := ll) (x := (m : Int)) (by rw [← hll]; exact stkI_top m l)
          cases hb'
          rw [Nat.zero_add] at hcell
          have hca : ll + 1 ≤ c := by
            rcases HOWN5.out.2 with ⟨_, h⟩ | ⟨g, cap, cur, hv, _, _, hnc, _⟩
            · omega
            · cases hv; exact hnc
          have hE : (endsTo p.ops k).1.length = no := by rw [ends_to_len, HNO.out]
          obtain ⟨E, hEE⟩ : ∃ E, (endsTo p.ops k).1 = E := ⟨_, rfl⟩
          rw [hEE] at HBLK5 HN hE
          have hS1 := setCell_row HBLK5.out k (.int .i64 (m : Nat))
          rw [intV_set] at hS1
          have hS2 := setCell_row hS1 m (.int .i64 (k : Nat))
          rw [intV_set] at hS2
          have HS2 := Lib.hid hS2
          obtain ⟨x1, hx1⟩ : ∃ x, E[k]? = some x := ⟨_, List.getElem?_eq_getElem (by omega)⟩
          obtain ⟨x2, hx2⟩ : ∃ x, (E.set k (m : Int))[m]? = some x := ⟨_, List.getElem?_eq_getElem (by simp; omega)⟩
          have z1 : W5.cell? ⟨g1, k, none⟩ = some (.int .i64 x1) := cell_row HBLK5.out (intV_get hx1)
          have z2 : W5.frozen? ⟨g1, k, none⟩ = false := frozen_row HBLK5.out k
          have z3 : (W5.setCell ⟨g1, k, none⟩ (.int .i64 (m : Nat))).cell? ⟨g1, m, none⟩ = some (.int .i64 x2) := cell_row hS1 (intV_get hx2)
          have z4 : (W5.setCell ⟨g1, k, none⟩ (.int .i64 (m : Nat))).frozen? ⟨g1, m, none⟩ = false := frozen_row hS1 m
          have j0 : (0 : Int) ≤ (m : Int) := by omega
          have j1 : (m : Int) < (no : Int) := by omega
          have j2 : IntKind.i64.wrap ((((ll + 1 : Nat) : Int)) - 1) = ll := by simp [IntKind.wrap, IntKind.bits, IntKind.signed]; omega
          have j3 : (ll : Int) < ((ll + 1 : Nat) : Int) := by omega
          have j4 : (0 : Int) ≤ (ll : Int) := by omega
          have HLL := Lib.hid hll
          clear hS1 hS2 hx1 hx2 hl1 hnm hll hE hEE
          go_wp2
          have hne2 : ∀ kk, (Value.slice (some ⟨gs, 0, none⟩) ll c).ownBlock = some kk → kk ≠ g1 := fun kk h e => HNE.out (by rw [e] at h; exact h)
          have hbel2 : Below w.heap.size w ((W5.setCell ⟨g1, k, none⟩ (.int .i64 (m : Nat))).setCell ⟨g1, m, none⟩ (.int .i64 (k : Nat))) := (HB5.out.setCell (by simp only []; omega) _).setCell (by simp only []; omega) _
          have hown2 := own_take HOWN5.out (k := ll) (by omega)
          rw [intV_take, ← HLL.out, stkI_pop, HLL.out] at hown2
          have hown3 := row_keep (w' := (W5.setCell ⟨g1, k, none⟩ (.int .i64 (m : Nat))).setCell ⟨g1, m, none⟩ (.int .i64 (k : Nat))) (fun g hg => (Below.heap_setCell _ _ _ _ (hne2 g hg)).trans (Below.heap_setCell _ _ _ _ (hne2 g hg))) hown2
          go_roundw
          case rel => exact ⟨k + 1, some ⟨gs, 0, none⟩, c, by omega, by go_num, by rw [HN.out, HLL.out], by rw [HN.out]; simp only [HLL.out]; exact hown3, by rw [HN.out]; exact fun h => hne2 _ h rfl, by rw [HN.out]; exact HS2.out, hbel2⟩
          case measure => simp [intOf]; omega
        · have e17 : (kd == 17) = false := by simpa using h17
          have HN := Lib.hid (show endsTo p.ops (k + 1) = endsTo p.ops k by rw [HST.out]; unfold endsStep; rw [if_neg (by rw [HKD.out]; exact h16), if_neg (by rw [HKD.out]; exact h17)])
          clear h16 h17
          go_wp2
          go_roundw
          case rel => exact ⟨k + 1, A, c, by omega, by go_num, by rw [HN.out], by rw [HN.out]; exact row_keep (fun g hg => ((Below.refl _ _).alloc (Nat.le_refl _) _).block g (own_lt HOWN.out g hg).1) HOWN.out, by rw [HN.out]; exact HNE.out, by rw [HN.out]; exact (((Below.refl _ _).alloc (Nat.le_refl _) _).block g1 hwlt).trans HBLK.out, HBEL.out.alloc HBEL.out.size _⟩
          case measure => simp [intOf]; omega
    · have hkn : k = no := by omega
      have HRES := Lib.hid (show wr.heap[g1]? = some (.cells (intV (endsF p.ops)).toArray 3 (0, 0)) by unfold endsF; rw [HNO.out, ← hkn]; exact HBLK.out)
      clear hkn
      go_wp2
      go_ret
      exact ⟨g1, rfl, by omega, HRES.out, HBEL.out⟩

/-- The ends of a program that may be; else none. -/
def endsV (p : LP) : List Int := if (checkF p 64).2 = 0 then endsF p.ops else []
set_option maxRecDepth 100000 in
set_option maxHeartbeats 2000000 in
theorem Ends_any (p : LP) (Ab Ao : Option Addr) (nb cb no co : Nat) (w : World) (hp : ProgAt w (fun k => k < w.heap.size) [.int .i64 p.regs, .slice Ab nb cb, .slice Ao no co] p) (h0 : (checkF p 64).2 = 0) :
    Calls Tryd.prog 51 #[.agg #[.int .i64 p.regs, .slice Ab nb cb, .slice Ao no co]] w fun e w' => ∃ g, e = .returned (.slice (some ⟨g, 0, none⟩) p.ops.length p.ops.length) ∧ w.heap.size ≤ g ∧ w'.heap[g]? = some (.cells (intV (endsF p.ops)).toArray 3 (0, 0)) ∧ Below w.heap.size w w' := by
  obtain ⟨W, hW, hbW, hzW, hcW, _⟩ := boxed w #[.int .i64 p.regs, .slice Ab nb cb, .slice Ao no co] 25
  have c0 : W.cell? ⟨w.heap.size, 0, none⟩ = some (.int .i64 p.regs) := by rw [hcW]; rfl
  have c1 : W.cell? ⟨w.heap.size, 1, none⟩ = some (.slice Ab nb cb) := by rw [hcW]; rfl
  have c2 : W.cell? ⟨w.heap.size, 2, none⟩ = some (.slice Ao no co) := by rw [hcW]; rfl
  have hp1 := prog_next hp hbW
  have HC := Lib.hid (check_any p Ab Ao nb cb no co W hp1)
  have HE := Lib.hid (fun w2 (hb : Below W.heap.size W w2) => ends_any p Ab Ao nb cb no co w2 (prog_next hp1 hb) (check_bal h0) (head_ok (check_run h0).1).2.2.2.1)
  have HW := Lib.hid hW
  have HB := Lib.hid hbW
  have hlt : w.heap.size < W.heap.size := by omega
  rw [h0] at HC
  obtain ⟨x, hx⟩ : ∃ x, (checkF p 64).1 = x := ⟨_, rfl⟩
  rw [hx] at HC
  clear hW hbW hzW hcW hp hp1 hx h0
  go_enter Tryd.func51, Tryd.ntmps51
  go_upto_region 1 with fail
  rw [← HW.out]
  go_upto_region 4 with ((with_reducible refine (HC.out).mono ?_); rintro e w1 ⟨rfl, hb1⟩)
  have HE1 := Lib.hid (HE.out w1 hb1)
  have e0 := (hb1.cell (p := ⟨w.heap.size, 0, none⟩) hlt).trans c0
  have e1 := (hb1.cell (p := ⟨w.heap.size, 1, none⟩) hlt).trans c1
  have e2 := (hb1.cell (p := ⟨w.heap.size, 2, none⟩) hlt).trans c2
  have HB1 := Lib.hid hb1
  clear c0 c1 c2 hb1 hlt
  go_wp2_with ((with_reducible refine (HE1.out).mono ?_); rintro e w2 ⟨g, rfl, hg, hblk, hb2⟩)
  go_ret
  exact ⟨g, rfl, by have := HB1.out.size; have := HB.out.size; omega, hblk, HB.out.trans ((HB1.out.trans (hb2.mono HB1.out.size)).mono HB.out.size)⟩
end Go.Proofs.YtppoiahhaclleaaDoor
