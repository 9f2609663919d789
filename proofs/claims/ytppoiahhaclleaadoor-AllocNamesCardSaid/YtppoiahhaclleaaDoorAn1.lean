/- keysmithlaw14.AllocNames: it returns true: the example of the chapter comes out as it tells. No condition but that the table of math/bits is as its initialiser lays it (the card ties that). -/
import Derived.Test.YtppoiahhaclleaaDoorKeepEx
import Derived.Test.YtppoiahhaclleaaDoorAllocE
import Derived.ChangeKeysEq
import Derived.Laws.StructEq
import Derived.Test.YtppoiahhaclleaaDoorWords14
import Derived.Deep.Slices
import Derived.ProofKit
import Derived.Test.YtppoiahhaclleaaDoorCards
import Derived.Test.YtppoiahhaclleaaDoorTie
import Derived.LaidMore
import Derived.Lib.LaidTab
import Derived.OpenShut
namespace Go.Proofs.YtppoiahhaclleaaDoor
open Go.RowKit

def exP : LP := ⟨3, [], [⟨1, 0, -1, -1, -1, -1, 0, 7⟩, ⟨16, 1, -1, -1, -1, -1, 0, 3⟩, ⟨3, 0, -1, 0, 1, -1, 0, 0⟩, ⟨17, -1, -1, -1, -1, -1, 0, 0⟩]⟩
theorem ex_check : checkF exP 64 = (4, 0) := by decide +kernel
theorem ex_spans : spansF exP = [(0, 3), (1, 3), (-1, -1)] := by decide +kernel
theorem ex_ord : ordTo (spansF exP) 3 = [0, 1] := by rw [ex_spans]; decide +kernel
theorem ex_sort : insF (keyF (spansF exP)) 0 ((ordTo (spansF exP) 3).length - 1) 1 (ordTo (spansF exP) 3) = [0, 1] := by rw [ex_ord, ex_spans]; decide +kernel
def exPl : Nat → Nat → Int | 1, 0 => 0 | 1, _ => -1 | _, k => -1 - k
theorem ex_keeps1 : Keeps (spansF exP) [0, 1] 1 (exPl 1) := by
  rw [ex_spans]
  refine keeps_two (fun | 0 => 1 | _ => 0) (fun | 0 => 18446744073709551615 | 1 => 18446744073709551615 | _ => 18446744073709551614) (0, 3) (1, 3) rfl rfl rfl rfl ?_ ?_ (by decide)
  · intro k; constructor <;> (split <;> omega)
  · intro k hk
    match k, hk with
    | 0, _ => exact .inl ⟨by decide, by decide +kernel, rfl, by decide +kernel⟩
    | 1, _ => exact .inr ⟨rfl, rfl, by decide +kernel, by decide +kernel⟩
theorem ex_keeps0 : Keeps (spansF exP) [0, 1] 0 (exPl 0) := by
  rw [ex_spans]
  refine keeps_two (fun _ => 0) (fun | 0 => 18446744073709551615 | 1 => 18446744073709551614 | _ => 18446744073709551612) (0, 3) (1, 3) rfl rfl rfl rfl ?_ ?_ (by decide)
  · intro k; refine ⟨by omega, ?_⟩; split <;> omega
  · intro k hk
    match k, hk with
    | 0, _ => exact .inr ⟨rfl, rfl, by decide +kernel, by decide +kernel⟩
    | 1, _ => exact .inr ⟨rfl, rfl, by decide +kernel, by decide +kernel⟩
theorem ex_out1 : OF [0, 1] (exPl 1) 3 2 = [0, -1, 0] := by decide +kernel
theorem ex_out0 : OF [0, 1] (exPl 0) 3 2 = [-1, -2, 0] := by decide +kernel
/-- alloc.Build of the example. -/
theorem Build_ex (Ab Ao : Option Addr) (nb cb no co pool : Nat) (out : List Int) (w : World) (hp : ProgAt w (fun k => k < w.heap.size) [.int .i64 3, .slice Ab nb cb, .slice Ao no co] exP) (hT : TzAt w) (ho : pool = 1 ∧ out = [0, -1, 0] ∨ pool = 0 ∧ out = [-1, -2, 0]) :
    Calls Tryd.prog 13 #[.agg #[.int .i64 3, .slice Ab nb cb, .slice Ao no co], .int .i64 (pool : Nat)] w fun e w' => ∃ go, e = .returned (.tuple #[.slice (some ⟨go, 0, none⟩) 3 3, .int .i64 0]) ∧ w.heap.size ≤ go ∧ EndsAt w' go out ∧ Below w.heap.size w w' := by
  have hl : (ordTo (spansF exP) 3).length = 2 := by rw [ex_ord]; rfl
  have h := Build_any exP Ab Ao nb cb no co 3 pool (exPl pool) w hp (by rw [ex_check]) rfl (by omega) hT (by rw [hl]; omega) (by
    rw [ex_sort]
    rcases ho with ⟨rfl, _⟩ | ⟨rfl, _⟩
    · exact ex_keeps1
    · exact ex_keeps0)
  rw [ex_sort, hl] at h
  rcases ho with ⟨rfl, rfl⟩ | ⟨rfl, rfl⟩
  · rw [ex_out1] at h; exact h
  · rw [ex_out0] at h; exact h
end Go.Proofs.YtppoiahhaclleaaDoor

/- The example as the program makes it; lives. -/
namespace Go.Proofs.YtppoiahhaclleaaDoor
open Go.RowKit

set_option maxHeartbeats 1600000 in
theorem op_is (o : LOp) (he : o.e = -1) (hc : o.c = -1) (hb : o.buf = 0) (w : World) : Calls Tryd.prog 45 #[.int .i64 o.kind, .int .i64 o.d, .int .i64 o.a, .int .i64 o.b, .int .u64 o.imm] w fun e w' => e = .returned (.agg (opRow o).toArray) ∧ Below w.heap.size w w' := by
  obtain ⟨kind, d, e, a, b, c, buf, imm⟩ := o
  simp only [] at he hc hb
  subst he hc hb
  obtain ⟨W, hW⟩ : ∃ q, q = w.alloc (.cells (opRow ⟨kind, d, -1, a, b, -1, 0, imm⟩).toArray 47) := ⟨_, rfl⟩
  have hb : Below w.heap.size w W := by rw [hW]; exact (Below.refl _ _).alloc (Nat.le_refl _) _
  have h1 : W.heap[w.heap.size]? = some (.cells (opRow ⟨kind, d, -1, a, b, -1, 0, imm⟩).toArray 47 (0, 0)) := by rw [hW]; exact heap_alloc_new w _
  have HB := Lib.hid hb
  have H1 := Lib.hid h1
  have HW := Lib.hid hW
  clear hW hb h1
  go_enter Tryd.func45, Tryd.ntmps45
  go_wp2
  refine bodyPost_ret (v := .agg (opRow ⟨kind, d, -1, a, b, -1, 0, imm⟩).toArray) (one_result rfl _ _ w.heap.size 47 _ (0, 0) _ rfl (heap_alloc_new w _) Tryd.underlying47 rfl (by kernel_rfl)) rfl ?_
  refine ⟨rfl, ?_⟩
  have := HB.out
  rw [HW.out] at this
  exact this
set_option maxRecDepth 100000 in
set_option maxHeartbeats 4000000 in
theorem example_is (w : World) : Calls Tryd.prog 22 #[] w fun e w' => ∃ go, e = .returned (.agg #[.int .i64 3, .slice none 0 0, .slice (some ⟨go, 0, none⟩) 4 4]) ∧ Below w.heap.size w w' ∧ w'.heap[go]? = some (.cells ((exP.ops.map opRow).flatten).toArray 47 (0, 0)) := by
  have H0 : ∀ W : World, Calls Tryd.prog 45 #[.int .i64 1, .int .i64 0, .int .i64 (-1), .int .i64 (-1), .int .u64 7] W fun e w' => e = .returned (.agg #[.int .i64 1, .int .i64 0, .int .i64 (-1), .int .i64 (-1), .int .i64 (-1), .int .i64 (-1), .int .i64 0, .int .u64 7]) ∧ Below W.heap.size W w' := fun W => op_is ⟨1, 0, -1, -1, -1, -1, 0, 7⟩ rfl rfl rfl W
  have H1 : ∀ W : World, Calls Tryd.prog 45 #[.int .i64 16, .int .i64 1, .int .i64 (-1), .int .i64 (-1), .int .u64 3] W fun e w' => e = .returned (.agg #[.int .i64 16, .int .i64 1, .int .i64 (-1), .int .i64 (-1), .int .i64 (-1), .int .i64 (-1), .int .i64 0, .int .u64 3]) ∧ Below W.heap.size W w' := fun W => op_is ⟨16, 1, -1, -1, -1, -1, 0, 3⟩ rfl rfl rfl W
  have H2 : ∀ W : World, Calls Tryd.prog 45 #[.int .i64 3, .int .i64 0, .int .i64 0, .int .i64 1, .int .u64 0] W fun e w' => e = .returned (.agg #[.int .i64 3, .int .i64 0, .int .i64 (-1), .int .i64 0, .int .i64 1, .int .i64 (-1), .int .i64 0, .int .u64 0]) ∧ Below W.heap.size W w' := fun W => op_is ⟨3, 0, -1, 0, 1, -1, 0, 0⟩ rfl rfl rfl W
  have H3 : ∀ W : World, Calls Tryd.prog 45 #[.int .i64 17, .int .i64 (-1), .int .i64 (-1), .int .i64 (-1), .int .u64 0] W fun e w' => e = .returned (.agg #[.int .i64 17, .int .i64 (-1), .int .i64 (-1), .int .i64 (-1), .int .i64 (-1), .int .i64 (-1), .int .i64 0, .int .u64 0]) ∧ Below W.heap.size W w' := fun W => op_is ⟨17, -1, -1, -1, -1, -1, 0, 0⟩ rfl rfl rfl W
  obtain ⟨W, hW⟩ : ∃ q, q = w.alloc (.cells #[.int .i64 0, .slice none 0 0, .slice none 0 0] 25) := ⟨_, rfl⟩
  have hb : Below w.heap.size w W := by rw [hW]; exact (Below.refl _ _).alloc (Nat.le_refl _) _
  have h1 : W.heap[w.heap.size]? = some (.cells #[.int .i64 0, .slice none 0 0, .slice none 0 0] 25 (0, 0)) := by rw [hW]; exact heap_alloc_new w _
  have HB := Lib.hid hb
  have HC := Lib.hid h1
  have HW := Lib.hid hW
  have K0 := Lib.hid H0
  have K1 := Lib.hid H1
  have K2 := Lib.hid H2
  have K3 := Lib.hid H3
  clear hW hb h1 H0 H1 H2 H3
  go_enter Tryd.func22, Tryd.ntmps22
  go_upto_region 1 with fail
  rw [← HW.out]
  go_wp2_with (first | ((with_reducible refine (K0.out _).mono ?_); rintro e w1 ⟨rfl, hb1⟩; have HB1 := Lib.hid hb1; clear hb1) | ((with_reducible refine (K1.out _).mono ?_); rintro e w2 ⟨rfl, hb1⟩; have HB2 := Lib.hid hb1; clear hb1) | ((with_reducible refine (K2.out _).mono ?_); rintro e w3 ⟨rfl, hb1⟩; have HB3 := Lib.hid hb1; clear hb1) | ((with_reducible refine (K3.out _).mono ?_); rintro e w4 ⟨rfl, hb1⟩; have HB4 := Lib.hid (HB1.out.trans ((HB2.out.trans ((HB3.out.trans (hb1.mono HB3.out.size)).mono HB2.out.size)).mono HB1.out.size)); clear hb1; have HC4 := Lib.hid ((HB4.out.block w.heap.size (lt_of_block HC.out)).trans HC.out); have HA := Lib.hid (fun x => (Below.heap_alloc w4 x _ (lt_of_block HC4.out)).trans HC4.out); have a0 := fun x => cell_row (row := [_, _, _]) (HA.out x) (k := 0) rfl; have a1 := fun x => cell_row (row := [_, _, _]) (HA.out x) (k := 1) rfl; have a2 := fun x => cell_row (row := [_, _, _]) (HA.out x) (k := 2) rfl; have a3 := fun x k => frozen_row (row := [_, _, _]) (HA.out x) k))
  have hset := setCell_row (setCell_row (setCell_row (row := [_, _, _]) (HA.out (.cells ((exP.ops.map opRow).flatten).toArray 47)) 0 (.int .i64 3)) 1 (.slice none 0 0)) 2 (.slice (some ⟨w4.heap.size, 0, none⟩) 4 4)
  refine bodyPost_ret (v := .agg #[.int .i64 3, .slice none 0 0, .slice (some ⟨w4.heap.size, 0, none⟩) 4 4]) (one_result rfl _ _ w.heap.size 25 #[.int .i64 3, .slice none 0 0, .slice (some ⟨w4.heap.size, 0, none⟩) 4 4] (0, 0) _ rfl hset Tryd.underlying25 rfl (by kernel_rfl)) rfl ?_
  have hz : w.heap.size < W.heap.size := lt_of_block HC.out
  have hz4 := HB4.out.size
  refine ⟨w4.heap.size, rfl, ?_, ?_⟩
  · exact ((((HB.out.trans (HB4.out.mono HB.out.size)).alloc (Nat.le_trans HB.out.size hz4) _).setCell (Nat.le_refl _) _).setCell (Nat.le_refl _) _).setCell (Nat.le_refl _) _
  · have hne : w4.heap.size ≠ w.heap.size := by omega
    exact (Below.heap_setCell _ _ _ _ hne).trans ((Below.heap_setCell _ _ _ _ hne).trans ((Below.heap_setCell _ _ _ _ hne).trans (heap_alloc_new w4 _)))
theorem ex_at {w : World} {go : Nat} (h : w.heap[go]? = some (.cells ((exP.ops.map opRow).flatten).toArray 47 (0, 0))) : ProgAt w (fun k => k < w.heap.size) [.int .i64 3, .slice none 0 0, .slice (some ⟨go, 0, none⟩) 4 4] exP := by
  have hown : w.ownsRow 0 47 8 (.slice (some ⟨go, 0, none⟩) 4 4) (exP.ops.map opRow).length ((exP.ops.map opRow).flatten) := ⟨rfl, .inr ⟨go, 4, _, rfl, Nat.zero_le _, h, by decide, by decide, rfl, rfl⟩⟩
  refine ⟨⟨_, _, rfl, ⟨none, 0, rfl, by simp [exP], by intro r hr; simp [exP] at hr, fun h => absurd rfl h⟩, (rows_own hown (by intro r hr; obtain ⟨x, _, rfl⟩ := List.mem_map.1 hr; rfl)).mono fun k hk => (own_lt hown k hk).1⟩, by decide, by decide, by decide, by decide⟩
end Go.Proofs.YtppoiahhaclleaaDoor


/- keysmithkit.Same of rows of two ints. -/
namespace Go.Proofs.YtppoiahhaclleaaDoor
open Go.RowKit

theorem eq_two (a b c d : Int) (w : World) : (Op.equalIn 10000 43 (.agg #[.int .i64 a, .int .i64 b]) (.agg #[.int .i64 c, .int .i64 d])).run Tryd.prog w = .ok (a == c && b == d) w := by
  obtain ⟨j0, hie, hy0, hy1, hy2⟩ := info_parts infoI
  rw [show (10000 : Nat) = 9999 + 1 from rfl, run_equalIn_array w 9999 _ _ Tryd.underlying43 hie, show List.range 2 = [0, 1] from rfl, show Tryd.prog.cellsOf 3 = 1 by kernel_rfl]
  have hp : ∀ (x y : Int) (w : World), (part 3 #[.int .i64 x, .int .i64 y] 0).run Tryd.prog w = .ok (.int .i64 x) w ∧ (part 3 #[.int .i64 x, .int .i64 y] 1).run Tryd.prog w = .ok (.int .i64 y) w := fun x y w => by
    constructor <;> (go_simp; try rfl)
  have he : ∀ (x y : Int) (w : World), (Op.equalIn 9999 3 (.int .i64 x) (.int .i64 y)).run Tryd.prog w = .ok (x == y) w := fun x y w => run_equalIn_int (P := Tryd.prog) w 9998 3 .i64 .i64 x y Tryd.underlying3
  cases hac : (a == c) <;> cases hbd : (b == d) <;> simp [Op.eqItems, Sem.run_bind, (hp a b w).1, (hp a b w).2, (hp c d w).1, (hp c d w).2, he, hac, hbd]
theorem rows2_at {w : World} {F : Nat → Prop} {A : Option Addr} {n c : Nat} {a : List (Int × Int)} (h : Rows w F 2 (.slice A n c) (a.map spanRow)) {k : Nat} {s : Int × Int} (hk : a[k]? = some s) :
    ∃ b off, A = some ⟨b, off, none⟩ ∧ F b ∧ w.cell? ⟨b, off + k * 2, none⟩ = some (.int .i64 s.1) ∧ w.cell? ⟨b, off + k * 2 + 1, none⟩ = some (.int .i64 s.2) := by
  obtain ⟨A', c', hv, _, _, hh⟩ := h
  cases hv
  obtain ⟨b, off, rfl, hF, hc⟩ := hh (by intro e; rw [List.map_eq_nil_iff] at e; rw [e] at hk; cases hk)
  have hr : (a.map spanRow)[k]? = some (spanRow s) := by rw [List.getElem?_map, hk]; rfl
  exact ⟨b, off, rfl, hF, by simpa using hc k 0 _ _ hr rfl, hc k 1 _ _ hr rfl⟩
theorem take_eq {T : Type} {a b : List T} {k : Nat} {x y : T} (h : a.take k = b.take k) (hx : a[k]? = some x) (hy : b[k]? = some y) : a.take (k + 1) = b.take (k + 1) ↔ x = y := by
  rw [List.take_add_one, List.take_add_one, hx, hy, h]
  simp
set_option maxRecDepth 100000 in
set_option maxHeartbeats 4000000 in
theorem Same2_any (v u : Value) (w : World) (F : Nat → Prop) (a b : List (Int × Int)) (hn : a.length ≤ 1000) (hm : b.length ≤ 1000) (ha : Rows w F 2 v (a.map spanRow)) (hb : Rows w F 2 u (b.map spanRow)) (hF : ∀ k, F k → k < w.heap.size) :
    Calls Tryd.prog 25 #[v, u] w fun e w' => e = .returned (.bool (decide (a = b))) ∧ Below w.heap.size w w' := by
  obtain ⟨A, c, rfl, _⟩ := rows_form ha
  obtain ⟨B, d, rfl, _⟩ := rows_form hb
  obtain ⟨n, hna⟩ : ∃ n, a.length = n := ⟨_, rfl⟩
  obtain ⟨m, hmb⟩ : ∃ n, b.length = n := ⟨_, rfl⟩
  rw [hna] at ha hn ⊢
  rw [hmb] at hb hm ⊢
  have HA := Lib.hid ha
  have HB := Lib.hid hb
  have HF := Lib.hid hF
  have HL := Lib.hid (And.intro hna hmb)
  clear ha hb hF hna hmb
  by_cases hnm : n = m
  · subst hnm
    have q0 : ((n : Int) != (n : Int)) = false := by simp
    go_enter Tryd.func25, Tryd.ntmps25
    go_wp2
    go_loopw [5] (fun j wr => ∃ k : Nat, k ≤ n ∧ j = .int .i64 k ∧ Below w.heap.size w wr ∧ Hid (a.take k = b.take k)) (fun j _ => n - (intOf j).toNat)
    case atStart => exact ⟨0, by omega, rfl, Below.refl _ _, rfl⟩
    case round =>
      obtain ⟨k, hk, rfl, hbl, HT⟩ := hrel
      have HBL := Lib.hid hbl
      clear hbl
      by_cases hlt : k < n
      · obtain ⟨s, hs⟩ : ∃ s, a[k]? = some s := ⟨_, List.getElem?_eq_getElem (by have := HL.out.1; omega)⟩
        obtain ⟨t, ht⟩ : ∃ s, b[k]? = some s := ⟨_, List.getElem?_eq_getElem (by have := HL.out.2; omega)⟩
        obtain ⟨ba, oa, rfl, hFa, p0, p1⟩ := rows2_at HA.out hs
        obtain ⟨bb, ob, rfl, hFb, r0, r1⟩ := rows2_at HB.out ht
        have HTE := Lib.hid (take_eq HT.out hs ht)
        obtain ⟨x0, x1⟩ := s
        obtain ⟨y0, y1⟩ := t
        simp only [] at p0 p1 r0 r1
        have HCC := Lib.hid (And.intro ((HBL.out.cell (p := ⟨ba, oa + k * 2, none⟩) (HF.out _ hFa)).trans p0) (And.intro ((HBL.out.cell (p := ⟨ba, oa + k * 2 + 1, none⟩) (HF.out _ hFa)).trans p1) (And.intro ((HBL.out.cell (p := ⟨bb, ob + k * 2, none⟩) (HF.out _ hFb)).trans r0) ((HBL.out.cell (p := ⟨bb, ob + k * 2 + 1, none⟩) (HF.out _ hFb)).trans r1))))
        have i0 : (0 : Int) ≤ (k : Int) := by omega
        have i1 : (k : Int) < (n : Int) := by omega
        have q1 : IntKind.i64.wrap (k : Int) = k := by rw [IntKind.wrap_i64]; omega
        clear hs ht p0 p1 r0 r1 hFa hFb
        cases d0 : (x0 == y0)
        · have HNE := Lib.hid (show ¬ ((x0, x1) = (y0, y1)) from fun e => by cases e; simp at d0)
          have heq := fun w => eq_two x0 x1 y0 y1 w
          rw [d0, Bool.false_and] at heq
          go_wp2
          (refine wp_region_lines (fun w_ => w_.cell? ⟨ba, oa + k * 2, none⟩ = some (.int .i64 x0) ∧ w_.cell? ⟨ba, oa + k * 2 + 1, none⟩ = some (.int .i64 x1) ∧ w_.cell? ⟨bb, ob + k * 2, none⟩ = some (.int .i64 y0) ∧ w_.cell? ⟨bb, ob + k * 2 + 1, none⟩ = some (.int .i64 y1)) (by kernel_rfl) (by kernel_rfl) HCC.out ?_)
          (try simp only [])
          repeat (first | (refine runL_no (by rfl) ?_; (try simp only [Act.put, List.setIfInBounds_toArray, List.set_cons_zero, List.set_cons_succ])) | (refine runL_val (v := ?_) (by rfl) ?_ ?_; rotate_left; (focus (intro w_ hw_; obtain ⟨f1_, f2_, f3_, f4_⟩ := hw_; go_simp; (try with_reducible rfl); done)); (try simp only [Act.put, List.setIfInBounds_toArray, List.set_cons_zero, List.set_cons_succ])))
          (refine runL_nil ?_)
          go_wp2
          go_ret
          exact ⟨ret_bool (by symm; exact decide_eq_false (fun e => HNE.out (HTE.out.1 (by rw [e])))), HBL.out.drew⟩
        · cases d1 : (x1 == y1)
          · have HNE := Lib.hid (show ¬ ((x0, x1) = (y0, y1)) from fun e => by cases e; simp at d1)
            have heq := fun w => eq_two x0 x1 y0 y1 w
            rw [d0, d1, Bool.and_false] at heq
            go_wp2
            (refine wp_region_lines (fun w_ => w_.cell? ⟨ba, oa + k * 2, none⟩ = some (.int .i64 x0) ∧ w_.cell? ⟨ba, oa + k * 2 + 1, none⟩ = some (.int .i64 x1) ∧ w_.cell? ⟨bb, ob + k * 2, none⟩ = some (.int .i64 y0) ∧ w_.cell? ⟨bb, ob + k * 2 + 1, none⟩ = some (.int .i64 y1)) (by kernel_rfl) (by kernel_rfl) HCC.out ?_)
            (try simp only [])
            repeat (first | (refine runL_no (by rfl) ?_; (try simp only [Act.put, List.setIfInBounds_toArray, List.set_cons_zero, List.set_cons_succ])) | (refine runL_val (v := ?_) (by rfl) ?_ ?_; rotate_left; (focus (intro w_ hw_; obtain ⟨f1_, f2_, f3_, f4_⟩ := hw_; go_simp; (try with_reducible rfl); done)); (try simp only [Act.put, List.setIfInBounds_toArray, List.set_cons_zero, List.set_cons_succ])))
            (refine runL_nil ?_)
            go_wp2
            go_ret
            exact ⟨ret_bool (by symm; exact decide_eq_false (fun e => HNE.out (HTE.out.1 (by rw [e])))), HBL.out.drew⟩
          · have HEQ := Lib.hid (show (x0, x1) = (y0, y1) by rw [eq_of_beq d0, eq_of_beq d1])
            have heq := fun w => eq_two x0 x1 y0 y1 w
            rw [d0, d1, Bool.and_true] at heq
            go_wp2
            (refine wp_region_lines (fun w_ => w_.cell? ⟨ba, oa + k * 2, none⟩ = some (.int .i64 x0) ∧ w_.cell? ⟨ba, oa + k * 2 + 1, none⟩ = some (.int .i64 x1) ∧ w_.cell? ⟨bb, ob + k * 2, none⟩ = some (.int .i64 y0) ∧ w_.cell? ⟨bb, ob + k * 2 + 1, none⟩ = some (.int .i64 y1)) (by kernel_rfl) (by kernel_rfl) HCC.out ?_)
            (try simp only [])
            repeat (first | (refine runL_no (by rfl) ?_; (try simp only [Act.put, List.setIfInBounds_toArray, List.set_cons_zero, List.set_cons_succ])) | (refine runL_val (v := ?_) (by rfl) ?_ ?_; rotate_left; (focus (intro w_ hw_; obtain ⟨f1_, f2_, f3_, f4_⟩ := hw_; go_simp; (try with_reducible rfl); done)); (try simp only [Act.put, List.setIfInBounds_toArray, List.set_cons_zero, List.set_cons_succ])))
            (refine runL_nil ?_)
            go_wp2
            go_roundw
            case rel => exact ⟨k + 1, by omega, by go_num, HBL.out.drew, HTE.out.2 HEQ.out⟩
            case measure => simp [intOf]; omega
      · have hkn : k = n := by omega
        subst hkn
        have hab : a = b := by
          have h := HT.out
          rw [List.take_of_length_le (by rw [HL.out.1]; exact Nat.le_refl _), List.take_of_length_le (by rw [HL.out.2]; exact Nat.le_refl _)] at h
          exact h
        have HAB := Lib.hid hab
        clear hab
        go_wp2
        go_ret
        exact ⟨ret_bool (by symm; exact decide_eq_true HAB.out), HBL.out⟩
  · have q0 : ((n : Int) != (m : Int)) = true := by simp; omega
    have HNM := Lib.hid (show ¬ a = b from fun e => hnm (by rw [← HL.out.1, ← HL.out.2, e]))
    clear hnm
    go_enter Tryd.func25, Tryd.ntmps25
    go_wp2
    go_ret
    exact ⟨ret_bool (by symm; exact decide_eq_false HNM.out), Below.refl _ _⟩
end Go.Proofs.YtppoiahhaclleaaDoor

/- lives: true. -/
namespace Go.Proofs.YtppoiahhaclleaaDoor
open Go.RowKit

theorem ex_p1 : placesF exP 1 [0, -1, 0] = 0 := by decide +kernel
theorem ex_p2 : placesF exP 2 [0, 0, 0] = 6 := by decide +kernel
theorem ex_same {A : Option Addr} {c : Nat} {F : Nat → Prop} (w : World) (hr : Rows w F 2 (.slice A 3 c) ((spansF exP).map spanRow)) (hF : ∀ k, F k → k < w.heap.size) :
    Calls Tryd.prog 25 #[.slice A 3 c, .slice (some ⟨w.heap.size, 0, none⟩) 3 3] (w.alloc (.cells #[.int .i64 0, .int .i64 3, .int .i64 1, .int .i64 3, .int .i64 (-1), .int .i64 (-1)] 43)) fun e w' => e = .returned (.bool true) ∧ Below w.heap.size w w' := by
  have hb : Below w.heap.size w (w.alloc (.cells #[.int .i64 0, .int .i64 3, .int .i64 1, .int .i64 3, .int .i64 (-1), .int .i64 (-1)] 43)) := (Below.refl _ _).alloc (Nat.le_refl _) _
  obtain ⟨W, hW⟩ : ∃ q, q = w.alloc (.cells #[.int .i64 0, .int .i64 3, .int .i64 1, .int .i64 3, .int .i64 (-1), .int .i64 (-1)] 43) := ⟨_, rfl⟩
  have h1 : W.heap[w.heap.size]? = some (.cells #[.int .i64 0, .int .i64 3, .int .i64 1, .int .i64 3, .int .i64 (-1), .int .i64 (-1)] 43 (0, 0)) := by rw [hW]; exact heap_alloc_new w _
  rw [← hW] at hb ⊢
  have hown : W.ownsRow 0 43 2 (.slice (some ⟨w.heap.size, 0, none⟩) 3 3) (([(0, 3), (1, 3), (-1, -1)] : List (Int × Int)).map spanRow).length ((([(0, 3), (1, 3), (-1, -1)] : List (Int × Int)).map spanRow).flatten) := ⟨rfl, .inr ⟨w.heap.size, 3, _, rfl, Nat.zero_le _, h1, by decide, by decide, rfl, rfl⟩⟩
  have h := Same2_any _ _ W (fun k => k < W.heap.size) (spansF exP) [(0, 3), (1, 3), (-1, -1)] (by rw [ex_spans]; decide) (by decide) ((Rows.keep hr (SameOn.of_below hb hF)).mono fun k hk => Nat.lt_of_lt_of_le (hF k hk) hb.size) ((rows_own hown (by intro r hr; obtain ⟨x, _, rfl⟩ := List.mem_map.1 hr; rfl)).mono fun k hk => (own_lt hown k hk).1) (fun _ h => h)
  rw [ex_spans] at h
  refine h.mono ?_
  rintro e w' ⟨rfl, hb'⟩
  exact ⟨rfl, hb.trans (hb'.mono hb.size)⟩
theorem ex_chk2 {go : Nat} (w : World) (hx : w.heap[go]? = some (.cells ((exP.ops.map opRow).flatten).toArray 47 (0, 0))) :
    Calls Tryd.prog 24 #[.agg #[.int .i64 3, .slice none 0 0, .slice (some ⟨go, 0, none⟩) 4 4], .int .i64 2, .slice (some ⟨w.heap.size, 0, none⟩) 3 3] (w.alloc (.cells #[.int .i64 0, .int .i64 0, .int .i64 0] 3)) fun e w' => e = .returned (.int .i64 6) ∧ Below w.heap.size w w' := by
  have hb : Below w.heap.size w (w.alloc (.cells #[.int .i64 0, .int .i64 0, .int .i64 0] 3)) := (Below.refl _ _).alloc (Nat.le_refl _) _
  obtain ⟨W, hW⟩ : ∃ q, q = w.alloc (.cells #[.int .i64 0, .int .i64 0, .int .i64 0] 3) := ⟨_, rfl⟩
  have h1 : W.heap[w.heap.size]? = some (.cells (intV [0, 0, 0]).toArray 3 (0, 0)) := by rw [hW]; exact heap_alloc_new w _
  rw [← hW] at hb ⊢
  have h := acheck_any exP none (some ⟨go, 0, none⟩) (some ⟨w.heap.size, 0, none⟩) 0 0 4 4 3 3 2 [0, 0, 0] W (ex_at ((hb.block go (lt_of_block hx)).trans hx)) ((nums_blk h1).mono fun k hk => by subst hk; exact lt_of_block h1)
  rw [ex_p2] at h
  refine h.mono ?_
  rintro e w' ⟨rfl, hb'⟩
  exact ⟨rfl, hb.trans (hb'.mono hb.size)⟩
theorem ex_chk1 {go gl : Nat} (w : World) (hx : w.heap[go]? = some (.cells ((exP.ops.map opRow).flatten).toArray 47 (0, 0))) (hl : EndsAt w gl [0, -1, 0]) :
    Calls Tryd.prog 24 #[.agg #[.int .i64 3, .slice none 0 0, .slice (some ⟨go, 0, none⟩) 4 4], .int .i64 1, .slice (some ⟨gl, 0, none⟩) 3 3] w fun e w' => e = .returned (.int .i64 0) ∧ Below w.heap.size w w' := by
  have h := acheck_any exP none (some ⟨go, 0, none⟩) (some ⟨gl, 0, none⟩) 0 0 4 4 3 3 1 [0, -1, 0] w (ex_at hx) ((nums_blk hl).mono fun k hk => by subst hk; exact lt_of_block hl)
  rw [ex_p1] at h
  exact h
set_option maxRecDepth 100000 in
set_option maxHeartbeats 8000000 in
theorem lives_is (w : World) (hT : TzAt w) : Calls Tryd.prog 7 #[] w fun e w' => e = .returned (.bool true) ∧ Below w.heap.size w w' := by
  have hw0 : 0 < w.heap.size := lt_cell (hT 0 (by decide))
  have HE := Lib.hid (example_is w)
  have HT := Lib.hid hT
  have HW0 := Lib.hid hw0
  clear hT hw0
  go_enter Tryd.func7, Tryd.ntmps7
  go_upto_region 2 with ((with_reducible refine (HE.out).mono ?_); rintro e w1 ⟨go, rfl, hb1, hops⟩; have H1 := Lib.hid (And.intro hb1 hops); clear hb1 hops)
  obtain ⟨W, hW⟩ : ∃ q, q = w1.alloc (.cells #[.int .i64 3, .slice none 0 0, .slice (some ⟨go, 0, none⟩) 4 4] 25) := ⟨_, rfl⟩
  rw [← hW]
  obtain ⟨gp, hgp⟩ : ∃ q, w1.heap.size = q := ⟨_, rfl⟩
  rw [hgp]
  have hbW : Below w1.heap.size w1 W := by rw [hW]; exact (Below.refl _ _).alloc (Nat.le_refl _) _
  have hp : W.heap[gp]? = some (.cells #[.int .i64 3, .slice none 0 0, .slice (some ⟨go, 0, none⟩) 4 4] 25 (0, 0)) := by rw [hW, ← hgp]; exact heap_alloc_new w1 _
  have HB := Lib.hid (show Below w.heap.size w W from H1.out.1.trans (hbW.mono H1.out.1.size))
  have HP := Lib.hid hp
  have HX := Lib.hid (show W.heap[go]? = some (.cells ((exP.ops.map opRow).flatten).toArray 47 (0, 0)) from (hbW.block go (lt_of_block H1.out.2)).trans H1.out.2)
  have HAT := Lib.hid (fun wr (hb : Below W.heap.size W wr) => ex_at ((hb.block go (lt_of_block HX.out)).trans HX.out))
  have HPR := Lib.hid (fun wr (hb : Below W.heap.size W wr) => (hb.block gp (lt_of_block HP.out)).trans HP.out)
  have HBU := Lib.hid (show Calls Tryd.prog 13 #[.agg #[.int .i64 3, .slice none 0 0, .slice (some ⟨go, 0, none⟩) 4 4], .int .i64 1] W _ from Build_ex none (some ⟨go, 0, none⟩) 0 0 4 4 1 [0, -1, 0] W (HAT.out W (Below.refl _ _)) (HT.out.next HB.out HW0.out) (.inl ⟨rfl, rfl⟩))
  have c0 : W.cell? ⟨gp, 0, none⟩ = some (.int .i64 3) := cell_row (row := [_, _, _]) HP.out rfl
  have c1 : W.cell? ⟨gp, 1, none⟩ = some (.slice none 0 0) := cell_row (row := [_, _, _]) HP.out rfl
  have c2 : W.cell? ⟨gp, 2, none⟩ = some (.slice (some ⟨go, 0, none⟩) 4 4) := cell_row (row := [_, _, _]) HP.out rfl
  clear hW hbW hp hgp
  go_upto_region 3 with ((with_reducible refine (HBU.out).mono ?_); rintro e w2 ⟨gl, rfl, hgl, hel, hb2⟩; have H2 := Lib.hid (And.intro hgl (And.intro hel hb2)); clear hgl hel hb2)
  clear c0 c1 c2
  have c0 : w2.cell? ⟨gp, 0, none⟩ = some (.int .i64 3) := cell_row (row := [_, _, _]) (HPR.out w2 H2.out.2.2) rfl
  have c1 : w2.cell? ⟨gp, 1, none⟩ = some (.slice none 0 0) := cell_row (row := [_, _, _]) (HPR.out w2 H2.out.2.2) rfl
  have c2 : w2.cell? ⟨gp, 2, none⟩ = some (.slice (some ⟨go, 0, none⟩) 4 4) := cell_row (row := [_, _, _]) (HPR.out w2 H2.out.2.2) rfl
  have HX2 := Lib.hid ((H2.out.2.2.block go (lt_of_block HX.out)).trans HX.out)
  have HLV := Lib.hid (show Calls Tryd.prog 20 #[.agg #[.int .i64 3, .slice none 0 0, .slice (some ⟨go, 0, none⟩) 4 4]] w2 _ from Live_ok exP none (some ⟨go, 0, none⟩) 0 0 4 4 3 w2 (HAT.out w2 H2.out.2.2) (by rw [ex_check]) rfl)
  go_wp2_with (first | ((with_reducible refine (HLV.out).mono ?_); rintro e w3 ⟨A3, c3, rfl, hb3, hr3⟩; have HL3 := Lib.hid (EndsAt.chg (P := fun _ => False) H2.out.2.1 (.of_below hb3) id); have HSM := Lib.hid (ex_same w3 hr3 (fun _ h => h.2)); have H3 := Lib.hid (H2.out.2.2.trans (hb3.mono H2.out.2.2.size)); clear hb3 hr3) | ((with_reducible refine (HSM.out).mono ?_); rintro e w4 ⟨rfl, hb4⟩; have H4 := Lib.hid (H3.out.trans (hb4.mono H3.out.size)); have HD4 := Lib.hid (H4.out.block gp (lt_of_block HP.out)); have d0 : w4.cell? ⟨gp, 0, none⟩ = some (.int .i64 3) := cell_row (row := [_, _, _]) (HPR.out w4 H4.out) rfl; have d1 : w4.cell? ⟨gp, 1, none⟩ = some (.slice none 0 0) := cell_row (row := [_, _, _]) (HPR.out w4 H4.out) rfl; have d2 : w4.cell? ⟨gp, 2, none⟩ = some (.slice (some ⟨go, 0, none⟩) 4 4) := cell_row (row := [_, _, _]) (HPR.out w4 H4.out) rfl; have HK1 := Lib.hid (ex_chk1 (go := go) (gl := gl) w4 ((H4.out.block go (lt_of_block HX.out)).trans HX.out) (EndsAt.chg (P := fun _ => False) HL3.out (.of_below hb4) id)); clear hb4) | ((with_reducible refine (HK1.out).mono ?_); rintro e w5 ⟨rfl, hb5⟩; have H5 := Lib.hid (H4.out.trans (hb5.mono H4.out.size)); have f0 : w5.cell? ⟨gp, 0, none⟩ = some (.int .i64 3) := cell_row (row := [_, _, _]) (HPR.out w5 H5.out) rfl; have f1 : w5.cell? ⟨gp, 1, none⟩ = some (.slice none 0 0) := cell_row (row := [_, _, _]) (HPR.out w5 H5.out) rfl; have f2 : w5.cell? ⟨gp, 2, none⟩ = some (.slice (some ⟨go, 0, none⟩) 4 4) := cell_row (row := [_, _, _]) (HPR.out w5 H5.out) rfl; have HK2 := Lib.hid (ex_chk2 (go := go) w5 ((H5.out.block go (lt_of_block HX.out)).trans HX.out)); clear hb5) | ((with_reducible refine (HK2.out).mono ?_); rintro e w6 ⟨rfl, hb6⟩; have H6 := Lib.hid (H5.out.trans (hb6.mono H5.out.size)); clear hb6))
  go_ret
  exact ⟨rfl, HB.out.trans (H6.out.mono HB.out.size)⟩
end Go.Proofs.YtppoiahhaclleaaDoor

/- alloc.Slots, ref14.Slots: the same plain function. -/
namespace Go.Proofs.YtppoiahhaclleaaDoor
open Go.RowKit

def slotsF (l : List Int) : Int := l.foldl (fun n p => max n (-p)) 0
theorem slots_snoc (l : List Int) {k : Nat} {p : Int} (h : l[k]? = some p) : slotsF (l.take (k + 1)) = max (slotsF (l.take k)) (-p) := by
  unfold slotsF; rw [List.take_add_one, h, Option.toList_some, List.foldl_append]; rfl
theorem slots_from (l : List Int) : ∀ n : Int, 0 ≤ n → 0 ≤ l.foldl (fun n p => max n (-p)) n := by
  induction l with
  | nil => exact fun n h => h
  | cons x l ih => exact fun n h => ih _ (show 0 ≤ max n (-x) by omega)
theorem slots_nn (l : List Int) : 0 ≤ slotsF l := slots_from l 0 (by omega)
theorem slots_up (l : List Int) (h : ∀ p ∈ l, -1099511627776 ≤ p) : ∀ n : Int, n ≤ 1099511627776 → l.foldl (fun n p => max n (-p)) n ≤ 1099511627776 := by
  induction l with
  | nil => exact fun n h => h
  | cons x l ih => exact fun n hn => ih (fun p hp => h p (List.mem_cons_of_mem _ hp)) _ (show max n (-x) ≤ 1099511627776 by have := h x (List.mem_cons_self); omega)
theorem slots_hi (l : List Int) (h : ∀ p ∈ l, -1099511627776 ≤ p) : slotsF l ≤ 1099511627776 := slots_up l h 0 (by omega)
theorem slots_take (l : List Int) (h : ∀ p ∈ l, -1099511627776 ≤ p) (k : Nat) : slotsF (l.take k) ≤ 1099511627776 := slots_hi _ fun p hp => h p (List.mem_of_mem_take hp)

set_option maxRecDepth 100000 in
set_option maxHeartbeats 1000000 in
theorem Slots_any (l : List Int) (A : Option Addr) (n c : Nat) (w : World) (hl : NumsAt w (fun k => k < w.heap.size) (.slice A n c) l) (h : ∀ p ∈ l, -1099511627776 ≤ p ∧ p ≤ 9223372036854775807) (hn : n ≤ 140737488355328) :
    Calls Tryd.prog 23 #[.slice A n c] w fun e w' => e = .returned (.int .i64 (slotsF l)) ∧ w = w' := by
  obtain rfl : l.length = n := by obtain ⟨A, c, h1, _⟩ := rows_form hl; cases h1; rfl
  go_enter Tryd.func23, Tryd.ntmps23
  go_wp2
  go_loop [3, 8] (fun m i => ∃ k : Nat, k ≤ l.length ∧ i = .int .i64 k ∧ m = .int .i64 (slotsF (l.take k))) (fun _ i => l.length - (intOf i).toNat)
  case atStart => exact ⟨0, Nat.zero_le _, rfl, rfl⟩
  case round =>
    obtain ⟨k, hk, rfl, rfl⟩ := hrel
    by_cases hlt : k < l.length
    · obtain ⟨p, hp⟩ : ∃ p, l[k]? = some p := ⟨_, List.getElem?_eq_getElem (by omega)⟩
      obtain ⟨b, o, rfl, hF, hc⟩ := hl.at_ hp
      have hb := h p (List.mem_of_getElem? hp)
      have HS := Lib.hid (slots_snoc l hp)
      have q0 := slots_nn (l.take k)
      have q1 := slots_take l (fun p hp => (h p hp).1) k
      have i0 : (0 : Int) ≤ (k : Int) := by omega
      have i1 : (k : Int) < (l.length : Int) := by omega
      obtain ⟨hb0, hb1⟩ := hb
      generalize slotsF (l.take k) = m at HS q0 q1 ⊢
      clear hp hF
      go_wp2
      go_round
      case rel => exact ⟨k + 1, by omega, by go_num, by rw [HS.out, show max m (-p) = if m < -p then -p else m by split <;> omega]⟩
      case measure => simp [intOf]; omega
    · go_wp2
      go_ret
      exact ⟨by rw [List.take_of_length_le (by omega)]; rfl, rfl⟩

set_option maxRecDepth 100000 in
set_option maxHeartbeats 1000000 in
theorem Rslots_any (l : List Int) (A : Option Addr) (n c : Nat) (w : World) (hl : NumsAt w (fun k => k < w.heap.size) (.slice A n c) l) (h : ∀ p ∈ l, -1099511627776 ≤ p ∧ p ≤ 9223372036854775807) (hn : n ≤ 140737488355328) :
    Calls Tryd.prog 26 #[.slice A n c] w fun e w' => e = .returned (.int .i64 (slotsF l)) ∧ w = w' := by
  obtain rfl : l.length = n := by obtain ⟨A, c, h1, _⟩ := rows_form hl; cases h1; rfl
  go_enter Tryd.func26, Tryd.ntmps26
  go_wp2
  go_loop [3, 4] (fun m i => ∃ k : Nat, k ≤ l.length ∧ i = .int .i64 k ∧ m = .int .i64 (slotsF (l.take k))) (fun _ i => l.length - (intOf i).toNat)
  case atStart => exact ⟨0, Nat.zero_le _, rfl, rfl⟩
  case round =>
    obtain ⟨k, hk, rfl, rfl⟩ := hrel
    by_cases hlt : k < l.length
    · obtain ⟨p, hp⟩ : ∃ p, l[k]? = some p := ⟨_, List.getElem?_eq_getElem (by omega)⟩
      obtain ⟨b, o, rfl, hF, hc⟩ := hl.at_ hp
      have hb := h p (List.mem_of_getElem? hp)
      have HS := Lib.hid (slots_snoc l hp)
      have q0 := slots_nn (l.take k)
      have q1 := slots_take l (fun p hp => (h p hp).1) k
      have i0 : (0 : Int) ≤ (k : Int) := by omega
      have i1 : (k : Int) < (l.length : Int) := by omega
      obtain ⟨hb0, hb1⟩ := hb
      generalize slotsF (l.take k) = m at HS q0 q1 ⊢
      clear hp hF
      by_cases hneg : p < 0
      · go_wp2
        go_round
        case rel => exact ⟨k + 1, by omega, by go_num, by rw [HS.out, show max m (-p) = if m < -p then -p else m by split <;> omega]⟩
        case measure => simp [intOf]; omega
      · go_wp2
        go_round
        case rel => exact ⟨k + 1, by omega, by go_num, by rw [HS.out]; congr 1; omega⟩
        case measure => simp [intOf]; omega
    · go_wp2
      go_ret
      exact ⟨by rw [List.take_of_length_le (by omega)]; rfl, rfl⟩
end Go.Proofs.YtppoiahhaclleaaDoor

/- AllocNames: the walk. -/
namespace Go.Proofs.YtppoiahhaclleaaDoor
open Go.RowKit

theorem ex_chkL {go : Nat} (pool : Int) (pl : List Int) (n : Nat) (r : Int) (w : World) (hn : pl.length = n) (hr : placesF exP pool pl = r) (hx : w.heap[go]? = some (.cells ((exP.ops.map opRow).flatten).toArray 47 (0, 0))) :
    Calls Tryd.prog 24 #[.agg #[.int .i64 3, .slice none 0 0, .slice (some ⟨go, 0, none⟩) 4 4], .int .i64 pool, .slice (some ⟨w.heap.size, 0, none⟩) n n] (w.alloc (.cells (intV pl).toArray 3)) fun e w' => e = .returned (.int .i64 r) ∧ Below w.heap.size w w' := by
  have hb : Below w.heap.size w (w.alloc (.cells (intV pl).toArray 3)) := (Below.refl _ _).alloc (Nat.le_refl _) _
  obtain ⟨W, hW⟩ : ∃ q, q = w.alloc (.cells (intV pl).toArray 3) := ⟨_, rfl⟩
  have h1 : W.heap[w.heap.size]? = some (.cells (intV pl).toArray 3 (0, 0)) := by rw [hW]; exact heap_alloc_new w _
  rw [← hW] at hb ⊢
  have h2 : NumsAt W (fun k => k < W.heap.size) (.slice (some ⟨w.heap.size, 0, none⟩) pl.length pl.length) pl := (nums_blk h1).mono fun k hk => by subst hk; exact lt_of_block h1
  rw [hn] at h2
  have h := acheck_any exP none (some ⟨go, 0, none⟩) (some ⟨w.heap.size, 0, none⟩) 0 0 4 4 n n pool pl W (ex_at ((hb.block go (lt_of_block hx)).trans hx)) h2
  rw [hr] at h
  refine h.mono ?_
  rintro e w' ⟨rfl, hb'⟩
  exact ⟨rfl, hb.trans (hb'.mono hb.size)⟩
theorem ex_chkE {go gl : Nat} (pool : Int) (pl : List Int) (n : Nat) (r : Int) (w : World) (hn : pl.length = n) (hr : placesF exP pool pl = r) (hx : w.heap[go]? = some (.cells ((exP.ops.map opRow).flatten).toArray 47 (0, 0))) (hl : EndsAt w gl pl) :
    Calls Tryd.prog 24 #[.agg #[.int .i64 3, .slice none 0 0, .slice (some ⟨go, 0, none⟩) 4 4], .int .i64 pool, .slice (some ⟨gl, 0, none⟩) n n] w fun e w' => e = .returned (.int .i64 r) ∧ Below w.heap.size w w' := by
  have h2 : NumsAt w (fun k => k < w.heap.size) (.slice (some ⟨gl, 0, none⟩) pl.length pl.length) pl := (nums_blk hl).mono fun k hk => by subst hk; exact lt_of_block hl
  rw [hn] at h2
  have h := acheck_any exP none (some ⟨go, 0, none⟩) (some ⟨gl, 0, none⟩) 0 0 4 4 n n pool pl w (ex_at hx) h2
  rw [hr] at h
  exact h
theorem nil_prog (w : World) (r : Int) : ProgAt w (fun k => k < w.heap.size) [.int .i64 r, .slice none 0 0, .slice none 0 0] ⟨r, [], []⟩ :=
  ⟨⟨_, _, rfl, ⟨none, 0, rfl, by simp, by intro r hr; simp at hr, fun h => absurd rfl h⟩, ⟨none, 0, rfl, by simp, by intro r hr; simp at hr, fun h => absurd rfl h⟩⟩, by simp, by simp, by simp, by simp⟩
theorem slots_blk {g : Nat} (l : List Int) (n : Nat) (r : Int) (w : World) (hn : l.length = n) (hr : slotsF l = r) (hb : ∀ p ∈ l, -1099511627776 ≤ p ∧ p ≤ 9223372036854775807) (hn2 : n ≤ 140737488355328) (hl : EndsAt w g l) :
    Calls Tryd.prog 23 #[.slice (some ⟨g, 0, none⟩) n n] w fun e w' => e = .returned (.int .i64 r) ∧ w = w' := by
  have h2 : NumsAt w (fun k => k < w.heap.size) (.slice (some ⟨g, 0, none⟩) l.length l.length) l := (nums_blk hl).mono fun k hk => by subst hk; exact lt_of_block hl
  rw [hn] at h2
  rw [← hr]
  exact Slots_any l _ n n w h2 hb hn2

set_option maxRecDepth 100000 in
set_option maxHeartbeats 8000000 in
theorem AllocNames_walk (w : World) (hT : TzAt w) : Calls Tryd.prog 5 #[] w fun e w' => e = .returned (.bool true) ∧ Below w.heap.size w w' := by
  have hw0 : 0 < w.heap.size := lt_cell (hT 0 (by decide))
  have HLV := Lib.hid (lives_is w hT)
  have HT := Lib.hid hT
  have HW0 := Lib.hid hw0
  clear hT hw0
  go_enter Tryd.func5, Tryd.ntmps5
  go_upto_region 3 with ((with_reducible refine (HLV.out).mono ?_); rintro e w0 ⟨rfl, hb0⟩; have H0 := Lib.hid hb0; clear hb0)
  have HE := Lib.hid (example_is w0)
  go_upto_region 4 with ((with_reducible refine (HE.out).mono ?_); rintro e w1 ⟨go, rfl, hb1, hops⟩; have H1 := Lib.hid (And.intro (H0.out.trans (hb1.mono H0.out.size)) hops); clear hb1 hops)
  obtain ⟨W, hW⟩ : ∃ q, q = w1.alloc (.cells #[.int .i64 3, .slice none 0 0, .slice (some ⟨go, 0, none⟩) 4 4] 25) := ⟨_, rfl⟩
  rw [← hW]
  obtain ⟨gp, hgp⟩ : ∃ q, w1.heap.size = q := ⟨_, rfl⟩
  rw [hgp]
  have hbW : Below w1.heap.size w1 W := by rw [hW]; exact (Below.refl _ _).alloc (Nat.le_refl _) _
  have hp : W.heap[gp]? = some (.cells #[.int .i64 3, .slice none 0 0, .slice (some ⟨go, 0, none⟩) 4 4] 25 (0, 0)) := by rw [hW, ← hgp]; exact heap_alloc_new w1 _
  have HB := Lib.hid (show Below w.heap.size w W from H1.out.1.trans (hbW.mono H1.out.1.size))
  have HP := Lib.hid hp
  have HX := Lib.hid (show W.heap[go]? = some (.cells ((exP.ops.map opRow).flatten).toArray 47 (0, 0)) from (hbW.block go (lt_of_block H1.out.2)).trans H1.out.2)
  have HXR := Lib.hid (fun wr (hb : Below W.heap.size W wr) => (hb.block go (lt_of_block HX.out)).trans HX.out)
  have HPR := Lib.hid (fun wr (hb : Below W.heap.size W wr) => (hb.block gp (lt_of_block HP.out)).trans HP.out)
  have HBU := Lib.hid (show Calls Tryd.prog 13 #[.agg #[.int .i64 3, .slice none 0 0, .slice (some ⟨go, 0, none⟩) 4 4], .int .i64 17] W _ from Build_hi exP none (some ⟨go, 0, none⟩) 0 0 4 4 17 W (ex_at HX.out) (by rw [ex_check]) (by decide))
  have c0 : W.cell? ⟨gp, 0, none⟩ = some (.int .i64 3) := cell_row (row := [_, _, _]) HP.out rfl
  have c1 : W.cell? ⟨gp, 1, none⟩ = some (.slice none 0 0) := cell_row (row := [_, _, _]) HP.out rfl
  have c2 : W.cell? ⟨gp, 2, none⟩ = some (.slice (some ⟨go, 0, none⟩) 4 4) := cell_row (row := [_, _, _]) HP.out rfl
  clear hW hbW hp hgp
  go_upto_region 5 with ((with_reducible refine (HBU.out).mono ?_); rintro e w2 ⟨rfl, hb2⟩; have H2 := Lib.hid hb2; clear hb2)
  clear c0 c1 c2
  have HB2 := Lib.hid (show Calls Tryd.prog 13 #[.agg #[.int .i64 (-1), .slice none 0 0, .slice none 0 0], .int .i64 1] w2 fun e w' => e = .returned (.tuple #[.slice none 0 0, .int .i64 2]) ∧ Below w2.heap.size w2 w' from by
    have h := Build_bad ⟨-1, [], []⟩ none none 0 0 0 0 1 w2 (nil_prog w2 (-1)) (by decide +kernel)
    rw [show (checkF ⟨-1, [], []⟩ 64).2 = 2 by decide +kernel] at h
    exact h)
  go_upto_region 6 with ((with_reducible refine (HB2.out).mono ?_); rintro e w3 ⟨rfl, hb3⟩; have H3 := Lib.hid (H2.out.trans (hb3.mono H2.out.size)); clear hb3)
  have c0 : w3.cell? ⟨gp, 0, none⟩ = some (.int .i64 3) := cell_row (row := [_, _, _]) (HPR.out w3 H3.out) rfl
  have c1 : w3.cell? ⟨gp, 1, none⟩ = some (.slice none 0 0) := cell_row (row := [_, _, _]) (HPR.out w3 H3.out) rfl
  have c2 : w3.cell? ⟨gp, 2, none⟩ = some (.slice (some ⟨go, 0, none⟩) 4 4) := cell_row (row := [_, _, _]) (HPR.out w3 H3.out) rfl
  have HB3 := Lib.hid (show Calls Tryd.prog 13 #[.agg #[.int .i64 3, .slice none 0 0, .slice (some ⟨go, 0, none⟩) 4 4], .int .i64 0] w3 _ from Build_ex none (some ⟨go, 0, none⟩) 0 0 4 4 0 [-1, -2, 0] w3 (ex_at (HXR.out w3 H3.out)) (HT.out.next (HB.out.trans (H3.out.mono HB.out.size)) HW0.out) (.inr ⟨rfl, rfl⟩))
  go_wp2_with (first | ((with_reducible refine (HB3.out).mono ?_); rintro e w4 ⟨gl, rfl, hgl, hel, hb4⟩; have H4 := Lib.hid (H3.out.trans (hb4.mono H3.out.size)); have HL4 := Lib.hid hel; clear hb4 hgl hel; have d0 : w4.cell? ⟨gp, 0, none⟩ = some (.int .i64 3) := cell_row (row := [_, _, _]) (HPR.out w4 H4.out) rfl; have d1 : w4.cell? ⟨gp, 1, none⟩ = some (.slice none 0 0) := cell_row (row := [_, _, _]) (HPR.out w4 H4.out) rfl; have d2 : w4.cell? ⟨gp, 2, none⟩ = some (.slice (some ⟨go, 0, none⟩) 4 4) := cell_row (row := [_, _, _]) (HPR.out w4 H4.out) rfl; have HSL := Lib.hid (slots_blk [-1, -2, 0] 3 2 w4 rfl (by decide) (by decide) (by decide) HL4.out); have HK5 := Lib.hid (show Calls Tryd.prog 24 #[.agg #[.int .i64 3, .slice none 0 0, .slice (some ⟨go, 0, none⟩) 4 4], .int .i64 2, .slice (some ⟨w4.heap.size, 0, none⟩) 3 3] (w4.alloc (.cells #[.int .i64 0, .int .i64 1, .int .i64 99] 3)) _ from ex_chkL 2 [0, 1, 99] 3 0 w4 rfl (by decide +kernel) (HXR.out w4 H4.out));)| ((with_reducible refine (HSL.out).mono ?_); rintro e wz ⟨rfl, rfl⟩)| ((with_reducible refine (HK5.out).mono ?_); rintro e w5 ⟨rfl, hb⟩; have H5 := Lib.hid (H4.out.trans (hb.mono H4.out.size)); have HL5 := Lib.hid (EndsAt.chg (P := fun _ => False) HL4.out (.of_below hb) id); clear hb; have k50 : w5.cell? ⟨gp, 0, none⟩ = some (.int .i64 3) := cell_row (row := [_, _, _]) (HPR.out w5 H5.out) rfl; have k51 : w5.cell? ⟨gp, 1, none⟩ = some (.slice none 0 0) := cell_row (row := [_, _, _]) (HPR.out w5 H5.out) rfl; have k52 : w5.cell? ⟨gp, 2, none⟩ = some (.slice (some ⟨go, 0, none⟩) 4 4) := cell_row (row := [_, _, _]) (HPR.out w5 H5.out) rfl; have HK6 := Lib.hid (show Calls Tryd.prog 24 #[.agg #[.int .i64 3, .slice none 0 0, .slice (some ⟨go, 0, none⟩) 4 4], .int .i64 2, .slice (some ⟨w5.heap.size, 0, none⟩) 3 3] (w5.alloc (.cells #[.int .i64 0, .int .i64 2, .int .i64 0] 3)) _ from ex_chkL 2 [0, 2, 0] 3 2 w5 rfl (by decide +kernel) (HXR.out w5 H5.out));)| ((with_reducible refine (HK6.out).mono ?_); rintro e w6 ⟨rfl, hb⟩; have H6 := Lib.hid (H5.out.trans (hb.mono H5.out.size)); have HL6 := Lib.hid (EndsAt.chg (P := fun _ => False) HL5.out (.of_below hb) id); clear hb; have k60 : w6.cell? ⟨gp, 0, none⟩ = some (.int .i64 3) := cell_row (row := [_, _, _]) (HPR.out w6 H6.out) rfl; have k61 : w6.cell? ⟨gp, 1, none⟩ = some (.slice none 0 0) := cell_row (row := [_, _, _]) (HPR.out w6 H6.out) rfl; have k62 : w6.cell? ⟨gp, 2, none⟩ = some (.slice (some ⟨go, 0, none⟩) 4 4) := cell_row (row := [_, _, _]) (HPR.out w6 H6.out) rfl; have HK7 := Lib.hid (show Calls Tryd.prog 24 #[.agg #[.int .i64 3, .slice none 0 0, .slice (some ⟨go, 0, none⟩) 4 4], .int .i64 2, .slice (some ⟨w6.heap.size, 0, none⟩) 3 3] (w6.alloc (.cells #[.int .i64 0, .int .i64 (-65), .int .i64 0] 3)) _ from ex_chkL 2 [0, -65, 0] 3 2 w6 rfl (by decide +kernel) (HXR.out w6 H6.out));)| ((with_reducible refine (HK7.out).mono ?_); rintro e w7 ⟨rfl, hb⟩; have H7 := Lib.hid (H6.out.trans (hb.mono H6.out.size)); have HL7 := Lib.hid (EndsAt.chg (P := fun _ => False) HL6.out (.of_below hb) id); clear hb; have k70 : w7.cell? ⟨gp, 0, none⟩ = some (.int .i64 3) := cell_row (row := [_, _, _]) (HPR.out w7 H7.out) rfl; have k71 : w7.cell? ⟨gp, 1, none⟩ = some (.slice none 0 0) := cell_row (row := [_, _, _]) (HPR.out w7 H7.out) rfl; have k72 : w7.cell? ⟨gp, 2, none⟩ = some (.slice (some ⟨go, 0, none⟩) 4 4) := cell_row (row := [_, _, _]) (HPR.out w7 H7.out) rfl; have HK8 := Lib.hid (show Calls Tryd.prog 24 #[.agg #[.int .i64 3, .slice none 0 0, .slice (some ⟨go, 0, none⟩) 4 4], .int .i64 2, .slice (some ⟨w7.heap.size, 0, none⟩) 3 3] (w7.alloc (.cells #[.int .i64 0, .int .i64 (-64), .int .i64 0] 3)) _ from ex_chkL 2 [0, -64, 0] 3 0 w7 rfl (by decide +kernel) (HXR.out w7 H7.out));)| ((with_reducible refine (HK8.out).mono ?_); rintro e w8 ⟨rfl, hb⟩; have H8 := Lib.hid (H7.out.trans (hb.mono H7.out.size)); have HL8 := Lib.hid (EndsAt.chg (P := fun _ => False) HL7.out (.of_below hb) id); clear hb; have k80 : w8.cell? ⟨gp, 0, none⟩ = some (.int .i64 3) := cell_row (row := [_, _, _]) (HPR.out w8 H8.out) rfl; have k81 : w8.cell? ⟨gp, 1, none⟩ = some (.slice none 0 0) := cell_row (row := [_, _, _]) (HPR.out w8 H8.out) rfl; have k82 : w8.cell? ⟨gp, 2, none⟩ = some (.slice (some ⟨go, 0, none⟩) 4 4) := cell_row (row := [_, _, _]) (HPR.out w8 H8.out) rfl; have HK9 := Lib.hid (show Calls Tryd.prog 24 #[.agg #[.int .i64 3, .slice none 0 0, .slice (some ⟨go, 0, none⟩) 4 4], .int .i64 2, .slice (some ⟨w8.heap.size, 0, none⟩) 2 2] (w8.alloc (.cells #[.int .i64 0, .int .i64 1] 3)) _ from ex_chkL 2 [0, 1] 2 2 w8 rfl (by decide +kernel) (HXR.out w8 H8.out));)| ((with_reducible refine (HK9.out).mono ?_); rintro e w9 ⟨rfl, hb⟩; have H9 := Lib.hid (H8.out.trans (hb.mono H8.out.size)); have HL9 := Lib.hid (EndsAt.chg (P := fun _ => False) HL8.out (.of_below hb) id); clear hb; have k90 : w9.cell? ⟨gp, 0, none⟩ = some (.int .i64 3) := cell_row (row := [_, _, _]) (HPR.out w9 H9.out) rfl; have k91 : w9.cell? ⟨gp, 1, none⟩ = some (.slice none 0 0) := cell_row (row := [_, _, _]) (HPR.out w9 H9.out) rfl; have k92 : w9.cell? ⟨gp, 2, none⟩ = some (.slice (some ⟨go, 0, none⟩) 4 4) := cell_row (row := [_, _, _]) (HPR.out w9 H9.out) rfl; have HK10 := Lib.hid (ex_chkE (-1) [-1, -2, 0] 3 2 w9 rfl (by decide +kernel) (HXR.out w9 H9.out) HL9.out))| ((with_reducible refine (HK10.out).mono ?_); rintro e w10 ⟨rfl, hb⟩; have H10 := Lib.hid (H9.out.trans (hb.mono H9.out.size)); clear hb; have k100 : w10.cell? ⟨gp, 0, none⟩ = some (.int .i64 3) := cell_row (row := [_, _, _]) (HPR.out w10 H10.out) rfl; have k101 : w10.cell? ⟨gp, 1, none⟩ = some (.slice none 0 0) := cell_row (row := [_, _, _]) (HPR.out w10 H10.out) rfl; have k102 : w10.cell? ⟨gp, 2, none⟩ = some (.slice (some ⟨go, 0, none⟩) 4 4) := cell_row (row := [_, _, _]) (HPR.out w10 H10.out) rfl; have HK11 := Lib.hid (show Calls Tryd.prog 24 #[.agg #[.int .i64 3, .slice none 0 0, .slice (some ⟨go, 0, none⟩) 4 4], .int .i64 2, .slice (some ⟨w10.heap.size, 0, none⟩) 3 3] (w10.alloc (.cells #[.int .i64 (-1), .int .i64 (-1), .int .i64 0] 3)) _ from ex_chkL 2 [-1, -1, 0] 3 6 w10 rfl (by decide +kernel) (HXR.out w10 H10.out));)| ((with_reducible refine (HK11.out).mono ?_); rintro e w11 ⟨rfl, hb⟩; have H99 := Lib.hid (H10.out.trans (hb.mono H10.out.size)); clear hb; have HN1 := Lib.hid (show Calls Tryd.prog 23 #[.slice none 0 0] w11 (fun e w' => e = .returned (.int .i64 0) ∧ w11 = w') from Slots_any [] none 0 0 w11 ⟨none, 0, rfl, by simp, by simp, fun h => absurd rfl h⟩ (by simp) (by decide)); have HN2 := Lib.hid (show Calls Tryd.prog 23 #[.slice (some ⟨w11.heap.size, 0, none⟩) 3 3] (w11.alloc (.cells #[.int .i64 3, .int .i64 (-2), .int .i64 0] 3)) _ from slots_blk [3, -2, 0] 3 2 _ rfl (by decide) (by decide) (by decide) (heap_alloc_new w11 _)))| ((with_reducible refine (HN1.out).mono ?_); rintro e wz ⟨rfl, rfl⟩)| ((with_reducible refine (HN2.out).mono ?_); rintro e wz ⟨rfl, rfl⟩))
  go_ret
  exact ⟨rfl, HB.out.trans ((H99.out.alloc H99.out.size _).mono HB.out.size)⟩
end Go.Proofs.YtppoiahhaclleaaDoor

/- What AllocLive asks of a span: plain. -/
namespace Go.Proofs.YtppoiahhaclleaaDoor
open Go.RowKit

theorem check_same (p : LP) : checkF p p.regs.toNat = checkF p 64 := by
  by_cases h : headF p = 0
  · have := head_ok h
    exact check_alike (by omega) (by omega)
  · unfold checkF
    rw [if_pos h, if_pos h]
/-- The first operation of so many that has a register. -/
def FirstIs (p : LP) (r : Int) (k : Nat) (f : Int) : Prop :=
  (f = -1 ∧ ∀ (j : Nat) (q : LOp), j < k → p.ops[j]? = some q → hasF q r = false) ∨
  (∃ (i : Nat) (o : LOp), f = i ∧ i < k ∧ p.ops[i]? = some o ∧ hasF o r = true ∧ ∀ (j : Nat) (q : LOp), j < i → p.ops[j]? = some q → hasF q r = false)
theorem first_zero (p : LP) (r : Int) : FirstIs p r 0 (-1) := .inl ⟨rfl, fun j q h => absurd h (by omega)⟩
theorem first_no {p : LP} {r f : Int} {k : Nat} {o : LOp} (h : FirstIs p r k f) (ho : p.ops[k]? = some o) (hh : hasF o r = false) : FirstIs p r (k + 1) f := by
  rcases h with ⟨h1, h2⟩ | ⟨i, o', h1, h2, h3⟩
  · refine .inl ⟨h1, fun j q hj hq => ?_⟩
    rcases Nat.lt_or_ge j k with h | h
    · exact h2 j q h hq
    · obtain rfl : j = k := by omega
      rw [ho] at hq; cases hq; exact hh
  · exact .inr ⟨i, o', h1, by omega, h3⟩
theorem first_more {p : LP} {r f : Int} {k : Nat} (h : FirstIs p r k f) (hf : ¬ f < 0) : FirstIs p r (k + 1) f := by
  rcases h with ⟨h1, h2⟩ | ⟨i, o', h1, h2, h3⟩
  · omega
  · exact .inr ⟨i, o', h1, by omega, h3⟩
theorem first_yes {p : LP} {r f : Int} {k : Nat} {o : LOp} (h : FirstIs p r k f) (hf : f < 0) (ho : p.ops[k]? = some o) (hh : hasF o r = true) : FirstIs p r (k + 1) k := by
  rcases h with ⟨h1, h2⟩ | ⟨i, o', h1, h2, h3⟩
  · exact .inr ⟨k, o, rfl, by omega, ho, hh, h2⟩
  · omega
theorem live_has {p : LP} {r k : Nat} {s : Int × Int} {o : LOp} (h : SpanIs p r s) (ho : p.ops[k]? = some o) (hh : hasF o r = true) : 0 ≤ s.1 ∧ s.1 ≤ k ∧ (k : Int) ≤ s.2 := by
  have hl := h.last k o ho hh
  rcases Int.lt_or_le s.1 0 with h0 | h0
  · have := (h.none_ h0).2.2 k o ho
    rw [hh] at this; cases this
  · refine ⟨h0, ?_, hl⟩
    obtain ⟨_, i, o', h1, h2, h3, h4⟩ := h.some_ h0
    rcases Nat.lt_or_ge k i with hk | hk
    · have := h4 k o hk ho
      rw [hh] at this; cases this
    · omega
theorem live_loop {p : LP} {r k : Nat} {s : Int × Int} {o : LOp} (h : SpanIs p r s) (ho : p.ops[k]? = some o) (hk : o.kind = 16) (h0 : 0 ≤ s.1) (h1 : s.1 < k) (h2 : (k : Int) < s.2) : ¬ s.2 < (endsF p.ops).getD k 0 := by
  have := h.lasts k o ho hk h0 h1 (by omega)
  omega
theorem live_end {p : LP} {r : Nat} {s : Int × Int} {f : Int} (h : SpanIs p r s) (hf : FirstIs p r p.ops.length f) : s.1 = f ∧ (s.2 < 0 ↔ f < 0) ∧ s.2 < max 1 (p.ops.length : Int) := by
  have hlt := h.lt
  refine ⟨?_, ?_, by omega⟩
  · rcases hf with ⟨h1, h2⟩ | ⟨i, o, h1, h2, h3, h4, h5⟩
    · rcases Int.lt_or_le s.1 0 with h0 | h0
      · rw [(h.none_ h0).1, h1]
      · obtain ⟨_, i, o, e1, e2, e3, _⟩ := h.some_ h0
        have := h2 i o (List.getElem?_eq_some_iff.1 e2).1 e2
        rw [e3] at this; cases this
    · have hh := live_has h h3 h4
      obtain ⟨_, j, q, e1, e2, e3, e4⟩ := h.some_ hh.1
      rcases Nat.lt_trichotomy i j with h' | h' | h'
      · have := e4 i o h' h3
        rw [h4] at this; cases this
      · omega
      · have := h5 j q h' e2
        rw [e3] at this; cases this
  · rcases hf with ⟨h1, h2⟩ | ⟨i, o, h1, h2, h3, h4, h5⟩
    · rcases Int.lt_or_le s.1 0 with h0 | h0
      · have := (h.none_ h0).2.1
        omega
      · obtain ⟨_, i, o, e1, e2, e3, _⟩ := h.some_ h0
        have := h2 i o (List.getElem?_eq_some_iff.1 e2).1 e2
        rw [e3] at this; cases this
    · have hh := live_has h h3 h4
      omega
end Go.Proofs.YtppoiahhaclleaaDoor

/- An argument of type LimbProg, opened. -/
namespace Go.Proofs.YtppoiahhaclleaaDoor
open Go.ChangeShapes Go.WideShapes Go.Deep Go.RowKit

theorem list_of_all {α : Type} (Q : Nat → α → Prop) : ∀ n, (∀ i, i < n → ∃ x, Q i x) → ∃ L : List α, L.length = n ∧ ∀ (i : Nat) (x : α), L[i]? = some x → Q i x
  | 0, _ => ⟨[], rfl, fun i x h => by simp at h⟩
  | n + 1, h => by
    obtain ⟨L, hl, hq⟩ := list_of_all Q n (fun i hi => h i (by omega))
    obtain ⟨x, hx⟩ := h n (by omega)
    refine ⟨L ++ [x], by simp [hl], fun i y hy => ?_⟩
    rcases Nat.lt_or_ge i n with hi | hi
    · rw [List.getElem?_append_left (by omega)] at hy; exact hq i y hy
    · rw [List.getElem?_append_right (by omega)] at hy
      have : i - L.length = 0 := by
        rcases Nat.eq_zero_or_pos (i - L.length) with h | h
        · exact h
        · rw [List.getElem?_eq_none (by simp; omega)] at hy; cases hy
      rw [this] at hy
      simp at hy
      subst hy
      rw [show i = n from by omega]; exact hx

theorem plain_addr {w : World} {a : Addr} {k : Nat} {v : Value} (h : w.cell? (a.add k) = some v) (h0 : ∃ u, w.cell? a = some u) : a = ⟨a.block, a.off, none⟩ ∧ a.block < w.heap.size ∧ a.add k = ⟨a.block, a.off + k, none⟩ := by
  obtain ⟨u, hu⟩ := h0
  have hb := World.block_lt_of_cell? w a hu
  have hs : a.spot = none := by
    cases hsp : a.spot with
    | none => rfl
    | some s =>
      unfold World.cell? at hu
      split at hu
      · simp [hsp] at hu
      · cases hu
  have ha : a = ⟨a.block, a.off, none⟩ := by cases a; simp_all
  refine ⟨ha, hb, ?_⟩
  unfold Addr.add
  split
  · rename_i hk; subst hk; simpa using ha
  · rfl

section
variable {H : Type} {enc : TypeId × Value → H} {w : World}

theorem open_rows {α : Type} {T St sz : Nat} (row : α → List Value) (Q : α → Prop) (hT : Tryd.prog.underlying T = some (.slice St)) (hC : Tryd.prog.cellsOf St = sz) (h0 : 0 < sz) (hrow : ∀ x, (row x).length = sz)
    (each : ∀ fuel cs y, DataW.trod enc Tryd.prog w 0 (fun _ => true) true fuel St cs = some y → cs.length = sz → ∃ x, cs = row x ∧ Q x)
    {A : Option Addr} {n c : Nat} {d : DataW H} {ps : List MemPlace} (h : DataW.Trod enc Tryd.prog w 0 (fun _ => true) true T (.slice A n c) d ps) :
    ∃ l : List α, Rows w (fun k => k < w.heap.size) sz (.slice A n c) (l.map row) ∧ (∀ x ∈ l, Q x) ∧ l.length ≤ 9223372036854775807 := by
  obtain ⟨fuel, hf⟩ := h
  rcases open_slice hT hf with ⟨hcs, _⟩ | ⟨a, len, cap, m, q, D, Pl, hcs, _, hl, hm, hmm, _, hi⟩
  · simp [Value.cells] at hcs
    obtain ⟨rfl, rfl, rfl⟩ := hcs
    exact ⟨[], ⟨none, 0, rfl, by simp, by simp, fun h => absurd rfl h⟩, by simp, by simp⟩
  · simp [Value.cells] at hcs
    obtain ⟨rfl, rfl, rfl⟩ := hcs
    simp only [if_true] at hmm
    have ech : ∀ i, i < n → ∃ x : α, Q x ∧ ∀ (j : Nat) (u : Value), (row x)[j]? = some u → w.cell? (a.add (i * sz + j)) = some u := fun i hin => by
      obtain ⟨cs', hc, ht⟩ := hi i (by omega)
      rw [hC] at hc
      obtain ⟨_, hlen, hat⟩ := World.cells?_some hc
      obtain ⟨x, rfl, hq⟩ := each _ _ _ ht hlen
      refine ⟨x, hq, fun j u hu => ?_⟩
      have := hat j (by rw [← hlen]; exact (List.getElem?_eq_some_iff.1 hu).1)
      rw [← add_add, this, hu]
    obtain ⟨L, hL, hq⟩ := list_of_all _ n ech
    refine ⟨L, ⟨some a, c, by simp [hL], by simp [hL]; omega, fun r hr => by obtain ⟨x, _, rfl⟩ := List.mem_map.1 hr; exact hrow x, fun hne => ?_⟩, fun x hx => ?_, by rw [hL]; unfold maxLen at hm; omega⟩
    · have hpos : 0 < L.length := by
        cases L with
        | nil => simp at hne
        | cons => simp
      have hl0 := hrow L[0]
      obtain ⟨u0, hu0⟩ : ∃ u, (row L[0])[0]? = some u := by
        cases hx : row L[0] with
        | nil => rw [hx] at hl0; simp at hl0; omega
        | cons u us => exact ⟨u, rfl⟩
      have hp0 := (hq 0 L[0] (List.getElem?_eq_getElem hpos)).2 0 u0 hu0
      have h00 : ∃ u, w.cell? a = some u := ⟨_, by simpa [Addr.add] using hp0⟩
      obtain ⟨ha, hb, _⟩ := plain_addr hp0 h00
      refine ⟨a.block, a.off, by rw [← ha], hb, fun i j r u hr hu => ?_⟩
      rw [List.getElem?_map] at hr
      cases hpi : L[i]? with
      | none => rw [hpi] at hr; cases hr
      | some x =>
        rw [hpi] at hr
        cases hr
        have hc := (hq i x hpi).2 j u hu
        obtain ⟨_, _, hadd⟩ := plain_addr hc h00
        rw [hadd] at hc
        rw [show a.off + i * sz + j = a.off + (i * sz + j) from by omega]
        exact hc
    · obtain ⟨i, hi⟩ := List.mem_iff_getElem?.1 hx
      exact (hq i x hi).1

theorem trod_u64 {fuel : Nat} {cs : List Value} {y : DataW H × List MemPlace} (h : DataW.trod enc Tryd.prog w 0 (fun _ => true) true fuel 45 cs = some y) : ∃ n : Nat, cs = [.int .u64 n] ∧ n < 18446744073709551616 := by
  obtain ⟨z, hz, _, hwf⟩ := DataW.trod_int Tryd.underlying45 h
  have hzb : 0 ≤ z ∧ z ≤ 18446744073709551615 := by simpa [Lit.wf, IntKind.min, IntKind.max, IntKind.bits, IntKind.signed] using hwf
  exact ⟨z.toNat, by rw [hz]; congr 2; omega, by omega⟩
theorem trod_i64 {fuel : Nat} {cs : List Value} {y : DataW H × List MemPlace} (h : DataW.trod enc Tryd.prog w 0 (fun _ => true) true fuel 3 cs = some y) : ∃ z : Int, cs = [.int .i64 z] ∧ -9223372036854775808 ≤ z ∧ z ≤ 9223372036854775807 := by
  obtain ⟨z, hz, _, hwf⟩ := DataW.trod_int Tryd.underlying3 h
  have hzb : -9223372036854775808 ≤ z ∧ z ≤ 9223372036854775807 := by simpa [Lit.wf, IntKind.min, IntKind.max, IntKind.bits, IntKind.signed] using hwf
  exact ⟨z, hz, hzb⟩
end
section
variable {H : Type} {enc : TypeId × Value → H} {w : World}
theorem trod_bool1 {fuel : Nat} {cs : List Value} {y : DataW H × List MemPlace} (h : DataW.trod enc Tryd.prog w 0 (fun _ => true) true fuel 4 cs = some y) : ∃ b, cs = [.bool b] := by
  obtain ⟨b, hb, _⟩ := DataW.trod_bool Tryd.underlying4 h
  exact ⟨b, hb⟩
theorem trod_form {T St fuel : Nat} {c : Value} {y : DataW H × List MemPlace} (hT : Tryd.prog.underlying T = some (.slice St)) (h : DataW.trod enc Tryd.prog w 0 (fun _ => true) true fuel T [c] = some y) : ∃ A n k, c = .slice A n k := by
  rcases open_slice hT h with ⟨hcs, _⟩ | ⟨a, len, cap, m, q, D, Pl, hcs, _⟩
  · cases hcs; exact ⟨_, _, _, rfl⟩
  · cases hcs; exact ⟨_, _, _, rfl⟩
set_option maxRecDepth 100000 in
theorem open_buf (fuel : Nat) (cs : List Value) (y : DataW H × List MemPlace) (h : DataW.trod enc Tryd.prog w 0 (fun _ => true) true fuel 60 cs = some y) (hl : cs.length = 3) : ∃ x : Bf, cs = bufRow x ∧ (-9223372036854775808 ≤ x.size ∧ x.size ≤ 9223372036854775807) := by
  obtain ⟨xs, f, _, _, hlen, hxl, hfs⟩ := DataW.trod_struct Tryd.underlying60 h
  match cs, hl with
  | [c0, c1, c2], _ =>
    match xs, hxl with
    | [y0, y1, y2], _ =>
      have t0 : DataW.trod enc Tryd.prog w 0 (fun _ => true) true f 3 (([c0, c1, c2].drop 0).take (Tryd.prog.cellsOf 3)) = some y0 := hfs 0 _ rfl
      have t1 : DataW.trod enc Tryd.prog w 0 (fun _ => true) true f 3 (([c0, c1, c2].drop 1).take (Tryd.prog.cellsOf 3)) = some y1 := hfs 1 _ rfl
      have t2 : DataW.trod enc Tryd.prog w 0 (fun _ => true) true f 4 (([c0, c1, c2].drop 2).take (Tryd.prog.cellsOf 4)) = some y2 := hfs 2 _ rfl
      have k0 : Tryd.prog.cellsOf 3 = 1 := by kernel_rfl
      have k2 : Tryd.prog.cellsOf 4 = 1 := by kernel_rfl
      rw [k0] at t0 t1
      rw [k2] at t2
      simp only [List.drop_zero, List.drop_succ_cons, List.take_succ_cons, List.take_zero] at t0 t1 t2
      obtain ⟨a, ha, b1, b2⟩ := trod_i64 t0
      obtain ⟨b, hb, _, _⟩ := trod_i64 t1
      obtain ⟨s, hs⟩ := trod_bool1 t2
      cases ha; cases hb; cases hs
      exact ⟨⟨a, b, s⟩, rfl, b1, b2⟩
set_option maxRecDepth 100000 in
theorem open_op (fuel : Nat) (cs : List Value) (y : DataW H × List MemPlace) (h : DataW.trod enc Tryd.prog w 0 (fun _ => true) true fuel 47 cs = some y) (hl : cs.length = 8) : ∃ x : LOp, cs = opRow x ∧ x.imm < 18446744073709551616 := by
  obtain ⟨xs, f, _, _, hlen, hxl, hfs⟩ := DataW.trod_struct Tryd.underlying47 h
  match cs, hl with
  | [c0, c1, c2, c3, c4, c5, c6, c7], _ =>
    match xs, hxl with
    | [y0, y1, y2, y3, y4, y5, y6, y7], _ =>
      have k0 : Tryd.prog.cellsOf 3 = 1 := by kernel_rfl
      have k2 : Tryd.prog.cellsOf 45 = 1 := by kernel_rfl
      have t0 : DataW.trod enc Tryd.prog w 0 (fun _ => true) true f 3 (([c0, c1, c2, c3, c4, c5, c6, c7].drop 0).take (Tryd.prog.cellsOf 3)) = some y0 := hfs 0 _ rfl
      have t1 : DataW.trod enc Tryd.prog w 0 (fun _ => true) true f 3 (([c0, c1, c2, c3, c4, c5, c6, c7].drop 1).take (Tryd.prog.cellsOf 3)) = some y1 := hfs 1 _ rfl
      have t2 : DataW.trod enc Tryd.prog w 0 (fun _ => true) true f 3 (([c0, c1, c2, c3, c4, c5, c6, c7].drop 2).take (Tryd.prog.cellsOf 3)) = some y2 := hfs 2 _ rfl
      have t3 : DataW.trod enc Tryd.prog w 0 (fun _ => true) true f 3 (([c0, c1, c2, c3, c4, c5, c6, c7].drop 3).take (Tryd.prog.cellsOf 3)) = some y3 := hfs 3 _ rfl
      have t4 : DataW.trod enc Tryd.prog w 0 (fun _ => true) true f 3 (([c0, c1, c2, c3, c4, c5, c6, c7].drop 4).take (Tryd.prog.cellsOf 3)) = some y4 := hfs 4 _ rfl
      have t5 : DataW.trod enc Tryd.prog w 0 (fun _ => true) true f 3 (([c0, c1, c2, c3, c4, c5, c6, c7].drop 5).take (Tryd.prog.cellsOf 3)) = some y5 := hfs 5 _ rfl
      have t6 : DataW.trod enc Tryd.prog w 0 (fun _ => true) true f 3 (([c0, c1, c2, c3, c4, c5, c6, c7].drop 6).take (Tryd.prog.cellsOf 3)) = some y6 := hfs 6 _ rfl
      have t7 : DataW.trod enc Tryd.prog w 0 (fun _ => true) true f 45 (([c0, c1, c2, c3, c4, c5, c6, c7].drop 7).take (Tryd.prog.cellsOf 45)) = some y7 := hfs 7 _ rfl
      rw [k0] at t0 t1 t2 t3 t4 t5 t6
      rw [k2] at t7
      simp only [List.drop_zero, List.drop_succ_cons, List.take_succ_cons, List.take_zero] at t0 t1 t2 t3 t4 t5 t6 t7
      obtain ⟨a0, h0, _⟩ := trod_i64 t0
      obtain ⟨a1, h1, _⟩ := trod_i64 t1
      obtain ⟨a2, h2, _⟩ := trod_i64 t2
      obtain ⟨a3, h3, _⟩ := trod_i64 t3
      obtain ⟨a4, h4, _⟩ := trod_i64 t4
      obtain ⟨a5, h5, _⟩ := trod_i64 t5
      obtain ⟨a6, h6, _⟩ := trod_i64 t6
      obtain ⟨a7, h7, hb⟩ := trod_u64 t7
      cases h0; cases h1; cases h2; cases h3; cases h4; cases h5; cases h6; cases h7
      exact ⟨⟨a0, a1, a2, a3, a4, a5, a6, a7⟩, rfl, hb⟩
set_option maxRecDepth 100000 in
theorem open_prog {cs : Array Value} {d : DataW H} {ps : List MemPlace} (h : DataW.Trod enc Tryd.prog w 0 (fun _ => true) true 25 (.agg cs) d ps) :
    ∃ (p : LP) (Ab Ao : Option Addr) (nb cb no co : Nat), cs = #[.int .i64 p.regs, .slice Ab nb cb, .slice Ao no co] ∧ ProgAt w (fun k => k < w.heap.size) [.int .i64 p.regs, .slice Ab nb cb, .slice Ao no co] p ∧ -9223372036854775808 ≤ p.regs ∧ p.regs ≤ 9223372036854775807 := by
  obtain ⟨fuel, hf⟩ := h
  obtain ⟨xs, f, _, _, hlen, hxl, hfs⟩ := DataW.trod_struct Tryd.underlying25 hf
  have hC : Tryd.prog.cellsOf 25 = 3 := by kernel_rfl
  rw [hC] at hlen
  have hcs : (Value.agg cs).cells.toList = cs.toList := rfl
  rw [hcs] at hlen hfs
  obtain ⟨l⟩ := cs
  simp only [] at hlen hfs
  match l, hlen with
  | [c0, c1, c2], _ =>
    match xs, hxl with
    | [y0, y1, y2], _ =>
      have t0 : DataW.trod enc Tryd.prog w 0 (fun _ => true) true f 3 (([c0, c1, c2].drop 0).take (Tryd.prog.cellsOf 3)) = some y0 := hfs 0 _ rfl
      have t1 : DataW.trod enc Tryd.prog w 0 (fun _ => true) true f 22 (([c0, c1, c2].drop 1).take (Tryd.prog.cellsOf 22)) = some y1 := hfs 1 _ rfl
      have t2 : DataW.trod enc Tryd.prog w 0 (fun _ => true) true f 23 (([c0, c1, c2].drop 2).take (Tryd.prog.cellsOf 23)) = some y2 := hfs 2 _ rfl
      have k0 : Tryd.prog.cellsOf 3 = 1 := by kernel_rfl
      have k1 : Tryd.prog.cellsOf 22 = 1 := by kernel_rfl
      have k2 : Tryd.prog.cellsOf 23 = 1 := by kernel_rfl
      rw [k0] at t0
      rw [k1] at t1
      rw [k2] at t2
      simp only [List.drop_zero, List.drop_succ_cons, List.take_succ_cons, List.take_zero] at t0 t1 t2
      obtain ⟨z, hz, hz1, hz2⟩ := trod_i64 t0
      obtain ⟨Ab, nb, cb, rfl⟩ := trod_form Tryd.underlying22 t1
      obtain ⟨Ao, no, co, rfl⟩ := trod_form Tryd.underlying23 t2
      cases hz
      obtain ⟨lb, hb, hbq, hbl⟩ := open_rows bufRow (fun x : Bf => -9223372036854775808 ≤ x.size ∧ x.size ≤ 9223372036854775807) Tryd.underlying22 (by kernel_rfl) (by decide) (fun _ => rfl) open_buf (d := y1.1) (ps := y1.2) ⟨f, t1⟩
      obtain ⟨lo, ho, hoq, hol⟩ := open_rows opRow (fun x : LOp => x.imm < 18446744073709551616) Tryd.underlying23 (by kernel_rfl) (by decide) (fun _ => rfl) open_op (d := y2.1) (ps := y2.2) ⟨f, t2⟩
      exact ⟨⟨z, lb, lo⟩, Ab, Ao, nb, cb, no, co, rfl, ⟨⟨_, _, rfl, hb, ho⟩, hbl, hol, hoq, hbq⟩, hz1, hz2⟩
end
end Go.Proofs.YtppoiahhaclleaaDoor

/- keysmithlaw14.AllocNames: it returns true: the example of the chapter comes out as it tells. No condition but that the table of math/bits is as its initialiser lays it (the card ties that). -/
namespace Go.Proofs.YtppoiahhaclleaaDoor.allocNames
open Go.ChangeShapes Go.WideShapes Go.ChangeAt Go.RowKit

theorem own : ownKnob Tryd.prog.godebug = none := by kernel_rfl
theorem laidOut : laidOutB Tryd.prog = true := by kernel_rfl

theorem door_met (os : Os) (args : Array Value) : laidMetH Tryd.prog Rows.allocNamesRow.laid ((World.doorLaid Tryd.prog 14 os).forCall (fun _ _ => 0) ⟨#[], args, []⟩).memory :=
  laidMetH_of_parts3 (fuel := 8) (laidMet_of_run' 8 (by kernel_rfl) (by kernel_rfl)) (by kernel_rfl) (by kernel_rfl)
theorem tz_of {W : World} (h : laidMetH Tryd.prog Rows.allocNamesRow.laid W) : TzAt W := by
  rw [MakeChecks.laidMetH_plain _ _ _ (by kernel_rfl)] at h
  have hT : Lib.TabIs Tryd.prog W "math/bits.deBruijn64tab" .u8 (Lib.deBruijn64tab.map fun k => ((k : Nat) : Int)) :=
    Lib.tabIs_of_head (rest := []) (g := 0) (t := 121) (e := 5) (n := 64) (by kernel_rfl) (by kernel_rfl) Tryd.underlying121 Tryd.underlying5 (by kernel_rfl) (by kernel_rfl) h
  intro j hj
  have h1 := hT.cell (g := 0) (by kernel_rfl) j (by rw [List.length_map]; exact hj)
  rw [List.getD_eq_getElem?_getD, List.getElem?_map] at h1
  rw [List.getD_eq_getElem?_getD]
  obtain ⟨x, hx⟩ : ∃ x, Lib.deBruijn64tab[j]? = some x := ⟨_, List.getElem?_eq_getElem hj⟩
  rw [hx] at h1 ⊢
  exact h1

set_option maxRecDepth 100000 in
theorem lifted (os : Os) (started : os.Started) (H : Type) (enc : TypeId × Value → H) :
    ReturnsInHanded {} Tryd.checked os 5 .any (fun w args => (Rows.allocNamesSpec.pre enc Tryd.prog Tryd.f5 [] false w args ∧ laidMetH Tryd.prog Rows.allocNamesRow.laid w) ∧ sizedMet enc Tryd.prog Tryd.f5 (OpenSpec.ofChange Rows.allocNamesSpec) false w args)
      (Rows.allocNamesSpec.post enc Tryd.prog Tryd.f5 false true false false) := by
  refine returnsInHanded_of_change_and (C := Tryd.checked) (X := fun w _ => laidMetH Tryd.prog Rows.allocNamesRow.laid w) (fun _ _ _ hh h => h.of_heap hh) own started (by kernel_rfl) Tryd.func5
    (ChangeSpec.witness_shaped (enc := enc) (C := Tryd.checked) (os := os) (X := fun w _ => laidMetH Tryd.prog Rows.allocNamesRow.laid w) false (World.doorLaid Tryd.prog 14 os) #[] 8 rfl (World.shaped_of_RefB (by kernel_rfl) (by kernel_rfl)) (by kernel_rfl) (by kernel_rfl) (by kernel_rfl) (door_met os _)) ?_
  intro W base args ds gs before hval0 hW hcnd hreach hL _
  have hval : ∀ (j : Nat) t v, Tryd.f5.params[j]? = some t → args[j]? = some v → Value.okWide Tryd.prog W .any base t v := hval0
  have HT : TzAt W := tz_of hL
  have hW' := hW
  obtain ⟨p, q, hA0, hV, rfl, hfz, hnd⟩ := hW
  have hA : DataW.TrodAll enc Tryd.prog W 0 (fun _ => true) true Tryd.f5.params.toList args.toList ds p := hA0
  rw [Tryd.params5] at hA hval
  obtain ⟨rfl, rfl, rfl⟩ := trodAll_none hA
  obtain ⟨rfl, rfl⟩ := trodVars_none hV
  clear hA0 hval0 hcnd hreach
  refine (AllocNames_walk W HT).mono fun e W' ⟨he, bel⟩ => ?_
  subst he
  exact ⟨_, rfl, _, _, _, [], _, [], hW', trodAll_mk1 (shut_bool Tryd.underlying4 _), trodAll_mk0, rfl, bel.frame _, fun h => by cases h⟩

theorem over : Rows.AllocNamesSaid :=
  OpenClaim.holds_of_wide 5 Tryd.f5 rfl rfl rfl rfl rfl rfl rfl ⟨rfl, rfl, rfl, rfl, rfl⟩ rfl rfl rfl rfl rfl (by kernel_rfl) Tryd.func5 (by kernel_rfl)
    (of_decide_eq_true (by kernel_rfl)) (by unfold Func.isWrapper; first | (rw [if_pos (by decide +kernel)]; kernel_rfl) | (rw [if_neg (by decide +kernel)]; exact ⟨rfl, rfl⟩))
    (fun os started H enc _ => lifted os started H enc)

theorem proved : Rows.AllocNamesCardSaid :=
  Claim7.holds_tied_plain_at .later [] [.data] true (true, "d51b28ec476ad5e110a5fa4d00725c99c0202bcd09048f8c0e32b6214a67fac0") false
    over (fun _ h => by cases h) (by kernel_rfl) (fun _ h => by cases h) allocNames_row_tie rfl ⟨rfl, rfl⟩ (by kernel_rfl) rfl
    (fun f fn hf hfn => by
      obtain rfl : f = 5 := Option.some.inj ((show Tryd.prog.funcNamed "keysmith/keysmithlaw14.AllocNames" = some 5 by kernel_rfl).symm.trans hf) |>.symm
      obtain rfl : fn = Tryd.f5 := (Option.some.inj (Tryd.func5.symm.trans hfn)).symm
      exact ⟨by kernel_rfl, fun j t ht => by
        rw [Tryd.params5] at ht
        simp at ht⟩)
    (by kernel_rfl)
#print axioms proved
end Go.Proofs.YtppoiahhaclleaaDoor.allocNames
