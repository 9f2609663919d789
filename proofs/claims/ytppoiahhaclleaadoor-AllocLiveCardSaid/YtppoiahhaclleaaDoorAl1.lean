/- keysmithlaw14.AllocLive: for all programs and registers it returns true: spans begin and end as told. No condition but that the table of math/bits is as its initialiser lays it (the card ties that). -/
import Derived.Test.YtppoiahhaclleaaDoorKeepEx
import Derived.Test.YtppoiahhaclleaaDoorAllocE
import Derived.ChangeKeysEq
import Derived.Laws.StructEq
import Derived.Deep.Slices
import Derived.ProofKit
import Derived.Test.YtppoiahhaclleaaDoorPick
import Derived.Test.YtppoiahhaclleaaDoorCards
import Derived.Test.YtppoiahhaclleaaDoorTie
import Derived.LaidMore
import Derived.Lib.LaidTab
import Derived.OpenShut
namespace Go.Proofs.YtppoiahhaclleaaDoor
open Go.RowKit

def exP : LP := ⟨3, [], [⟨1, 0, -1, -1, -1, -1, 0, 7⟩, ⟨16, 1, -1, -1, -1, -1, 0, 3⟩, ⟨3, 0, -1, 0, 1, -1, 0, 0⟩, ⟨17, -1, -1, -1, -1, -1, 0, 0⟩]⟩
theorem ex_check : checkF exP 64 = (4, 0) := by decide +kernel
theorem ex_spans : spansF exP = [(0, 3), (1, 3), (-1, -1)] := by decide +kernel
theorem ex_ord : ordTo (spansF exP) 3 = [0, 1] := by rw [ex_spans]; decide +kernel
theorem ex_sort : insF (keyF (spansF exP)) 0 ((ordTo (spansF exP) 3).length - 1) 1 (ordTo (spansF exP) 3) = [0, 1] := by rw [ex_ord, ex_spans]; decide +kernel
def exPl : Nat → Nat → Int | 1, 0 => 0 | 1, _ => -1 | _, k => -1 - k
theorem ex_keeps1 : Keeps (spansF exP) [0, 1] 1 (exPl 1) := by
  rw [ex_spans]
  refine keeps_two (fun | 0 => 1 | _ => 0) (fun | 0 => 18446744073709551615 | 1 => 18446744073709551615 | _ => 18446744073709551614) (0, 3) (1, 3) rfl rfl rfl rfl ?_ ?_ (by decide)
  · intro k; constructor <;> (split <;> omega)
  · intro k hk
    match k, hk with
    | 0, _ => exact .inl ⟨by decide, by decide +kernel, rfl, by decide +kernel⟩
    | 1, _ => exact .inr ⟨rfl, rfl, by decide +kernel, by decide +kernel⟩
theorem ex_keeps0 : Keeps (spansF exP) [0, 1] 0 (exPl 0) := by
  rw [ex_spans]
  refine keeps_two (fun _ => 0) (fun | 0 => 18446744073709551615 | 1 => 18446744073709551614 | _ => 18446744073709551612) (0, 3) (1, 3) rfl rfl rfl rfl ?_ ?_ (by decide)
  · intro k; refine ⟨by omega, ?_⟩; split <;> omega
  · intro k hk
    match k, hk with
    | 0, _ => exact .inr ⟨rfl, rfl, by decide +kernel, by decide +kernel⟩
    | 1, _ => exact .inr ⟨rfl, rfl, by decide +kernel, by decide +kernel⟩
theorem ex_out1 : OF [0, 1] (exPl 1) 3 2 = [0, -1, 0] := by decide +kernel
theorem ex_out0 : OF [0, 1] (exPl 0) 3 2 = [-1, -2, 0] := by decide +kernel
/-- alloc.Build of the example. -/
theorem Build_ex (Ab Ao : Option Addr) (nb cb no co pool : Nat) (out : List Int) (w : World) (hp : ProgAt w (fun k => k < w.heap.size) [.int .i64 3, .slice Ab nb cb, .slice Ao no co] exP) (hT : TzAt w) (ho : pool = 1 ∧ out = [0, -1, 0] ∨ pool = 0 ∧ out = [-1, -2, 0]) :
    Calls Tryd.prog 13 #[.agg #[.int .i64 3, .slice Ab nb cb, .slice Ao no co], .int .i64 (pool : Nat)] w fun e w' => ∃ go, e = .returned (.tuple #[.slice (some ⟨go, 0, none⟩) 3 3, .int .i64 0]) ∧ w.heap.size ≤ go ∧ EndsAt w' go out ∧ Below w.heap.size w w' := by
  have hl : (ordTo (spansF exP) 3).length = 2 := by rw [ex_ord]; rfl
  have h := Build_any exP Ab Ao nb cb no co 3 pool (exPl pool) w hp (by rw [ex_check]) rfl (by omega) hT (by rw [hl]; omega) (by
    rw [ex_sort]
    rcases ho with ⟨rfl, _⟩ | ⟨rfl, _⟩
    · exact ex_keeps1
    · exact ex_keeps0)
  rw [ex_sort, hl] at h
  rcases ho with ⟨rfl, rfl⟩ | ⟨rfl, rfl⟩
  · rw [ex_out1] at h; exact h
  · rw [ex_out0] at h; exact h
end Go.Proofs.YtppoiahhaclleaaDoor

/- The example as the program makes it; lives. -/
namespace Go.Proofs.YtppoiahhaclleaaDoor
open Go.RowKit

set_option maxHeartbeats 1600000 in
theorem op_is (o : LOp) (he : o.e = -1) (hc : o.c = -1) (hb : o.buf = 0) (w : World) : Calls Tryd.prog 45 #[.int .i64 o.kind, .int .i64 o.d, .int .i64 o.a, .int .i64 o.b, .int .u64 o.imm] w fun e w' => e = .returned (.agg (opRow o).toArray) ∧ Below w.heap.size w w' := by
  obtain ⟨kind, d, e, a, b, c, buf, imm⟩ := o
  simp only [] at he hc hb
  subst he hc hb
  obtain ⟨W, hW⟩ : ∃ q, q = w.alloc (.cells (opRow ⟨kind, d, -1, a, b, -1, 0, imm⟩).toArray 47) := ⟨_, rfl⟩
  have hb : Below w.heap.size w W := by rw [hW]; exact (Below.refl _ _).alloc (Nat.le_refl _) _
  have h1 : W.heap[w.heap.size]? = some (.cells (opRow ⟨kind, d, -1, a, b, -1, 0, imm⟩).toArray 47 (0, 0)) := by rw [hW]; exact heap_alloc_new w _
  have HB := Lib.hid hb
  have H1 := Lib.hid h1
  have HW := Lib.hid hW
  clear hW hb h1
  go_enter Tryd.func45, Tryd.ntmps45
  go_wp2
  refine bodyPost_ret (v := .agg (opRow ⟨kind, d, -1, a, b, -1, 0, imm⟩).toArray) (one_result rfl _ _ w.heap.size 47 _ (0, 0) _ rfl (heap_alloc_new w _) Tryd.underlying47 rfl (by kernel_rfl)) rfl ?_
  refine ⟨rfl, ?_⟩
  have := HB.out
  rw [HW.out] at this
  exact this
set_option maxRecDepth 100000 in
set_option maxHeartbeats 4000000 in
theorem example_is (w : World) : Calls Tryd.prog 22 #[] w fun e w' => ∃ go, e = .returned (.agg #[.int .i64 3, .slice none 0 0, .slice (some ⟨go, 0, none⟩) 4 4]) ∧ Below w.heap.size w w' ∧ w'.heap[go]? = some (.cells ((exP.ops.map opRow).flatten).toArray 47 (0, 0)) := by
  have H0 : ∀ W : World, Calls Tryd.prog 45 #[.int .i64 1, .int .i64 0, .int .i64 (-1), .int .i64 (-1), .int .u64 7] W fun e w' => e = .returned (.agg #[.int .i64 1, .int .i64 0, .int .i64 (-1), .int .i64 (-1), .int .i64 (-1), .int .i64 (-1), .int .i64 0, .int .u64 7]) ∧ Below W.heap.size W w' := fun W => op_is ⟨1, 0, -1, -1, -1, -1, 0, 7⟩ rfl rfl rfl W
  have H1 : ∀ W : World, Calls Tryd.prog 45 #[.int .i64 16, .int .i64 1, .int .i64 (-1), .int .i64 (-1), .int .u64 3] W fun e w' => e = .returned (.agg #[.int .i64 16, .int .i64 1, .int .i64 (-1), .int .i64 (-1), .int .i64 (-1), .int .i64 (-1), .int .i64 0, .int .u64 3]) ∧ Below W.heap.size W w' := fun W => op_is ⟨16, 1, -1, -1, -1, -1, 0, 3⟩ rfl rfl rfl W
  have H2 : ∀ W : World, Calls Tryd.prog 45 #[.int .i64 3, .int .i64 0, .int .i64 0, .int .i64 1, .int .u64 0] W fun e w' => e = .returned (.agg #[.int .i64 3, .int .i64 0, .int .i64 (-1), .int .i64 0, .int .i64 1, .int .i64 (-1), .int .i64 0, .int .u64 0]) ∧ Below W.heap.size W w' := fun W => op_is ⟨3, 0, -1, 0, 1, -1, 0, 0⟩ rfl rfl rfl W
  have H3 : ∀ W : World, Calls Tryd.prog 45 #[.int .i64 17, .int .i64 (-1), .int .i64 (-1), .int .i64 (-1), .int .u64 0] W fun e w' => e = .returned (.agg #[.int .i64 17, .int .i64 (-1), .int .i64 (-1), .int .i64 (-1), .int .i64 (-1), .int .i64 (-1), .int .i64 0, .int .u64 0]) ∧ Below W.heap.size W w' := fun W => op_is ⟨17, -1, -1, -1, -1, -1, 0, 0⟩ rfl rfl rfl W
  obtain ⟨W, hW⟩ : ∃ q, q = w.alloc (.cells #[.int .i64 0, .slice none 0 0, .slice none 0 0] 25) := ⟨_, rfl⟩
  have hb : Below w.heap.size w W := by rw [hW]; exact (Below.refl _ _).alloc (Nat.le_refl _) _
  have h1 : W.heap[w.heap.size]? = some (.cells #[.int .i64 0, .slice none 0 0, .slice none 0 0] 25 (0, 0)) := by rw [hW]; exact heap_alloc_new w _
  have HB := Lib.hid hb
  have HC := Lib.hid h1
  have HW := Lib.hid hW
  have K0 := Lib.hid H0
  have K1 := Lib.hid H1
  have K2 := Lib.hid H2
  have K3 := Lib.hid H3
  clear hW hb h1 H0 H1 H2 H3
  go_enter Tryd.func22, Tryd.ntmps22
  go_upto_region 1 with fail
  rw [← HW.out]
  go_wp2_with (first | ((with_reducible refine (K0.out _).mono ?_); rintro e w1 ⟨rfl, hb1⟩; have HB1 := Lib.hid hb1; clear hb1) | ((with_reducible refine (K1.out _).mono ?_); rintro e w2 ⟨rfl, hb1⟩; have HB2 := Lib.hid hb1; clear hb1) | ((with_reducible refine (K2.out _).mono ?_); rintro e w3 ⟨rfl, hb1⟩; have HB3 := Lib.hid hb1; clear hb1) | ((with_reducible refine (K3.out _).mono ?_); rintro e w4 ⟨rfl, hb1⟩; have HB4 := Lib.hid (HB1.out.trans ((HB2.out.trans ((HB3.out.trans (hb1.mono HB3.out.size)).mono HB2.out.size)).mono HB1.out.size)); clear hb1; have HC4 := Lib.hid ((HB4.out.block w.heap.size (lt_of_block HC.out)).trans HC.out); have HA := Lib.hid (fun x => (Below.heap_alloc w4 x _ (lt_of_block HC4.out)).trans HC4.out); have a0 := fun x => cell_row (row := [_, _, _]) (HA.out x) (k := 0) rfl; have a1 := fun x => cell_row (row := [_, _, _]) (HA.out x) (k := 1) rfl; have a2 := fun x => cell_row (row := [_, _, _]) (HA.out x) (k := 2) rfl; have a3 := fun x k => frozen_row (row := [_, _, _]) (HA.out x) k))
  have hset := setCell_row (setCell_row (setCell_row (row := [_, _, _]) (HA.out (.cells ((exP.ops.map opRow).flatten).toArray 47)) 0 (.int .i64 3)) 1 (.slice none 0 0)) 2 (.slice (some ⟨w4.heap.size, 0, none⟩) 4 4)
  refine bodyPost_ret (v := .agg #[.int .i64 3, .slice none 0 0, .slice (some ⟨w4.heap.size, 0, none⟩) 4 4]) (one_result rfl _ _ w.heap.size 25 #[.int .i64 3, .slice none 0 0, .slice (some ⟨w4.heap.size, 0, none⟩) 4 4] (0, 0) _ rfl hset Tryd.underlying25 rfl (by kernel_rfl)) rfl ?_
  have hz : w.heap.size < W.heap.size := lt_of_block HC.out
  have hz4 := HB4.out.size
  refine ⟨w4.heap.size, rfl, ?_, ?_⟩
  · exact ((((HB.out.trans (HB4.out.mono HB.out.size)).alloc (Nat.le_trans HB.out.size hz4) _).setCell (Nat.le_refl _) _).setCell (Nat.le_refl _) _).setCell (Nat.le_refl _) _
  · have hne : w4.heap.size ≠ w.heap.size := by omega
    exact (Below.heap_setCell _ _ _ _ hne).trans ((Below.heap_setCell _ _ _ _ hne).trans ((Below.heap_setCell _ _ _ _ hne).trans (heap_alloc_new w4 _)))
theorem ex_at {w : World} {go : Nat} (h : w.heap[go]? = some (.cells ((exP.ops.map opRow).flatten).toArray 47 (0, 0))) : ProgAt w (fun k => k < w.heap.size) [.int .i64 3, .slice none 0 0, .slice (some ⟨go, 0, none⟩) 4 4] exP := by
  have hown : w.ownsRow 0 47 8 (.slice (some ⟨go, 0, none⟩) 4 4) (exP.ops.map opRow).length ((exP.ops.map opRow).flatten) := ⟨rfl, .inr ⟨go, 4, _, rfl, Nat.zero_le _, h, by decide, by decide, rfl, rfl⟩⟩
  refine ⟨⟨_, _, rfl, ⟨none, 0, rfl, by simp [exP], by intro r hr; simp [exP] at hr, fun h => absurd rfl h⟩, (rows_own hown (by intro r hr; obtain ⟨x, _, rfl⟩ := List.mem_map.1 hr; rfl)).mono fun k hk => (own_lt hown k hk).1⟩, by decide, by decide, by decide, by decide⟩
end Go.Proofs.YtppoiahhaclleaaDoor


/- keysmithkit.Same of rows of two ints. -/
namespace Go.Proofs.YtppoiahhaclleaaDoor
open Go.RowKit

theorem eq_two (a b c d : Int) (w : World) : (Op.equalIn 10000 43 (.agg #[.int .i64 a, .int .i64 b]) (.agg #[.int .i64 c, .int .i64 d])).run Tryd.prog w = .ok (a == c && b == d) w := by
  obtain ⟨j0, hie, hy0, hy1, hy2⟩ := info_parts infoI
  rw [show (10000 : Nat) = 9999 + 1 from rfl, run_equalIn_array w 9999 _ _ Tryd.underlying43 hie, show List.range 2 = [0, 1] from rfl, show Tryd.prog.cellsOf 3 = 1 by kernel_rfl]
  have hp : ∀ (x y : Int) (w : World), (part 3 #[.int .i64 x, .int .i64 y] 0).run Tryd.prog w = .ok (.int .i64 x) w ∧ (part 3 #[.int .i64 x, .int .i64 y] 1).run Tryd.prog w = .ok (.int .i64 y) w := fun x y w => by
    constructor <;> (go_simp; try rfl)
  have he : ∀ (x y : Int) (w : World), (Op.equalIn 9999 3 (.int .i64 x) (.int .i64 y)).run Tryd.prog w = .ok (x == y) w := fun x y w => run_equalIn_int (P := Tryd.prog) w 9998 3 .i64 .i64 x y Tryd.underlying3
  cases hac : (a == c) <;> cases hbd : (b == d) <;> simp [Op.eqItems, Sem.run_bind, (hp a b w).1, (hp a b w).2, (hp c d w).1, (hp c d w).2, he, hac, hbd]
theorem rows2_at {w : World} {F : Nat → Prop} {A : Option Addr} {n c : Nat} {a : List (Int × Int)} (h : Rows w F 2 (.slice A n c) (a.map spanRow)) {k : Nat} {s : Int × Int} (hk : a[k]? = some s) :
    ∃ b off, A = some ⟨b, off, none⟩ ∧ F b ∧ w.cell? ⟨b, off + k * 2, none⟩ = some (.int .i64 s.1) ∧ w.cell? ⟨b, off + k * 2 + 1, none⟩ = some (.int .i64 s.2) := by
  obtain ⟨A', c', hv, _, _, hh⟩ := h
  cases hv
  obtain ⟨b, off, rfl, hF, hc⟩ := hh (by intro e; rw [List.map_eq_nil_iff] at e; rw [e] at hk; cases hk)
  have hr : (a.map spanRow)[k]? = some (spanRow s) := by rw [List.getElem?_map, hk]; rfl
  exact ⟨b, off, rfl, hF, by simpa using hc k 0 _ _ hr rfl, hc k 1 _ _ hr rfl⟩
theorem take_eq {T : Type} {a b : List T} {k : Nat} {x y : T} (h : a.take k = b.take k) (hx : a[k]? = some x) (hy : b[k]? = some y) : a.take (k + 1) = b.take (k + 1) ↔ x = y := by
  rw [List.take_add_one, List.take_add_one, hx, hy, h]
  simp
set_option maxRecDepth 100000 in
set_option maxHeartbeats 4000000 in
theorem Same2_any (v u : Value) (w : World) (F : Nat → Prop) (a b : List (Int × Int)) (hn : a.length ≤ 1000) (hm : b.length ≤ 1000) (ha : Rows w F 2 v (a.map spanRow)) (hb : Rows w F 2 u (b.map spanRow)) (hF : ∀ k, F k → k < w.heap.size) :
    Calls Tryd.prog 25 #[v, u] w fun e w' => e = .returned (.bool (decide (a = b))) ∧ Below w.heap.size w w' := by
  obtain ⟨A, c, rfl, _⟩ := rows_form ha
  obtain ⟨B, d, rfl, _⟩ := rows_form hb
  obtain ⟨n, hna⟩ : ∃ n, a.length = n := ⟨_, rfl⟩
  obtain ⟨m, hmb⟩ : ∃ n, b.length = n := ⟨_, rfl⟩
  rw [hna] at ha hn ⊢
  rw [hmb] at hb hm ⊢
  have HA := Lib.hid ha
  have HB := Lib.hid hb
  have HF := Lib.hid hF
  have HL := Lib.hid (And.intro hna hmb)
  clear ha hb hF hna hmb
  by_cases hnm : n = m
  · subst hnm
    have q0 : ((n : Int) != (n : Int)) = false := by simp
    go_enter Tryd.func25, Tryd.ntmps25
    go_wp2
    go_loopw [5] (fun j wr => ∃ k : Nat, k ≤ n ∧ j = .int .i64 k ∧ Below w.heap.size w wr ∧ Hid (a.take k = b.take k)) (fun j _ => n - (intOf j).toNat)
    case atStart => exact ⟨0, by omega, rfl, Below.refl _ _, rfl⟩
    case round =>
      obtain ⟨k, hk, rfl, hbl, HT⟩ := hrel
      have HBL := Lib.hid hbl
      clear hbl
      by_cases hlt : k < n
      · obtain ⟨s, hs⟩ : ∃ s, a[k]? = some s := ⟨_, List.getElem?_eq_getElem (by have := HL.out.1; omega)⟩
        obtain ⟨t, ht⟩ : ∃ s, b[k]? = some s := ⟨_, List.getElem?_eq_getElem (by have := HL.out.2; omega)⟩
        obtain ⟨ba, oa, rfl, hFa, p0, p1⟩ := rows2_at HA.out hs
        obtain ⟨bb, ob, rfl, hFb, r0, r1⟩ := rows2_at HB.out ht
        have HTE := Lib.hid (take_eq HT.out hs ht)
        obtain ⟨x0, x1⟩ := s
        obtain ⟨y0, y1⟩ := t
        simp only [] at p0 p1 r0 r1
        have HCC := Lib.hid (And.intro ((HBL.out.cell (p := ⟨ba, oa + k * 2, none⟩) (HF.out _ hFa)).trans p0) (And.intro ((HBL.out.cell (p := ⟨ba, oa + k * 2 + 1, none⟩) (HF.out _ hFa)).trans p1) (And.intro ((HBL.out.cell (p := ⟨bb, ob + k * 2, none⟩) (HF.out _ hFb)).trans r0) ((HBL.out.cell (p := ⟨bb, ob + k * 2 + 1, none⟩) (HF.out _ hFb)).trans r1))))
        have i0 : (0 : Int) ≤ (k : Int) := by omega
        have i1 : (k : Int) < (n : Int) := by omega
        have q1 : IntKind.i64.wrap (k : Int) = k := by rw [IntKind.wrap_i64]; omega
        clear hs ht p0 p1 r0 r1 hFa hFb
        cases d0 : (x0 == y0)
        · have HNE := Lib.hid (show ¬ ((x0, x1) = (y0, y1)) from fun e => by cases e; simp at d0)
          have heq := fun w => eq_two x0 x1 y0 y1 w
          rw [d0, Bool.false_and] at heq
          go_wp2
          (refine wp_region_lines (fun w_ => w_.cell? ⟨ba, oa + k * 2, none⟩ = some (.int .i64 x0) ∧ w_.cell? ⟨ba, oa + k * 2 + 1, none⟩ = some (.int .i64 x1) ∧ w_.cell? ⟨bb, ob + k * 2, none⟩ = some (.int .i64 y0) ∧ w_.cell? ⟨bb, ob + k * 2 + 1, none⟩ = some (.int .i64 y1)) (by kernel_rfl) (by kernel_rfl) HCC.out ?_)
          (try simp only [])
          repeat (first | (refine runL_no (by rfl) ?_; (try simp only [Act.put, List.setIfInBounds_toArray, List.set_cons_zero, List.set_cons_succ])) | (refine runL_val (v := ?_) (by rfl) ?_ ?_; rotate_left; (focus (intro w_ hw_; obtain ⟨f1_, f2_, f3_, f4_⟩ := hw_; go_simp; (try with_reducible rfl); done)); (try simp only [Act.put, List.setIfInBounds_toArray, List.set_cons_zero, List.set_cons_succ])))
          (refine runL_nil ?_)
          go_wp2
          go_ret
          exact ⟨ret_bool (by symm; exact decide_eq_false (fun e => HNE.out (HTE.out.1 (by rw [e])))), HBL.out.drew⟩
        · cases d1 : (x1 == y1)
          · have HNE := Lib.hid (show ¬ ((x0, x1) = (y0, y1)) from fun e => by cases e; simp at d1)
            have heq := fun w => eq_two x0 x1 y0 y1 w
            rw [d0, d1, Bool.and_false] at heq
            go_wp2
            (refine wp_region_lines (fun w_ => w_.cell? ⟨ba, oa + k * 2, none⟩ = some (.int .i64 x0) ∧ w_.cell? ⟨ba, oa + k * 2 + 1, none⟩ = some (.int .i64 x1) ∧ w_.cell? ⟨bb, ob + k * 2, none⟩ = some (.int .i64 y0) ∧ w_.cell? ⟨bb, ob + k * 2 + 1, none⟩ = some (.int .i64 y1)) (by kernel_rfl) (by kernel_rfl) HCC.out ?_)
            (try simp only [])
            repeat (first | (refine runL_no (by rfl) ?_; (try simp only [Act.put, List.setIfInBounds_toArray, List.set_cons_zero, List.set_cons_succ])) | (refine runL_val (v := ?_) (by rfl) ?_ ?_; rotate_left; (focus (intro w_ hw_; obtain ⟨f1_, f2_, f3_, f4_⟩ := hw_; go_simp; (try with_reducible rfl); done)); (try simp only [Act.put, List.setIfInBounds_toArray, List.set_cons_zero, List.set_cons_succ])))
            (refine runL_nil ?_)
            go_wp2
            go_ret
            exact ⟨ret_bool (by symm; exact decide_eq_false (fun e => HNE.out (HTE.out.1 (by rw [e])))), HBL.out.drew⟩
          · have HEQ := Lib.hid (show (x0, x1) = (y0, y1) by rw [eq_of_beq d0, eq_of_beq d1])
            have heq := fun w => eq_two x0 x1 y0 y1 w
            rw [d0, d1, Bool.and_true] at heq
            go_wp2
            (refine wp_region_lines (fun w_ => w_.cell? ⟨ba, oa + k * 2, none⟩ = some (.int .i64 x0) ∧ w_.cell? ⟨ba, oa + k * 2 + 1, none⟩ = some (.int .i64 x1) ∧ w_.cell? ⟨bb, ob + k * 2, none⟩ = some (.int .i64 y0) ∧ w_.cell? ⟨bb, ob + k * 2 + 1, none⟩ = some (.int .i64 y1)) (by kernel_rfl) (by kernel_rfl) HCC.out ?_)
            (try simp only [])
            repeat (first | (refine runL_no (by rfl) ?_; (try simp only [Act.put, List.setIfInBounds_toArray, List.set_cons_zero, List.set_cons_succ])) | (refine runL_val (v := ?_) (by rfl) ?_ ?_; rotate_left; (focus (intro w_ hw_; obtain ⟨f1_, f2_, f3_, f4_⟩ := hw_; go_simp; (try with_reducible rfl); done)); (try simp only [Act.put, List.setIfInBounds_toArray, List.set_cons_zero, List.set_cons_succ])))
            (refine runL_nil ?_)
            go_wp2
            go_roundw
            case rel => exact ⟨k + 1, by omega, by go_num, HBL.out.drew, HTE.out.2 HEQ.out⟩
            case measure => simp [intOf]; omega
      · have hkn : k = n := by omega
        subst hkn
        have hab : a = b := by
          have h := HT.out
          rw [List.take_of_length_le (by rw [HL.out.1]; exact Nat.le_refl _), List.take_of_length_le (by rw [HL.out.2]; exact Nat.le_refl _)] at h
          exact h
        have HAB := Lib.hid hab
        clear hab
        go_wp2
        go_ret
        exact ⟨ret_bool (by symm; exact decide_eq_true HAB.out), HBL.out⟩
  · have q0 : ((n : Int) != (m : Int)) = true := by simp; omega
    have HNM := Lib.hid (show ¬ a = b from fun e => hnm (by rw [← HL.out.1, ← HL.out.2, e]))
    clear hnm
    go_enter Tryd.func25, Tryd.ntmps25
    go_wp2
    go_ret
    exact ⟨ret_bool (by symm; exact decide_eq_false HNM.out), Below.refl _ _⟩
end Go.Proofs.YtppoiahhaclleaaDoor

/- lives: true. -/
namespace Go.Proofs.YtppoiahhaclleaaDoor
open Go.RowKit

theorem ex_p1 : placesF exP 1 [0, -1, 0] = 0 := by decide +kernel
theorem ex_p2 : placesF exP 2 [0, 0, 0] = 6 := by decide +kernel
theorem ex_same {A : Option Addr} {c : Nat} {F : Nat → Prop} (w : World) (hr : Rows w F 2 (.slice A 3 c) ((spansF exP).map spanRow)) (hF : ∀ k, F k → k < w.heap.size) :
    Calls Tryd.prog 25 #[.slice A 3 c, .slice (some ⟨w.heap.size, 0, none⟩) 3 3] (w.alloc (.cells #[.int .i64 0, .int .i64 3, .int .i64 1, .int .i64 3, .int .i64 (-1), .int .i64 (-1)] 43)) fun e w' => e = .returned (.bool true) ∧ Below w.heap.size w w' := by
  have hb : Below w.heap.size w (w.alloc (.cells #[.int .i64 0, .int .i64 3, .int .i64 1, .int .i64 3, .int .i64 (-1), .int .i64 (-1)] 43)) := (Below.refl _ _).alloc (Nat.le_refl _) _
  obtain ⟨W, hW⟩ : ∃ q, q = w.alloc (.cells #[.int .i64 0, .int .i64 3, .int .i64 1, .int .i64 3, .int .i64 (-1), .int .i64 (-1)] 43) := ⟨_, rfl⟩
  have h1 : W.heap[w.heap.size]? = some (.cells #[.int .i64 0, .int .i64 3, .int .i64 1, .int .i64 3, .int .i64 (-1), .int .i64 (-1)] 43 (0, 0)) := by rw [hW]; exact heap_alloc_new w _
  rw [← hW] at hb ⊢
  have hown : W.ownsRow 0 43 2 (.slice (some ⟨w.heap.size, 0, none⟩) 3 3) (([(0, 3), (1, 3), (-1, -1)] : List (Int × Int)).map spanRow).length ((([(0, 3), (1, 3), (-1, -1)] : List (Int × Int)).map spanRow).flatten) := ⟨rfl, .inr ⟨w.heap.size, 3, _, rfl, Nat.zero_le _, h1, by decide, by decide, rfl, rfl⟩⟩
  have h := Same2_any _ _ W (fun k => k < W.heap.size) (spansF exP) [(0, 3), (1, 3), (-1, -1)] (by rw [ex_spans]; decide) (by decide) ((Rows.keep hr (SameOn.of_below hb hF)).mono fun k hk => Nat.lt_of_lt_of_le (hF k hk) hb.size) ((rows_own hown (by intro r hr; obtain ⟨x, _, rfl⟩ := List.mem_map.1 hr; rfl)).mono fun k hk => (own_lt hown k hk).1) (fun _ h => h)
  rw [ex_spans] at h
  refine h.mono ?_
  rintro e w' ⟨rfl, hb'⟩
  exact ⟨rfl, hb.trans (hb'.mono hb.size)⟩
theorem ex_chk2 {go : Nat} (w : World) (hx : w.heap[go]? = some (.cells ((exP.ops.map opRow).flatten).toArray 47 (0, 0))) :
    Calls Tryd.prog 24 #[.agg #[.int .i64 3, .slice none 0 0, .slice (some ⟨go, 0, none⟩) 4 4], .int .i64 2, .slice (some ⟨w.heap.size, 0, none⟩) 3 3] (w.alloc (.cells #[.int .i64 0, .int .i64 0, .int .i64 0] 3)) fun e w' => e = .returned (.int .i64 6) ∧ Below w.heap.size w w' := by
  have hb : Below w.heap.size w (w.alloc (.cells #[.int .i64 0, .int .i64 0, .int .i64 0] 3)) := (Below.refl _ _).alloc (Nat.le_refl _) _
  obtain ⟨W, hW⟩ : ∃ q, q = w.alloc (.cells #[.int .i64 0, .int .i64 0, .int .i64 0] 3) := ⟨_, rfl⟩
  have h1 : W.heap[w.heap.size]? = some (.cells (intV [0, 0, 0]).toArray 3 (0, 0)) := by rw [hW]; exact heap_alloc_new w _
  rw [← hW] at hb ⊢
  have h := acheck_any exP none (some ⟨go, 0, none⟩) (some ⟨w.heap.size, 0, none⟩) 0 0 4 4 3 3 2 [0, 0, 0] W (ex_at ((hb.block go (lt_of_block hx)).trans hx)) ((nums_blk h1).mono fun k hk => by subst hk; exact lt_of_block h1)
  rw [ex_p2] at h
  refine h.mono ?_
  rintro e w' ⟨rfl, hb'⟩
  exact ⟨rfl, hb.trans (hb'.mono hb.size)⟩
theorem ex_chk1 {go gl : Nat} (w : World) (hx : w.heap[go]? = some (.cells ((exP.ops.map opRow).flatten).toArray 47 (0, 0))) (hl : EndsAt w gl [0, -1, 0]) :
    Calls Tryd.prog 24 #[.agg #[.int .i64 3, .slice none 0 0, .slice (some ⟨go, 0, none⟩) 4 4], .int .i64 1, .slice (some ⟨gl, 0, none⟩) 3 3] w fun e w' => e = .returned (.int .i64 0) ∧ Below w.heap.size w w' := by
  have h := acheck_any exP none (some ⟨go, 0, none⟩) (some ⟨gl, 0, none⟩) 0 0 4 4 3 3 1 [0, -1, 0] w (ex_at hx) ((nums_blk hl).mono fun k hk => by subst hk; exact lt_of_block hl)
  rw [ex_p1] at h
  exact h
set_option maxRecDepth 100000 in
set_option maxHeartbeats 8000000 in
theorem lives_is (w : World) (hT : TzAt w) : Calls Tryd.prog 7 #[] w fun e w' => e = .returned (.bool true) ∧ Below w.heap.size w w' := by
  have hw0 : 0 < w.heap.size := lt_cell (hT 0 (by decide))
  have HE := Lib.hid (example_is w)
  have HT := Lib.hid hT
  have HW0 := Lib.hid hw0
  clear hT hw0
  go_enter Tryd.func7, Tryd.ntmps7
  go_upto_region 2 with ((with_reducible refine (HE.out).mono ?_); rintro e w1 ⟨go, rfl, hb1, hops⟩; have H1 := Lib.hid (And.intro hb1 hops); clear hb1 hops)
  obtain ⟨W, hW⟩ : ∃ q, q = w1.alloc (.cells #[.int .i64 3, .slice none 0 0, .slice (some ⟨go, 0, none⟩) 4 4] 25) := ⟨_, rfl⟩
  rw [← hW]
  obtain ⟨gp, hgp⟩ : ∃ q, w1.heap.size = q := ⟨_, rfl⟩
  rw [hgp]
  have hbW : Below w1.heap.size w1 W := by rw [hW]; exact (Below.refl _ _).alloc (Nat.le_refl _) _
  have hp : W.heap[gp]? = some (.cells #[.int .i64 3, .slice none 0 0, .slice (some ⟨go, 0, none⟩) 4 4] 25 (0, 0)) := by rw [hW, ← hgp]; exact heap_alloc_new w1 _
  have HB := Lib.hid (show Below w.heap.size w W from H1.out.1.trans (hbW.mono H1.out.1.size))
  have HP := Lib.hid hp
  have HX := Lib.hid (show W.heap[go]? = some (.cells ((exP.ops.map opRow).flatten).toArray 47 (0, 0)) from (hbW.block go (lt_of_block H1.out.2)).trans H1.out.2)
  have HAT := Lib.hid (fun wr (hb : Below W.heap.size W wr) => ex_at ((hb.block go (lt_of_block HX.out)).trans HX.out))
  have HPR := Lib.hid (fun wr (hb : Below W.heap.size W wr) => (hb.block gp (lt_of_block HP.out)).trans HP.out)
  have HBU := Lib.hid (show Calls Tryd.prog 13 #[.agg #[.int .i64 3, .slice none 0 0, .slice (some ⟨go, 0, none⟩) 4 4], .int .i64 1] W _ from Build_ex none (some ⟨go, 0, none⟩) 0 0 4 4 1 [0, -1, 0] W (HAT.out W (Below.refl _ _)) (HT.out.next HB.out HW0.out) (.inl ⟨rfl, rfl⟩))
  have c0 : W.cell? ⟨gp, 0, none⟩ = some (.int .i64 3) := cell_row (row := [_, _, _]) HP.out rfl
  have c1 : W.cell? ⟨gp, 1, none⟩ = some (.slice none 0 0) := cell_row (row := [_, _, _]) HP.out rfl
  have c2 : W.cell? ⟨gp, 2, none⟩ = some (.slice (some ⟨go, 0, none⟩) 4 4) := cell_row (row := [_, _, _]) HP.out rfl
  clear hW hbW hp hgp
  go_upto_region 3 with ((with_reducible refine (HBU.out).mono ?_); rintro e w2 ⟨gl, rfl, hgl, hel, hb2⟩; have H2 := Lib.hid (And.intro hgl (And.intro hel hb2)); clear hgl hel hb2)
  clear c0 c1 c2
  have c0 : w2.cell? ⟨gp, 0, none⟩ = some (.int .i64 3) := cell_row (row := [_, _, _]) (HPR.out w2 H2.out.2.2) rfl
  have c1 : w2.cell? ⟨gp, 1, none⟩ = some (.slice none 0 0) := cell_row (row := [_, _, _]) (HPR.out w2 H2.out.2.2) rfl
  have c2 : w2.cell? ⟨gp, 2, none⟩ = some (.slice (some ⟨go, 0, none⟩) 4 4) := cell_row (row := [_, _, _]) (HPR.out w2 H2.out.2.2) rfl
  have HX2 := Lib.hid ((H2.out.2.2.block go (lt_of_block HX.out)).trans HX.out)
  have HLV := Lib.hid (show Calls Tryd.prog 20 #[.agg #[.int .i64 3, .slice none 0 0, .slice (some ⟨go, 0, none⟩) 4 4]] w2 _ from Live_ok exP none (some ⟨go, 0, none⟩) 0 0 4 4 3 w2 (HAT.out w2 H2.out.2.2) (by rw [ex_check]) rfl)
  go_wp2_with (first | ((with_reducible refine (HLV.out).mono ?_); rintro e w3 ⟨A3, c3, rfl, hb3, hr3⟩; have HL3 := Lib.hid (EndsAt.chg (P := fun _ => False) H2.out.2.1 (.of_below hb3) id); have HSM := Lib.hid (ex_same w3 hr3 (fun _ h => h.2)); have H3 := Lib.hid (H2.out.2.2.trans (hb3.mono H2.out.2.2.size)); clear hb3 hr3) | ((with_reducible refine (HSM.out).mono ?_); rintro e w4 ⟨rfl, hb4⟩; have H4 := Lib.hid (H3.out.trans (hb4.mono H3.out.size)); have HD4 := Lib.hid (H4.out.block gp (lt_of_block HP.out)); have d0 : w4.cell? ⟨gp, 0, none⟩ = some (.int .i64 3) := cell_row (row := [_, _, _]) (HPR.out w4 H4.out) rfl; have d1 : w4.cell? ⟨gp, 1, none⟩ = some (.slice none 0 0) := cell_row (row := [_, _, _]) (HPR.out w4 H4.out) rfl; have d2 : w4.cell? ⟨gp, 2, none⟩ = some (.slice (some ⟨go, 0, none⟩) 4 4) := cell_row (row := [_, _, _]) (HPR.out w4 H4.out) rfl; have HK1 := Lib.hid (ex_chk1 (go := go) (gl := gl) w4 ((H4.out.block go (lt_of_block HX.out)).trans HX.out) (EndsAt.chg (P := fun _ => False) HL3.out (.of_below hb4) id)); clear hb4) | ((with_reducible refine (HK1.out).mono ?_); rintro e w5 ⟨rfl, hb5⟩; have H5 := Lib.hid (H4.out.trans (hb5.mono H4.out.size)); have f0 : w5.cell? ⟨gp, 0, none⟩ = some (.int .i64 3) := cell_row (row := [_, _, _]) (HPR.out w5 H5.out) rfl; have f1 : w5.cell? ⟨gp, 1, none⟩ = some (.slice none 0 0) := cell_row (row := [_, _, _]) (HPR.out w5 H5.out) rfl; have f2 : w5.cell? ⟨gp, 2, none⟩ = some (.slice (some ⟨go, 0, none⟩) 4 4) := cell_row (row := [_, _, _]) (HPR.out w5 H5.out) rfl; have HK2 := Lib.hid (ex_chk2 (go := go) w5 ((H5.out.block go (lt_of_block HX.out)).trans HX.out)); clear hb5) | ((with_reducible refine (HK2.out).mono ?_); rintro e w6 ⟨rfl, hb6⟩; have H6 := Lib.hid (H5.out.trans (hb6.mono H5.out.size)); clear hb6))
  go_ret
  exact ⟨rfl, HB.out.trans (H6.out.mono HB.out.size)⟩
end Go.Proofs.YtppoiahhaclleaaDoor

/- What AllocLive asks of a span: plain. -/
namespace Go.Proofs.YtppoiahhaclleaaDoor
open Go.RowKit

theorem check_same (p : LP) : checkF p p.regs.toNat = checkF p 64 := by
  by_cases h : headF p = 0
  · have := head_ok h
    exact check_alike (by omega) (by omega)
  · unfold checkF
    rw [if_pos h, if_pos h]
/-- The first operation of so many that has a register. -/
def FirstIs (p : LP) (r : Int) (k : Nat) (f : Int) : Prop :=
  (f = -1 ∧ ∀ (j : Nat) (q : LOp), j < k → p.ops[j]? = some q → hasF q r = false) ∨
  (∃ (i : Nat) (o : LOp), f = i ∧ i < k ∧ p.ops[i]? = some o ∧ hasF o r = true ∧ ∀ (j : Nat) (q : LOp), j < i → p.ops[j]? = some q → hasF q r = false)
theorem first_zero (p : LP) (r : Int) : FirstIs p r 0 (-1) := .inl ⟨rfl, fun j q h => absurd h (by omega)⟩
theorem first_no {p : LP} {r f : Int} {k : Nat} {o : LOp} (h : FirstIs p r k f) (ho : p.ops[k]? = some o) (hh : hasF o r = false) : FirstIs p r (k + 1) f := by
  rcases h with ⟨h1, h2⟩ | ⟨i, o', h1, h2, h3⟩
  · refine .inl ⟨h1, fun j q hj hq => ?_⟩
    rcases Nat.lt_or_ge j k with h | h
    · exact h2 j q h hq
    · obtain rfl : j = k := by omega
      rw [ho] at hq; cases hq; exact hh
  · exact .inr ⟨i, o', h1, by omega, h3⟩
theorem first_more {p : LP} {r f : Int} {k : Nat} (h : FirstIs p r k f) (hf : ¬ f < 0) : FirstIs p r (k + 1) f := by
  rcases h with ⟨h1, h2⟩ | ⟨i, o', h1, h2, h3⟩
  · omega
  · exact .inr ⟨i, o', h1, by omega, h3⟩
theorem first_yes {p : LP} {r f : Int} {k : Nat} {o : LOp} (h : FirstIs p r k f) (hf : f < 0) (ho : p.ops[k]? = some o) (hh : hasF o r = true) : FirstIs p r (k + 1) k := by
  rcases h with ⟨h1, h2⟩ | ⟨i, o', h1, h2, h3⟩
  · exact .inr ⟨k, o, rfl, by omega, ho, hh, h2⟩
  · omega
theorem live_has {p : LP} {r k : Nat} {s : Int × Int} {o : LOp} (h : SpanIs p r s) (ho : p.ops[k]? = some o) (hh : hasF o r = true) : 0 ≤ s.1 ∧ s.1 ≤ k ∧ (k : Int) ≤ s.2 := by
  have hl := h.last k o ho hh
  rcases Int.lt_or_le s.1 0 with h0 | h0
  · have := (h.none_ h0).2.2 k o ho
    rw [hh] at this; cases this
  · refine ⟨h0, ?_, hl⟩
    obtain ⟨_, i, o', h1, h2, h3, h4⟩ := h.some_ h0
    rcases Nat.lt_or_ge k i with hk | hk
    · have := h4 k o hk ho
      rw [hh] at this; cases this
    · omega
theorem live_loop {p : LP} {r k : Nat} {s : Int × Int} {o : LOp} (h : SpanIs p r s) (ho : p.ops[k]? = some o) (hk : o.kind = 16) (h0 : 0 ≤ s.1) (h1 : s.1 < k) (h2 : (k : Int) < s.2) : ¬ s.2 < (endsF p.ops).getD k 0 := by
  have := h.lasts k o ho hk h0 h1 (by omega)
  omega
theorem live_end {p : LP} {r : Nat} {s : Int × Int} {f : Int} (h : SpanIs p r s) (hf : FirstIs p r p.ops.length f) : s.1 = f ∧ (s.2 < 0 ↔ f < 0) ∧ s.2 < max 1 (p.ops.length : Int) := by
  have hlt := h.lt
  refine ⟨?_, ?_, by omega⟩
  · rcases hf with ⟨h1, h2⟩ | ⟨i, o, h1, h2, h3, h4, h5⟩
    · rcases Int.lt_or_le s.1 0 with h0 | h0
      · rw [(h.none_ h0).1, h1]
      · obtain ⟨_, i, o, e1, e2, e3, _⟩ := h.some_ h0
        have := h2 i o (List.getElem?_eq_some_iff.1 e2).1 e2
        rw [e3] at this; cases this
    · have hh := live_has h h3 h4
      obtain ⟨_, j, q, e1, e2, e3, e4⟩ := h.some_ hh.1
      rcases Nat.lt_trichotomy i j with h' | h' | h'
      · have := e4 i o h' h3
        rw [h4] at this; cases this
      · omega
      · have := h5 j q h' e2
        rw [e3] at this; cases this
  · rcases hf with ⟨h1, h2⟩ | ⟨i, o, h1, h2, h3, h4, h5⟩
    · rcases Int.lt_or_le s.1 0 with h0 | h0
      · have := (h.none_ h0).2.1
        omega
      · obtain ⟨_, i, o, e1, e2, e3, _⟩ := h.some_ h0
        have := h2 i o (List.getElem?_eq_some_iff.1 e2).1 e2
        rw [e3] at this; cases this
    · have hh := live_has h h3 h4
      omega
end Go.Proofs.YtppoiahhaclleaaDoor

/- An argument of type LimbProg, opened. -/
namespace Go.Proofs.YtppoiahhaclleaaDoor
open Go.ChangeShapes Go.WideShapes Go.Deep Go.RowKit

theorem list_of_all {α : Type} (Q : Nat → α → Prop) : ∀ n, (∀ i, i < n → ∃ x, Q i x) → ∃ L : List α, L.length = n ∧ ∀ (i : Nat) (x : α), L[i]? = some x → Q i x
  | 0, _ => ⟨[], rfl, fun i x h => by simp at h⟩
  | n + 1, h => by
    obtain ⟨L, hl, hq⟩ := list_of_all Q n (fun i hi => h i (by omega))
    obtain ⟨x, hx⟩ := h n (by omega)
    refine ⟨L ++ [x], by simp [hl], fun i y hy => ?_⟩
    rcases Nat.lt_or_ge i n with hi | hi
    · rw [List.getElem?_append_left (by omega)] at hy; exact hq i y hy
    · rw [List.getElem?_append_right (by omega)] at hy
      have : i - L.length = 0 := by
        rcases Nat.eq_zero_or_pos (i - L.length) with h | h
        · exact h
        · rw [List.getElem?_eq_none (by simp; omega)] at hy; cases hy
      rw [this] at hy
      simp at hy
      subst hy
      rw [show i = n from by omega]; exact hx

theorem plain_addr {w : World} {a : Addr} {k : Nat} {v : Value} (h : w.cell? (a.add k) = some v) (h0 : ∃ u, w.cell? a = some u) : a = ⟨a.block, a.off, none⟩ ∧ a.block < w.heap.size ∧ a.add k = ⟨a.block, a.off + k, none⟩ := by
  obtain ⟨u, hu⟩ := h0
  have hb := World.block_lt_of_cell? w a hu
  have hs : a.spot = none := by
    cases hsp : a.spot with
    | none => rfl
    | some s =>
      unfold World.cell? at hu
      split at hu
      · simp [hsp] at hu
      · cases hu
  have ha : a = ⟨a.block, a.off, none⟩ := by cases a; simp_all
  refine ⟨ha, hb, ?_⟩
  unfold Addr.add
  split
  · rename_i hk; subst hk; simpa using ha
  · rfl

section
variable {H : Type} {enc : TypeId × Value → H} {w : World}

theorem open_rows {α : Type} {T St sz : Nat} (row : α → List Value) (Q : α → Prop) (hT : Tryd.prog.underlying T = some (.slice St)) (hC : Tryd.prog.cellsOf St = sz) (h0 : 0 < sz) (hrow : ∀ x, (row x).length = sz)
    (each : ∀ fuel cs y, DataW.trod enc Tryd.prog w 0 (fun _ => true) true fuel St cs = some y → cs.length = sz → ∃ x, cs = row x ∧ Q x)
    {A : Option Addr} {n c : Nat} {d : DataW H} {ps : List MemPlace} (h : DataW.Trod enc Tryd.prog w 0 (fun _ => true) true T (.slice A n c) d ps) :
    ∃ l : List α, Rows w (fun k => k < w.heap.size) sz (.slice A n c) (l.map row) ∧ (∀ x ∈ l, Q x) ∧ l.length ≤ 9223372036854775807 := by
  obtain ⟨fuel, hf⟩ := h
  rcases open_slice hT hf with ⟨hcs, _⟩ | ⟨a, len, cap, m, q, D, Pl, hcs, _, hl, hm, hmm, _, hi⟩
  · simp [Value.cells] at hcs
    obtain ⟨rfl, rfl, rfl⟩ := hcs
    exact ⟨[], ⟨none, 0, rfl, by simp, by simp, fun h => absurd rfl h⟩, by simp, by simp⟩
  · simp [Value.cells] at hcs
    obtain ⟨rfl, rfl, rfl⟩ := hcs
    simp only [if_true] at hmm
    have ech : ∀ i, i < n → ∃ x : α, Q x ∧ ∀ (j : Nat) (u : Value), (row x)[j]? = some u → w.cell? (a.add (i * sz + j)) = some u := fun i hin => by
      obtain ⟨cs', hc, ht⟩ := hi i (by omega)
      rw [hC] at hc
      obtain ⟨_, hlen, hat⟩ := World.cells?_some hc
      obtain ⟨x, rfl, hq⟩ := each _ _ _ ht hlen
      refine ⟨x, hq, fun j u hu => ?_⟩
      have := hat j (by rw [← hlen]; exact (List.getElem?_eq_some_iff.1 hu).1)
      rw [← add_add, this, hu]
    obtain ⟨L, hL, hq⟩ := list_of_all _ n ech
    refine ⟨L, ⟨some a, c, by simp [hL], by simp [hL]; omega, fun r hr => by obtain ⟨x, _, rfl⟩ := List.mem_map.1 hr; exact hrow x, fun hne => ?_⟩, fun x hx => ?_, by rw [hL]; unfold maxLen at hm; omega⟩
    · have hpos : 0 < L.length := by
        cases L with
        | nil => simp at hne
        | cons => simp
      have hl0 := hrow L[0]
      obtain ⟨u0, hu0⟩ : ∃ u, (row L[0])[0]? = some u := by
        cases hx : row L[0] with
        | nil => rw [hx] at hl0; simp at hl0; omega
        | cons u us => exact ⟨u, rfl⟩
      have hp0 := (hq 0 L[0] (List.getElem?_eq_getElem hpos)).2 0 u0 hu0
      have h00 : ∃ u, w.cell? a = some u := ⟨_, by simpa [Addr.add] using hp0⟩
      obtain ⟨ha, hb, _⟩ := plain_addr hp0 h00
      refine ⟨a.block, a.off, by rw [← ha], hb, fun i j r u hr hu => ?_⟩
      rw [List.getElem?_map] at hr
      cases hpi : L[i]? with
      | none => rw [hpi] at hr; cases hr
      | some x =>
        rw [hpi] at hr
        cases hr
        have hc := (hq i x hpi).2 j u hu
        obtain ⟨_, _, hadd⟩ := plain_addr hc h00
        rw [hadd] at hc
        rw [show a.off + i * sz + j = a.off + (i * sz + j) from by omega]
        exact hc
    · obtain ⟨i, hi⟩ := List.mem_iff_getElem?.1 hx
      exact (hq i x hi).1

theorem trod_u64 {fuel : Nat} {cs : List Value} {y : DataW H × List MemPlace} (h : DataW.trod enc Tryd.prog w 0 (fun _ => true) true fuel 45 cs = some y) : ∃ n : Nat, cs = [.int .u64 n] ∧ n < 18446744073709551616 := by
  obtain ⟨z, hz, _, hwf⟩ := DataW.trod_int Tryd.underlying45 h
  have hzb : 0 ≤ z ∧ z ≤ 18446744073709551615 := by simpa [Lit.wf, IntKind.min, IntKind.max, IntKind.bits, IntKind.signed] using hwf
  exact ⟨z.toNat, by rw [hz]; congr 2; omega, by omega⟩
theorem trod_i64 {fuel : Nat} {cs : List Value} {y : DataW H × List MemPlace} (h : DataW.trod enc Tryd.prog w 0 (fun _ => true) true fuel 3 cs = some y) : ∃ z : Int, cs = [.int .i64 z] ∧ -9223372036854775808 ≤ z ∧ z ≤ 9223372036854775807 := by
  obtain ⟨z, hz, _, hwf⟩ := DataW.trod_int Tryd.underlying3 h
  have hzb : -9223372036854775808 ≤ z ∧ z ≤ 9223372036854775807 := by simpa [Lit.wf, IntKind.min, IntKind.max, IntKind.bits, IntKind.signed] using hwf
  exact ⟨z, hz, hzb⟩
end
section
variable {H : Type} {enc : TypeId × Value → H} {w : World}
theorem trod_bool1 {fuel : Nat} {cs : List Value} {y : DataW H × List MemPlace} (h : DataW.trod enc Tryd.prog w 0 (fun _ => true) true fuel 4 cs = some y) : ∃ b, cs = [.bool b] := by
  obtain ⟨b, hb, _⟩ := DataW.trod_bool Tryd.underlying4 h
  exact ⟨b, hb⟩
theorem trod_form {T St fuel : Nat} {c : Value} {y : DataW H × List MemPlace} (hT : Tryd.prog.underlying T = some (.slice St)) (h : DataW.trod enc Tryd.prog w 0 (fun _ => true) true fuel T [c] = some y) : ∃ A n k, c = .slice A n k := by
  rcases open_slice hT h with ⟨hcs, _⟩ | ⟨a, len, cap, m, q, D, Pl, hcs, _⟩
  · cases hcs; exact ⟨_, _, _, rfl⟩
  · cases hcs; exact ⟨_, _, _, rfl⟩
set_option maxRecDepth 100000 in
theorem open_buf (fuel : Nat) (cs : List Value) (y : DataW H × List MemPlace) (h : DataW.trod enc Tryd.prog w 0 (fun _ => true) true fuel 60 cs = some y) (hl : cs.length = 3) : ∃ x : Bf, cs = bufRow x ∧ (-9223372036854775808 ≤ x.size ∧ x.size ≤ 9223372036854775807) := by
  obtain ⟨xs, f, _, _, hlen, hxl, hfs⟩ := DataW.trod_struct Tryd.underlying60 h
  match cs, hl with
  | [c0, c1, c2], _ =>
    match xs, hxl with
    | [y0, y1, y2], _ =>
      have t0 : DataW.trod enc Tryd.prog w 0 (fun _ => true) true f 3 (([c0, c1, c2].drop 0).take (Tryd.prog.cellsOf 3)) = some y0 := hfs 0 _ rfl
      have t1 : DataW.trod enc Tryd.prog w 0 (fun _ => true) true f 3 (([c0, c1, c2].drop 1).take (Tryd.prog.cellsOf 3)) = some y1 := hfs 1 _ rfl
      have t2 : DataW.trod enc Tryd.prog w 0 (fun _ => true) true f 4 (([c0, c1, c2].drop 2).take (Tryd.prog.cellsOf 4)) = some y2 := hfs 2 _ rfl
      have k0 : Tryd.prog.cellsOf 3 = 1 := by kernel_rfl
      have k2 : Tryd.prog.cellsOf 4 = 1 := by kernel_rfl
      rw [k0] at t0 t1
      rw [k2] at t2
      simp only [List.drop_zero, List.drop_succ_cons, List.take_succ_cons, List.take_zero] at t0 t1 t2
      obtain ⟨a, ha, b1, b2⟩ := trod_i64 t0
      obtain ⟨b, hb, _, _⟩ := trod_i64 t1
      obtain ⟨s, hs⟩ := trod_bool1 t2
      cases ha; cases hb; cases hs
      exact ⟨⟨a, b, s⟩, rfl, b1, b2⟩
set_option maxRecDepth 100000 in
theorem open_op (fuel : Nat) (cs : List Value) (y : DataW H × List MemPlace) (h : DataW.trod enc Tryd.prog w 0 (fun _ => true) true fuel 47 cs = some y) (hl : cs.length = 8) : ∃ x : LOp, cs = opRow x ∧ x.imm < 18446744073709551616 := by
  obtain ⟨xs, f, _, _, hlen, hxl, hfs⟩ := DataW.trod_struct Tryd.underlying47 h
  match cs, hl with
  | [c0, c1, c2, c3, c4, c5, c6, c7], _ =>
    match xs, hxl with
    | [y0, y1, y2, y3, y4, y5, y6, y7], _ =>
      have k0 : Tryd.prog.cellsOf 3 = 1 := by kernel_rfl
      have k2 : Tryd.prog.cellsOf 45 = 1 := by kernel_rfl
      have t0 : DataW.trod enc Tryd.prog w 0 (fun _ => true) true f 3 (([c0, c1, c2, c3, c4, c5, c6, c7].drop 0).take (Tryd.prog.cellsOf 3)) = some y0 := hfs 0 _ rfl
      have t1 : DataW.trod enc Tryd.prog w 0 (fun _ => true) true f 3 (([c0, c1, c2, c3, c4, c5, c6, c7].drop 1).take (Tryd.prog.cellsOf 3)) = some y1 := hfs 1 _ rfl
      have t2 : DataW.trod enc Tryd.prog w 0 (fun _ => true) true f 3 (([c0, c1, c2, c3, c4, c5, c6, c7].drop 2).take (Tryd.prog.cellsOf 3)) = some y2 := hfs 2 _ rfl
      have t3 : DataW.trod enc Tryd.prog w 0 (fun _ => true) true f 3 (([c0, c1, c2, c3, c4, c5, c6, c7].drop 3).take (Tryd.prog.cellsOf 3)) = some y3 := hfs 3 _ rfl
      have t4 : DataW.trod enc Tryd.prog w 0 (fun _ => true) true f 3 (([c0, c1, c2, c3, c4, c5, c6, c7].drop 4).take (Tryd.prog.cellsOf 3)) = some y4 := hfs 4 _ rfl
      have t5 : DataW.trod enc Tryd.prog w 0 (fun _ => true) true f 3 (([c0, c1, c2, c3, c4, c5, c6, c7].drop 5).take (Tryd.prog.cellsOf 3)) = some y5 := hfs 5 _ rfl
      have t6 : DataW.trod enc Tryd.prog w 0 (fun _ => true) true f 3 (([c0, c1, c2, c3, c4, c5, c6, c7].drop 6).take (Tryd.prog.cellsOf 3)) = some y6 := hfs 6 _ rfl
      have t7 : DataW.trod enc Tryd.prog w 0 (fun _ => true) true f 45 (([c0, c1, c2, c3, c4, c5, c6, c7].drop 7).take (Tryd.prog.cellsOf 45)) = some y7 := hfs 7 _ rfl
      rw [k0] at t0 t1 t2 t3 t4 t5 t6
      rw [k2] at t7
      simp only [List.drop_zero, List.drop_succ_cons, List.take_succ_cons, List.take_zero] at t0 t1 t2 t3 t4 t5 t6 t7
      obtain ⟨a0, h0, _⟩ := trod_i64 t0
      obtain ⟨a1, h1, _⟩ := trod_i64 t1
      obtain ⟨a2, h2, _⟩ := trod_i64 t2
      obtain ⟨a3, h3, _⟩ := trod_i64 t3
      obtain ⟨a4, h4, _⟩ := trod_i64 t4
      obtain ⟨a5, h5, _⟩ := trod_i64 t5
      obtain ⟨a6, h6, _⟩ := trod_i64 t6
      obtain ⟨a7, h7, hb⟩ := trod_u64 t7
      cases h0; cases h1; cases h2; cases h3; cases h4; cases h5; cases h6; cases h7
      exact ⟨⟨a0, a1, a2, a3, a4, a5, a6, a7⟩, rfl, hb⟩
set_option maxRecDepth 100000 in
theorem open_prog {cs : Array Value} {d : DataW H} {ps : List MemPlace} (h : DataW.Trod enc Tryd.prog w 0 (fun _ => true) true 25 (.agg cs) d ps) :
    ∃ (p : LP) (Ab Ao : Option Addr) (nb cb no co : Nat), cs = #[.int .i64 p.regs, .slice Ab nb cb, .slice Ao no co] ∧ ProgAt w (fun k => k < w.heap.size) [.int .i64 p.regs, .slice Ab nb cb, .slice Ao no co] p ∧ -9223372036854775808 ≤ p.regs ∧ p.regs ≤ 9223372036854775807 := by
  obtain ⟨fuel, hf⟩ := h
  obtain ⟨xs, f, _, _, hlen, hxl, hfs⟩ := DataW.trod_struct Tryd.underlying25 hf
  have hC : Tryd.prog.cellsOf 25 = 3 := by kernel_rfl
  rw [hC] at hlen
  have hcs : (Value.agg cs).cells.toList = cs.toList := rfl
  rw [hcs] at hlen hfs
  obtain ⟨l⟩ := cs
  simp only [] at hlen hfs
  match l, hlen with
  | [c0, c1, c2], _ =>
    match xs, hxl with
    | [y0, y1, y2], _ =>
      have t0 : DataW.trod enc Tryd.prog w 0 (fun _ => true) true f 3 (([c0, c1, c2].drop 0).take (Tryd.prog.cellsOf 3)) = some y0 := hfs 0 _ rfl
      have t1 : DataW.trod enc Tryd.prog w 0 (fun _ => true) true f 22 (([c0, c1, c2].drop 1).take (Tryd.prog.cellsOf 22)) = some y1 := hfs 1 _ rfl
      have t2 : DataW.trod enc Tryd.prog w 0 (fun _ => true) true f 23 (([c0, c1, c2].drop 2).take (Tryd.prog.cellsOf 23)) = some y2 := hfs 2 _ rfl
      have k0 : Tryd.prog.cellsOf 3 = 1 := by kernel_rfl
      have k1 : Tryd.prog.cellsOf 22 = 1 := by kernel_rfl
      have k2 : Tryd.prog.cellsOf 23 = 1 := by kernel_rfl
      rw [k0] at t0
      rw [k1] at t1
      rw [k2] at t2
      simp only [List.drop_zero, List.drop_succ_cons, List.take_succ_cons, List.take_zero] at t0 t1 t2
      obtain ⟨z, hz, hz1, hz2⟩ := trod_i64 t0
      obtain ⟨Ab, nb, cb, rfl⟩ := trod_form Tryd.underlying22 t1
      obtain ⟨Ao, no, co, rfl⟩ := trod_form Tryd.underlying23 t2
      cases hz
      obtain ⟨lb, hb, hbq, hbl⟩ := open_rows bufRow (fun x : Bf => -9223372036854775808 ≤ x.size ∧ x.size ≤ 9223372036854775807) Tryd.underlying22 (by kernel_rfl) (by decide) (fun _ => rfl) open_buf (d := y1.1) (ps := y1.2) ⟨f, t1⟩
      obtain ⟨lo, ho, hoq, hol⟩ := open_rows opRow (fun x : LOp => x.imm < 18446744073709551616) Tryd.underlying23 (by kernel_rfl) (by decide) (fun _ => rfl) open_op (d := y2.1) (ps := y2.2) ⟨f, t2⟩
      exact ⟨⟨z, lb, lo⟩, Ab, Ao, nb, cb, no, co, rfl, ⟨⟨_, _, rfl, hb, ho⟩, hbl, hol, hoq, hbq⟩, hz1, hz2⟩
end
end Go.Proofs.YtppoiahhaclleaaDoor

/- AllocLive: its regions. -/
namespace Go.Proofs.YtppoiahhaclleaaDoor
open Go.RowKit

def hasL (d e a b c r : Int) : Bool := d == r || (e == r || (a == r || (b == r || c == r)))
theorem hasL_is (o : LOp) (r : Int) : hasL o.d o.e o.a o.b o.c r = hasF o r := by unfold hasL hasF; simp only [Bool.or_assoc]
set_option maxRecDepth 100000 in
set_option maxHeartbeats 4000000 in
theorem live_r15 {g : Nat} {r d e a b c : Int} (w : World) (Q : Exit → Act → World → Prop) {u0 u2 u3 u4 u5 u6 u7 u8 u9 u10 u12 u13 u14 u15 u16 u17 u18 u19 u20 u21 u22 u23 u24 u25 u26 u27 u28 u29 u30 u31 u32 u33 u34 u35 u36 u37 u38 u39 u40 u41 u42 u43 u44 u45 u46 u47 u48 u49 u50 u51 u52 u53 u54 u55 u56 u57 u58 u59 u60 u61 u62 u63 u64 u65 u66 u67 u68 u69 u70 u71 u72 u73 u74 u75 u76 u77 u78 u79 u80 u81 u82 u83 u84 u85 u86 u87 u88 u89 u90 u91 u92 u93 u94 u95 u96 u97 u98 u99 u100 u101 u102 u103 u104 u105 u106 u107 u108 u109 u110 u111 u112 u113 u114 u115 u116 u117 u118 u119 u120 u121 u122 u123 u124 u125 u126 u127 u128 u129 u130 u131 u132 u133 u134 u135 u136 u137 u138 u139 u140 u141 u142 u143 u144 u145 u146 u147 u148 u149 u150 u151 u152 u153 u154 u155 u156 u157 u158 u159 u160 u161 u162 u163 u164 u165 u166 u167 u168 u169 u170 u171 u172 u173 u174 u175 u176 u177 u178 u179 u180 : Value} (h1 : w.cell? ⟨g, 1, none⟩ = some (.int .i64 d)) (h2 : w.cell? ⟨g, 2, none⟩ = some (.int .i64 e)) (h3 : w.cell? ⟨g, 3, none⟩ = some (.int .i64 a)) (h4 : w.cell? ⟨g, 4, none⟩ = some (.int .i64 b)) (h5 : w.cell? ⟨g, 5, none⟩ = some (.int .i64 c))
    (k : ∀ (v57 v58 v59 v60 v61 v62 v63 v64 v65 v66 v67 v68 v69 v70 v71 v72 v73 v74 v75 v76 v77 v78 v79 v80 v81 v82 v83 v84 : Value), Q .normal ⟨#[u0, .int .i64 r, u2, u3, u4, u5, u6, u7, u8, u9, u10, .pointer (some ⟨g, 0, none⟩), .bool (hasL d e a b c r), u13, u14, u15, u16, u17, u18, u19, u20, u21, u22, u23, u24, u25, u26, u27, u28, u29, u30, u31, u32, u33, u34, u35, u36, u37, u38, u39, u40, u41, u42, u43, u44, u45, u46, u47, u48, u49, u50, u51, u52, u53, u54, u55, u56, v57, v58, v59, v60, v61, v62, v63, v64, v65, v66, v67, v68, v69, v70, v71, v72, v73, v74, v75, v76, v77, v78, v79, v80, v81, v82, v83, v84, u85, u86, u87, u88, u89, u90, u91, u92, u93, u94, u95, u96, u97, u98, u99, u100, u101, u102, u103, u104, u105, u106, u107, u108, u109, u110, u111, u112, u113, u114, u115, u116, u117, u118, u119, u120, u121, u122, u123, u124, u125, u126, u127, u128, u129, u130, u131, u132, u133, u134, u135, u136, u137, u138, u139, u140, u141, u142, u143, u144, u145, u146, u147, u148, u149, u150, u151, u152, u153, u154, u155, u156, u157, u158, u159, u160, u161, u162, u163, u164, u165, u166, u167, u168, u169, u170, u171, u172, u173, u174, u175, u176, u177, u178, u179, u180], []⟩ w) : (partR Tryd.f4 15).wp Tryd.prog Q ⟨#[u0, .int .i64 r, u2, u3, u4, u5, u6, u7, u8, u9, u10, .pointer (some ⟨g, 0, none⟩), u12, u13, u14, u15, u16, u17, u18, u19, u20, u21, u22, u23, u24, u25, u26, u27, u28, u29, u30, u31, u32, u33, u34, u35, u36, u37, u38, u39, u40, u41, u42, u43, u44, u45, u46, u47, u48, u49, u50, u51, u52, u53, u54, u55, u56, u57, u58, u59, u60, u61, u62, u63, u64, u65, u66, u67, u68, u69, u70, u71, u72, u73, u74, u75, u76, u77, u78, u79, u80, u81, u82, u83, u84, u85, u86, u87, u88, u89, u90, u91, u92, u93, u94, u95, u96, u97, u98, u99, u100, u101, u102, u103, u104, u105, u106, u107, u108, u109, u110, u111, u112, u113, u114, u115, u116, u117, u118, u119, u120, u121, u122, u123, u124, u125, u126, u127, u128, u129, u130, u131, u132, u133, u134, u135, u136, u137, u138, u139, u140, u141, u142, u143, u144, u145, u146, u147, u148, u149, u150, u151, u152, u153, u154, u155, u156, u157, u158, u159, u160, u161, u162, u163, u164, u165, u166, u167, u168, u169, u170, u171, u172, u173, u174, u175, u176, u177, u178, u179, u180], []⟩ w := by
  have HK := Lib.hid k
  clear k
  conv => arg 2; whnf
  cases e0 : (d == r)
  · cases e1 : (e == r)
    · cases e2 : (a == r)
      · cases e3 : (b == r)
        · cases e4 : (c == r)
          · have hv : hasL d e a b c r = false := by unfold hasL; rw [e0, e1, e2, e3, e4]; rfl
            have HQ := HK.out
            rw [hv] at HQ
            have HQ := Lib.hid HQ
            clear hv
            go_wp2
            exact HQ.out _ _ _ _ _ _ _ _ _ _ _ _ _ _ _ _ _ _ _ _ _ _ _ _ _ _ _ _
          · have hv : hasL d e a b c r = true := by unfold hasL; rw [e0, e1, e2, e3, e4]; rfl
            have HQ := HK.out
            rw [hv] at HQ
            have HQ := Lib.hid HQ
            clear hv
            go_wp2
            exact HQ.out _ _ _ _ _ _ _ _ _ _ _ _ _ _ _ _ _ _ _ _ _ _ _ _ _ _ _ _
        · have hv : hasL d e a b c r = true := by unfold hasL; rw [e0, e1, e2, e3]; rfl
          have HQ := HK.out
          rw [hv] at HQ
          have HQ := Lib.hid HQ
          clear hv
          go_wp2
          exact HQ.out _ _ _ _ _ _ _ _ _ _ _ _ _ _ _ _ _ _ _ _ _ _ _ _ _ _ _ _
      · have hv : hasL d e a b c r = true := by unfold hasL; rw [e0, e1, e2]; rfl
        have HQ := HK.out
        rw [hv] at HQ
        have HQ := Lib.hid HQ
        clear hv
        go_wp2
        exact HQ.out _ _ _ _ _ _ _ _ _ _ _ _ _ _ _ _ _ _ _ _ _ _ _ _ _ _ _ _
    · have hv : hasL d e a b c r = true := by unfold hasL; rw [e0, e1]; rfl
      have HQ := HK.out
      rw [hv] at HQ
      have HQ := Lib.hid HQ
      clear hv
      go_wp2
      exact HQ.out _ _ _ _ _ _ _ _ _ _ _ _ _ _ _ _ _ _ _ _ _ _ _ _ _ _ _ _
  · have hv : hasL d e a b c r = true := by unfold hasL; rw [e0]; rfl
    have HQ := HK.out
    rw [hv] at HQ
    have HQ := Lib.hid HQ
    clear hv
    go_wp2
    exact HQ.out _ _ _ _ _ _ _ _ _ _ _ _ _ _ _ _ _ _ _ _ _ _ _ _ _ _ _ _

set_option maxRecDepth 100000 in
set_option maxHeartbeats 4000000 in
theorem live_r20 {g bl ol n cl be oe m ce r i : Nat} {kind s0 s1 en : Int} (w : World) (Q : Exit → Act → World → Prop) {u0 u2 u3 u4 u5 u6 u9 u12 u13 u14 u15 u16 u17 u18 u19 u20 u21 u22 u23 u24 u25 u26 u27 u28 u29 u30 u31 u32 u33 u34 u35 u36 u37 u38 u39 u40 u41 u42 u43 u44 u45 u46 u47 u48 u49 u50 u51 u52 u53 u54 u55 u56 u57 u58 u59 u60 u61 u62 u63 u64 u65 u66 u67 u68 u69 u70 u71 u72 u73 u74 u75 u76 u77 u78 u79 u80 u81 u82 u83 u84 u85 u86 u87 u88 u89 u90 u91 u92 u93 u94 u95 u96 u97 u98 u99 u100 u101 u102 u103 u104 u105 u106 u107 u108 u109 u110 u111 u112 u113 u114 u115 u116 u117 u118 u119 u120 u121 u122 u123 u124 u125 u126 u127 u128 u129 u130 u131 u132 u133 u134 u135 u136 u137 u138 u139 u140 u141 u142 u143 u144 u145 u146 u147 u148 u149 u150 u151 u152 u153 u154 u155 u156 u157 u158 u159 u160 u161 u162 u163 u164 u165 u166 u167 u168 u169 u170 u171 u172 u173 u174 u175 u176 u177 u178 u179 u180 : Value} (hk : w.cell? ⟨g, 0, none⟩ = some (.int .i64 kind)) (hs0 : w.cell? ⟨bl, ol + r * 2, none⟩ = some (.int .i64 s0)) (hs1 : w.cell? ⟨bl, ol + r * 2 + 1, none⟩ = some (.int .i64 s1)) (he : w.cell? ⟨be, oe + i, none⟩ = some (.int .i64 en)) (hr : r < n) (hi : i < m) (hn : n ≤ 65536) (hm : m ≤ 65536) (hno : kind = 16 → 0 ≤ s0 → s0 < i → (i : Int) < s1 → ¬ s1 < en) 
    (k : ∀ (v110 v111 v112 v113 v114 v115 v116 v117 v118 v119 v120 v121 v122 v123 v124 v125 v126 v127 v128 v129 v130 v131 v132 v133 v134 v135 v136 v137 v138 v139 v140 v141 v142 v143 v144 v145 v146 v147 v148 v149 : Value) (w' : World), w' = w.drew → Q .normal ⟨#[u0, .int .i64 (r : Nat), u2, u3, u4, u5, u6, .slice (some ⟨bl, ol, none⟩) n cl, .slice (some ⟨be, oe, none⟩) m ce, u9, .int .i64 (i : Nat), .pointer (some ⟨g, 0, none⟩), u12, u13, u14, u15, u16, u17, u18, u19, u20, u21, u22, u23, u24, u25, u26, u27, u28, u29, u30, u31, u32, u33, u34, u35, u36, u37, u38, u39, u40, u41, u42, u43, u44, u45, u46, u47, u48, u49, u50, u51, u52, u53, u54, u55, u56, u57, u58, u59, u60, u61, u62, u63, u64, u65, u66, u67, u68, u69, u70, u71, u72, u73, u74, u75, u76, u77, u78, u79, u80, u81, u82, u83, u84, u85, u86, u87, u88, u89, u90, u91, u92, u93, u94, u95, u96, u97, u98, u99, u100, u101, u102, u103, u104, u105, u106, u107, u108, u109, v110, v111, v112, v113, v114, v115, v116, v117, v118, v119, v120, v121, v122, v123, v124, v125, v126, v127, v128, v129, v130, v131, v132, v133, v134, v135, v136, v137, v138, v139, v140, v141, v142, v143, v144, v145, v146, v147, v148, v149, .bool false, u151, u152, u153, u154, u155, u156, u157, u158, u159, u160, u161, u162, u163, u164, u165, u166, u167, u168, u169, u170, u171, u172, u173, u174, u175, u176, u177, u178, u179, u180], []⟩ w') : (partR Tryd.f4 20).wp Tryd.prog Q ⟨#[u0, .int .i64 (r : Nat), u2, u3, u4, u5, u6, .slice (some ⟨bl, ol, none⟩) n cl, .slice (some ⟨be, oe, none⟩) m ce, u9, .int .i64 (i : Nat), .pointer (some ⟨g, 0, none⟩), u12, u13, u14, u15, u16, u17, u18, u19, u20, u21, u22, u23, u24, u25, u26, u27, u28, u29, u30, u31, u32, u33, u34, u35, u36, u37, u38, u39, u40, u41, u42, u43, u44, u45, u46, u47, u48, u49, u50, u51, u52, u53, u54, u55, u56, u57, u58, u59, u60, u61, u62, u63, u64, u65, u66, u67, u68, u69, u70, u71, u72, u73, u74, u75, u76, u77, u78, u79, u80, u81, u82, u83, u84, u85, u86, u87, u88, u89, u90, u91, u92, u93, u94, u95, u96, u97, u98, u99, u100, u101, u102, u103, u104, u105, u106, u107, u108, u109, u110, u111, u112, u113, u114, u115, u116, u117, u118, u119, u120, u121, u122, u123, u124, u125, u126, u127, u128, u129, u130, u131, u132, u133, u134, u135, u136, u137, u138, u139, u140, u141, u142, u143, u144, u145, u146, u147, u148, u149, u150, u151, u152, u153, u154, u155, u156, u157, u158, u159, u160, u161, u162, u163, u164, u165, u166, u167, u168, u169, u170, u171, u172, u173, u174, u175, u176, u177, u178, u179, u180], []⟩ w := by
  have HC := Lib.hid (And.intro hk (And.intro hs0 (And.intro hs1 he)))
  have i0 : (0 : Int) ≤ (r : Int) := by omega
  have i1 : (r : Int) < (n : Int) := by omega
  have i2 : (0 : Int) ≤ (i : Int) := by omega
  have i3 : (i : Int) < (m : Int) := by omega
  have q1 : IntKind.i64.wrap (r : Int) = r := by rw [IntKind.wrap_i64]; omega
  have q2 : IntKind.i64.wrap (i : Int) = i := by rw [IntKind.wrap_i64]; omega
  have HK := Lib.hid k
  have HNO := Lib.hid hno
  clear k hk hs0 hs1 he hr hi hno
  conv => arg 2; whnf
  go_wp2
  cases e0 : (kind == 16)
  · skip
    (refine wp_region_lines (fun w_ => w_.cell? ⟨g, 0, none⟩ = some (.int .i64 kind) ∧ w_.cell? ⟨bl, ol + r * 2, none⟩ = some (.int .i64 s0) ∧ w_.cell? ⟨bl, ol + r * 2 + 1, none⟩ = some (.int .i64 s1) ∧ w_.cell? ⟨be, oe + i, none⟩ = some (.int .i64 en)) (by kernel_rfl) (by kernel_rfl) HC.out ?_)
    (try simp only [])
    repeat (first | (refine runL_no (by rfl) ?_; (try simp only [Act.put, List.setIfInBounds_toArray, List.set_cons_zero, List.set_cons_succ])) | (refine runL_val (v := ?_) (by rfl) ?_ ?_; rotate_left; (focus (intro w_ hw_; obtain ⟨f1_, f2_, f3_, f4_⟩ := hw_; go_simp; (try with_reducible rfl); done)); (try simp only [Act.put, List.setIfInBounds_toArray, List.set_cons_zero, List.set_cons_succ])))
    (refine runL_nil ?_)
    exact HK.out _ _ _ _ _ _ _ _ _ _ _ _ _ _ _ _ _ _ _ _ _ _ _ _ _ _ _ _ _ _ _ _ _ _ _ _ _ _ _ _ _ rfl
  cases e1 : decide (0 ≤ s0)
  · skip
    (refine wp_region_lines (fun w_ => w_.cell? ⟨g, 0, none⟩ = some (.int .i64 kind) ∧ w_.cell? ⟨bl, ol + r * 2, none⟩ = some (.int .i64 s0) ∧ w_.cell? ⟨bl, ol + r * 2 + 1, none⟩ = some (.int .i64 s1) ∧ w_.cell? ⟨be, oe + i, none⟩ = some (.int .i64 en)) (by kernel_rfl) (by kernel_rfl) HC.out ?_)
    (try simp only [])
    repeat (first | (refine runL_no (by rfl) ?_; (try simp only [Act.put, List.setIfInBounds_toArray, List.set_cons_zero, List.set_cons_succ])) | (refine runL_val (v := ?_) (by rfl) ?_ ?_; rotate_left; (focus (intro w_ hw_; obtain ⟨f1_, f2_, f3_, f4_⟩ := hw_; go_simp; (try with_reducible rfl); done)); (try simp only [Act.put, List.setIfInBounds_toArray, List.set_cons_zero, List.set_cons_succ])))
    (refine runL_nil ?_)
    exact HK.out _ _ _ _ _ _ _ _ _ _ _ _ _ _ _ _ _ _ _ _ _ _ _ _ _ _ _ _ _ _ _ _ _ _ _ _ _ _ _ _ _ rfl
  cases e2 : decide (s0 < (i : Int))
  · skip
    (refine wp_region_lines (fun w_ => w_.cell? ⟨g, 0, none⟩ = some (.int .i64 kind) ∧ w_.cell? ⟨bl, ol + r * 2, none⟩ = some (.int .i64 s0) ∧ w_.cell? ⟨bl, ol + r * 2 + 1, none⟩ = some (.int .i64 s1) ∧ w_.cell? ⟨be, oe + i, none⟩ = some (.int .i64 en)) (by kernel_rfl) (by kernel_rfl) HC.out ?_)
    (try simp only [])
    repeat (first | (refine runL_no (by rfl) ?_; (try simp only [Act.put, List.setIfInBounds_toArray, List.set_cons_zero, List.set_cons_succ])) | (refine runL_val (v := ?_) (by rfl) ?_ ?_; rotate_left; (focus (intro w_ hw_; obtain ⟨f1_, f2_, f3_, f4_⟩ := hw_; go_simp; (try with_reducible rfl); done)); (try simp only [Act.put, List.setIfInBounds_toArray, List.set_cons_zero, List.set_cons_succ])))
    (refine runL_nil ?_)
    exact HK.out _ _ _ _ _ _ _ _ _ _ _ _ _ _ _ _ _ _ _ _ _ _ _ _ _ _ _ _ _ _ _ _ _ _ _ _ _ _ _ _ _ rfl
  cases e3 : decide ((i : Int) < s1)
  · skip
    (refine wp_region_lines (fun w_ => w_.cell? ⟨g, 0, none⟩ = some (.int .i64 kind) ∧ w_.cell? ⟨bl, ol + r * 2, none⟩ = some (.int .i64 s0) ∧ w_.cell? ⟨bl, ol + r * 2 + 1, none⟩ = some (.int .i64 s1) ∧ w_.cell? ⟨be, oe + i, none⟩ = some (.int .i64 en)) (by kernel_rfl) (by kernel_rfl) HC.out ?_)
    (try simp only [])
    repeat (first | (refine runL_no (by rfl) ?_; (try simp only [Act.put, List.setIfInBounds_toArray, List.set_cons_zero, List.set_cons_succ])) | (refine runL_val (v := ?_) (by rfl) ?_ ?_; rotate_left; (focus (intro w_ hw_; obtain ⟨f1_, f2_, f3_, f4_⟩ := hw_; go_simp; (try with_reducible rfl); done)); (try simp only [Act.put, List.setIfInBounds_toArray, List.set_cons_zero, List.set_cons_succ])))
    (refine runL_nil ?_)
    exact HK.out _ _ _ _ _ _ _ _ _ _ _ _ _ _ _ _ _ _ _ _ _ _ _ _ _ _ _ _ _ _ _ _ _ _ _ _ _ _ _ _ _ rfl
  have e4 : decide (s1 < en) = false := decide_eq_false (by have := HNO.out (eq_of_beq e0) (of_decide_eq_true e1) (of_decide_eq_true e2) (of_decide_eq_true e3); omega)
  (refine wp_region_lines (fun w_ => w_.cell? ⟨g, 0, none⟩ = some (.int .i64 kind) ∧ w_.cell? ⟨bl, ol + r * 2, none⟩ = some (.int .i64 s0) ∧ w_.cell? ⟨bl, ol + r * 2 + 1, none⟩ = some (.int .i64 s1) ∧ w_.cell? ⟨be, oe + i, none⟩ = some (.int .i64 en)) (by kernel_rfl) (by kernel_rfl) HC.out ?_)
  (try simp only [])
  repeat (first | (refine runL_no (by rfl) ?_; (try simp only [Act.put, List.setIfInBounds_toArray, List.set_cons_zero, List.set_cons_succ])) | (refine runL_val (v := ?_) (by rfl) ?_ ?_; rotate_left; (focus (intro w_ hw_; obtain ⟨f1_, f2_, f3_, f4_⟩ := hw_; go_simp; (try with_reducible rfl); done)); (try simp only [Act.put, List.setIfInBounds_toArray, List.set_cons_zero, List.set_cons_succ])))
  (refine runL_nil ?_)
  exact HK.out _ _ _ _ _ _ _ _ _ _ _ _ _ _ _ _ _ _ _ _ _ _ _ _ _ _ _ _ _ _ _ _ _ _ _ _ _ _ _ _ _ rfl
end Go.Proofs.YtppoiahhaclleaaDoor

/- AllocLive: regions 18, 22. -/
namespace Go.Proofs.YtppoiahhaclleaaDoor
open Go.RowKit

set_option maxRecDepth 100000 in
set_option maxHeartbeats 4000000 in
theorem live_r18 {bl ol n cl r i : Nat} {s0 s1 : Int} {h : Bool} (w : World) (Q : Exit → Act → World → Prop) {u0 u2 u3 u4 u5 u6 u8 u9 u11 u13 u14 u15 u16 u17 u18 u19 u20 u21 u22 u23 u24 u25 u26 u27 u28 u29 u30 u31 u32 u33 u34 u35 u36 u37 u38 u39 u40 u41 u42 u43 u44 u45 u46 u47 u48 u49 u50 u51 u52 u53 u54 u55 u56 u57 u58 u59 u60 u61 u62 u63 u64 u65 u66 u67 u68 u69 u70 u71 u72 u73 u74 u75 u76 u77 u78 u79 u80 u81 u82 u83 u84 u85 u86 u87 u88 u89 u90 u91 u92 u93 u94 u95 u96 u97 u98 u99 u100 u101 u102 u103 u104 u105 u106 u107 u108 u109 u110 u111 u112 u113 u114 u115 u116 u117 u118 u119 u120 u121 u122 u123 u124 u125 u126 u127 u128 u129 u130 u131 u132 u133 u134 u135 u136 u137 u138 u139 u140 u141 u142 u143 u144 u145 u146 u147 u148 u149 u150 u151 u152 u153 u154 u155 u156 u157 u158 u159 u160 u161 u162 u163 u164 u165 u166 u167 u168 u169 u170 u171 u172 u173 u174 u175 u176 u177 u178 u179 u180 : Value} (hs0 : w.cell? ⟨bl, ol + r * 2, none⟩ = some (.int .i64 s0)) (hs1 : w.cell? ⟨bl, ol + r * 2 + 1, none⟩ = some (.int .i64 s1)) (hr : r < n) (hh : h = true → s0 ≤ i ∧ (i : Int) ≤ s1)
    (k : ∀ (v91 v92 v93 v94 v95 v96 v97 v98 v99 v100 v101 v102 v103 v104 v105 v106 v107 v108 : Value), Q .normal ⟨#[u0, .int .i64 (r : Nat), u2, u3, u4, u5, u6, .slice (some ⟨bl, ol, none⟩) n cl, u8, u9, .int .i64 (i : Nat), u11, .bool h, u13, u14, u15, u16, u17, u18, u19, u20, u21, u22, u23, u24, u25, u26, u27, u28, u29, u30, u31, u32, u33, u34, u35, u36, u37, u38, u39, u40, u41, u42, u43, u44, u45, u46, u47, u48, u49, u50, u51, u52, u53, u54, u55, u56, u57, u58, u59, u60, u61, u62, u63, u64, u65, u66, u67, u68, u69, u70, u71, u72, u73, u74, u75, u76, u77, u78, u79, u80, u81, u82, u83, u84, u85, u86, u87, u88, u89, u90, v91, v92, v93, v94, v95, v96, v97, v98, v99, v100, v101, v102, v103, v104, v105, v106, v107, v108, .bool false, u110, u111, u112, u113, u114, u115, u116, u117, u118, u119, u120, u121, u122, u123, u124, u125, u126, u127, u128, u129, u130, u131, u132, u133, u134, u135, u136, u137, u138, u139, u140, u141, u142, u143, u144, u145, u146, u147, u148, u149, u150, u151, u152, u153, u154, u155, u156, u157, u158, u159, u160, u161, u162, u163, u164, u165, u166, u167, u168, u169, u170, u171, u172, u173, u174, u175, u176, u177, u178, u179, u180], []⟩ w) : (partR Tryd.f4 18).wp Tryd.prog Q ⟨#[u0, .int .i64 (r : Nat), u2, u3, u4, u5, u6, .slice (some ⟨bl, ol, none⟩) n cl, u8, u9, .int .i64 (i : Nat), u11, .bool h, u13, u14, u15, u16, u17, u18, u19, u20, u21, u22, u23, u24, u25, u26, u27, u28, u29, u30, u31, u32, u33, u34, u35, u36, u37, u38, u39, u40, u41, u42, u43, u44, u45, u46, u47, u48, u49, u50, u51, u52, u53, u54, u55, u56, u57, u58, u59, u60, u61, u62, u63, u64, u65, u66, u67, u68, u69, u70, u71, u72, u73, u74, u75, u76, u77, u78, u79, u80, u81, u82, u83, u84, u85, u86, u87, u88, u89, u90, u91, u92, u93, u94, u95, u96, u97, u98, u99, u100, u101, u102, u103, u104, u105, u106, u107, u108, u109, u110, u111, u112, u113, u114, u115, u116, u117, u118, u119, u120, u121, u122, u123, u124, u125, u126, u127, u128, u129, u130, u131, u132, u133, u134, u135, u136, u137, u138, u139, u140, u141, u142, u143, u144, u145, u146, u147, u148, u149, u150, u151, u152, u153, u154, u155, u156, u157, u158, u159, u160, u161, u162, u163, u164, u165, u166, u167, u168, u169, u170, u171, u172, u173, u174, u175, u176, u177, u178, u179, u180], []⟩ w := by
  have i0 : (0 : Int) ≤ (r : Int) := by omega
  have i1 : (r : Int) < (n : Int) := by omega
  have HK := Lib.hid k
  have HH := Lib.hid hh
  clear k hh hr
  conv => arg 2; whnf
  cases h
  · go_wp2
    exact HK.out _ _ _ _ _ _ _ _ _ _ _ _ _ _ _ _ _ _
  · have hx := HH.out rfl
    have e1 : decide ((i : Int) < s0) = false := decide_eq_false (by omega)
    have e2 : decide (s1 < (i : Int)) = false := decide_eq_false (by omega)
    clear hx
    go_wp2
    exact HK.out _ _ _ _ _ _ _ _ _ _ _ _ _ _ _ _ _ _
end Go.Proofs.YtppoiahhaclleaaDoor

/- AllocLive: region 22. -/
namespace Go.Proofs.YtppoiahhaclleaaDoor
open Go.RowKit

set_option maxRecDepth 100000 in
set_option maxHeartbeats 4000000 in
theorem live_r22 {bl ol n cl bp no co r : Nat} {Ao : Option Addr} {s0 s1 f : Int} (w : World) (Q : Exit → Act → World → Prop) {u0 u3 u4 u5 u6 u8 u10 u11 u12 u13 u14 u15 u16 u17 u18 u19 u20 u21 u22 u23 u24 u25 u26 u27 u28 u29 u30 u31 u32 u33 u34 u35 u36 u37 u38 u39 u40 u41 u42 u43 u44 u45 u46 u47 u48 u49 u50 u51 u52 u53 u54 u55 u56 u57 u58 u59 u60 u61 u62 u63 u64 u65 u66 u67 u68 u69 u70 u71 u72 u73 u74 u75 u76 u77 u78 u79 u80 u81 u82 u83 u84 u85 u86 u87 u88 u89 u90 u91 u92 u93 u94 u95 u96 u97 u98 u99 u100 u101 u102 u103 u104 u105 u106 u107 u108 u109 u110 u111 u112 u113 u114 u115 u116 u117 u118 u119 u120 u121 u122 u123 u124 u125 u126 u127 u128 u129 u130 u131 u132 u133 u134 u135 u136 u137 u138 u139 u140 u141 u142 u143 u144 u145 u146 u147 u148 u149 u150 u151 u152 u153 u154 u155 u156 u157 u158 u159 u160 u161 u162 u163 u164 u165 u166 u167 u168 u169 u170 u171 u172 u173 u174 u175 u176 u177 u178 u179 u180 : Value} (hs0 : w.cell? ⟨bl, ol + r * 2, none⟩ = some (.int .i64 s0)) (hs1 : w.cell? ⟨bl, ol + r * 2 + 1, none⟩ = some (.int .i64 s1)) (hb : w.cell? ⟨bp, 2, none⟩ = some (.slice Ao no co)) (hr : r < n) (hn : n ≤ 65536) (h1 : s0 = f) (h2 : s1 < 0 ↔ f < 0) (h3 : s1 < max 1 (no : Int))
    (k : ∀ (v151 v152 v153 v154 v155 v156 v157 v158 v159 v160 v161 v162 v163 v164 v165 v166 v167 v168 v169 v170 v171 v172 v173 v174 v175 v176 v177 v178 v179 v180 : Value) (w' : World), w' = w.drew → Q .normal ⟨#[u0, .int .i64 (r : Nat), .pointer (some ⟨bp, 0, none⟩), u3, .bool true, u5, u6, .slice (some ⟨bl, ol, none⟩) n cl, u8, .int .i64 f, u10, u11, u12, u13, u14, u15, u16, u17, u18, u19, u20, u21, u22, u23, u24, u25, u26, u27, u28, u29, u30, u31, u32, u33, u34, u35, u36, u37, u38, u39, u40, u41, u42, u43, u44, u45, u46, u47, u48, u49, u50, u51, u52, u53, u54, u55, u56, u57, u58, u59, u60, u61, u62, u63, u64, u65, u66, u67, u68, u69, u70, u71, u72, u73, u74, u75, u76, u77, u78, u79, u80, u81, u82, u83, u84, u85, u86, u87, u88, u89, u90, u91, u92, u93, u94, u95, u96, u97, u98, u99, u100, u101, u102, u103, u104, u105, u106, u107, u108, u109, u110, u111, u112, u113, u114, u115, u116, u117, u118, u119, u120, u121, u122, u123, u124, u125, u126, u127, u128, u129, u130, u131, u132, u133, u134, u135, u136, u137, u138, u139, u140, u141, u142, u143, u144, u145, u146, u147, u148, u149, u150, v151, v152, v153, v154, v155, v156, v157, v158, v159, v160, v161, v162, v163, v164, v165, v166, v167, v168, v169, v170, v171, v172, v173, v174, v175, v176, v177, v178, v179, v180], []⟩ w') : (partR Tryd.f4 22).wp Tryd.prog Q ⟨#[u0, .int .i64 (r : Nat), .pointer (some ⟨bp, 0, none⟩), u3, u4, u5, u6, .slice (some ⟨bl, ol, none⟩) n cl, u8, .int .i64 f, u10, u11, u12, u13, u14, u15, u16, u17, u18, u19, u20, u21, u22, u23, u24, u25, u26, u27, u28, u29, u30, u31, u32, u33, u34, u35, u36, u37, u38, u39, u40, u41, u42, u43, u44, u45, u46, u47, u48, u49, u50, u51, u52, u53, u54, u55, u56, u57, u58, u59, u60, u61, u62, u63, u64, u65, u66, u67, u68, u69, u70, u71, u72, u73, u74, u75, u76, u77, u78, u79, u80, u81, u82, u83, u84, u85, u86, u87, u88, u89, u90, u91, u92, u93, u94, u95, u96, u97, u98, u99, u100, u101, u102, u103, u104, u105, u106, u107, u108, u109, u110, u111, u112, u113, u114, u115, u116, u117, u118, u119, u120, u121, u122, u123, u124, u125, u126, u127, u128, u129, u130, u131, u132, u133, u134, u135, u136, u137, u138, u139, u140, u141, u142, u143, u144, u145, u146, u147, u148, u149, u150, u151, u152, u153, u154, u155, u156, u157, u158, u159, u160, u161, u162, u163, u164, u165, u166, u167, u168, u169, u170, u171, u172, u173, u174, u175, u176, u177, u178, u179, u180], []⟩ w := by
  have HC := Lib.hid (And.intro hs0 (And.intro hs1 hb))
  have i0 : (0 : Int) ≤ (r : Int) := by omega
  have i1 : (r : Int) < (n : Int) := by omega
  have q1 : IntKind.i64.wrap (r : Int) = r := by rw [IntKind.wrap_i64]; omega
  have e0 : (s0 == f) = true := by rw [h1]; simp
  have e1 : (decide (s1 < 0) == decide (f < 0)) = true := by simp only [h2]; simp
  have e2 : decide (s1 < max 1 (no : Int)) = true := decide_eq_true h3
  have HK := Lib.hid k
  clear k hs0 hs1 hb hr h1 h2 h3
  conv => arg 2; whnf
  go_wp2
  (refine wp_region_lines (fun w_ => w_.cell? ⟨bl, ol + r * 2, none⟩ = some (.int .i64 s0) ∧ w_.cell? ⟨bl, ol + r * 2 + 1, none⟩ = some (.int .i64 s1) ∧ w_.cell? ⟨bp, 2, none⟩ = some (.slice Ao no co)) (by kernel_rfl) (by kernel_rfl) HC.out ?_)
  (try simp only [])
  repeat (first | (refine runL_no (by rfl) ?_; (try simp only [Act.put, List.setIfInBounds_toArray, List.set_cons_zero, List.set_cons_succ])) | (refine runL_val (v := ?_) (by rfl) ?_ ?_; rotate_left; (focus (intro w_ hw_; obtain ⟨f1_, f2_, f3_⟩ := hw_; go_simp; (try with_reducible rfl); done)); (try simp only [Act.put, List.setIfInBounds_toArray, List.set_cons_zero, List.set_cons_succ])))
  (refine runL_nil ?_)
  exact HK.out _ _ _ _ _ _ _ _ _ _ _ _ _ _ _ _ _ _ _ _ _ _ _ _ _ _ _ _ _ _ _ rfl
end Go.Proofs.YtppoiahhaclleaaDoor

/- AllocLive: its loop. -/
namespace Go.Proofs.YtppoiahhaclleaaDoor
open Go.RowKit

set_option maxRecDepth 100000 in
set_option maxHeartbeats 4000000 in
theorem live_l0 {p : LP} {bl ol n cl bp be no co r : Nat} {Ao : Option Addr} {s : Int × Int} (w : World) (Q : Exit → Act → World → Prop) {u0 u3 u4 u5 u6 u11 u12 u13 u14 u15 u16 u17 u18 u19 u20 u21 u22 u23 u24 u25 u26 u27 u28 u29 u30 u31 u32 u33 u34 u35 u36 u37 u38 u39 u40 u41 u42 u43 u44 u45 u46 u47 u48 u49 u50 u51 u52 u53 u54 u55 u56 u57 u58 u59 u60 u61 u62 u63 u64 u65 u66 u67 u68 u69 u70 u71 u72 u73 u74 u75 u76 u77 u78 u79 u80 u81 u82 u83 u84 u85 u86 u87 u88 u89 u90 u91 u92 u93 u94 u95 u96 u97 u98 u99 u100 u101 u102 u103 u104 u105 u106 u107 u108 u109 u110 u111 u112 u113 u114 u115 u116 u117 u118 u119 u120 u121 u122 u123 u124 u125 u126 u127 u128 u129 u130 u131 u132 u133 u134 u135 u136 u137 u138 u139 u140 u141 u142 u143 u144 u145 u146 u147 u148 u149 u150 u151 u152 u153 u154 u155 u156 u157 u158 u159 u160 u161 u162 u163 u164 u165 u166 u167 u168 u169 u170 u171 u172 u173 u174 u175 u176 u177 u178 u179 u180 : Value} (ho : OpsAt w (fun k => k < w.heap.size) (.slice Ao no co) p.ops) (hb : w.cell? ⟨bp, 2, none⟩ = some (.slice Ao no co)) (hs0 : w.cell? ⟨bl, ol + r * 2, none⟩ = some (.int .i64 s.1)) (hs1 : w.cell? ⟨bl, ol + r * 2 + 1, none⟩ = some (.int .i64 s.2))
    (he : EndsAt w be (endsF p.ops)) (hi : SpanIs p r s) (hr : r < n) (hn : n ≤ 65536) (hno : no ≤ 65536) (hl : p.ops.length = no) (hbal : Bal p.ops) (hbl : bl < w.heap.size) (hbp : bp < w.heap.size) (hbe : be < w.heap.size)
    (k1 : ∀ (f : Int), FirstIs p r no f → ∀ (v4 v10 v11 v12 v45 v46 v47 v48 v49 v50 v51 v52 v53 v54 v55 v56 v57 v58 v59 v60 v61 v62 v63 v64 v65 v66 v67 v68 v69 v70 v71 v72 v73 v74 v75 v76 v77 v78 v79 v80 v81 v82 v83 v84 v85 v86 v87 v88 v89 v90 v91 v92 v93 v94 v95 v96 v97 v98 v99 v100 v101 v102 v103 v104 v105 v106 v107 v108 v109 v110 v111 v112 v113 v114 v115 v116 v117 v118 v119 v120 v121 v122 v123 v124 v125 v126 v127 v128 v129 v130 v131 v132 v133 v134 v135 v136 v137 v138 v139 v140 v141 v142 v143 v144 v145 v146 v147 v148 v149 v150 : Value) (w' : World), Below w.heap.size w w' → Q (.exit 0) ⟨#[u0, .int .i64 (r : Nat), .pointer (some ⟨bp, 0, none⟩), u3, v4, u5, u6, .slice (some ⟨bl, ol, none⟩) n cl, .slice (some ⟨be, 0, none⟩) no no, .int .i64 f, v10, v11, v12, u13, u14, u15, u16, u17, u18, u19, u20, u21, u22, u23, u24, u25, u26, u27, u28, u29, u30, u31, u32, u33, u34, u35, u36, u37, u38, u39, u40, u41, u42, u43, u44, v45, v46, v47, v48, v49, v50, v51, v52, v53, v54, v55, v56, v57, v58, v59, v60, v61, v62, v63, v64, v65, v66, v67, v68, v69, v70, v71, v72, v73, v74, v75, v76, v77, v78, v79, v80, v81, v82, v83, v84, v85, v86, v87, v88, v89, v90, v91, v92, v93, v94, v95, v96, v97, v98, v99, v100, v101, v102, v103, v104, v105, v106, v107, v108, v109, v110, v111, v112, v113, v114, v115, v116, v117, v118, v119, v120, v121, v122, v123, v124, v125, v126, v127, v128, v129, v130, v131, v132, v133, v134, v135, v136, v137, v138, v139, v140, v141, v142, v143, v144, v145, v146, v147, v148, v149, v150, u151, u152, u153, u154, u155, u156, u157, u158, u159, u160, u161, u162, u163, u164, u165, u166, u167, u168, u169, u170, u171, u172, u173, u174, u175, u176, u177, u178, u179, u180], []⟩ w') : (partL Tryd.f4 0).wp Tryd.prog Q ⟨#[u0, .int .i64 (r : Nat), .pointer (some ⟨bp, 0, none⟩), u3, u4, u5, u6, .slice (some ⟨bl, ol, none⟩) n cl, .slice (some ⟨be, 0, none⟩) no no, .int .i64 (-1), .int .i64 0, u11, u12, u13, u14, u15, u16, u17, u18, u19, u20, u21, u22, u23, u24, u25, u26, u27, u28, u29, u30, u31, u32, u33, u34, u35, u36, u37, u38, u39, u40, u41, u42, u43, u44, u45, u46, u47, u48, u49, u50, u51, u52, u53, u54, u55, u56, u57, u58, u59, u60, u61, u62, u63, u64, u65, u66, u67, u68, u69, u70, u71, u72, u73, u74, u75, u76, u77, u78, u79, u80, u81, u82, u83, u84, u85, u86, u87, u88, u89, u90, u91, u92, u93, u94, u95, u96, u97, u98, u99, u100, u101, u102, u103, u104, u105, u106, u107, u108, u109, u110, u111, u112, u113, u114, u115, u116, u117, u118, u119, u120, u121, u122, u123, u124, u125, u126, u127, u128, u129, u130, u131, u132, u133, u134, u135, u136, u137, u138, u139, u140, u141, u142, u143, u144, u145, u146, u147, u148, u149, u150, u151, u152, u153, u154, u155, u156, u157, u158, u159, u160, u161, u162, u163, u164, u165, u166, u167, u168, u169, u170, u171, u172, u173, u174, u175, u176, u177, u178, u179, u180], []⟩ w := by
  have HOP := Lib.hid ho
  have HBX := Lib.hid hb
  have HS := Lib.hid (And.intro hs0 hs1)
  have HE := Lib.hid he
  have HI := Lib.hid hi
  have HN := Lib.hid (And.intro hr (And.intro hl hbal))
  have K1 := Lib.hid k1
  have HLT := Lib.hid (And.intro hbl (And.intro hbp hbe))
  clear ho hb hs0 hs1 he hi k1 hbl hbp hbe hbal
  conv => arg 2; whnf
  go_wp2
  go_loopw [9, 10] (fun f j wr => ∃ (k : Nat) (fz : Int), k ≤ no ∧ j = .int .i64 k ∧ f = .int .i64 fz ∧ Hid (FirstIs p r k fz ∧ Below w.heap.size w wr)) (fun _ j _ => no - (intOf j).toNat)
  case atStart => exact ⟨0, -1, by omega, rfl, rfl, Lib.hid ⟨first_zero p r, Below.refl _ _⟩⟩
  case round =>
    obtain ⟨k, fz, hk, rfl, rfl, HJ⟩ := hrel
    have b2 := (HJ.out.2.cell (p := ⟨bp, 2, none⟩) HLT.out.2.1).trans HBX.out
    by_cases hlt : k < no
    · obtain ⟨o, ho⟩ : ∃ s, p.ops[k]? = some s := ⟨_, List.getElem?_eq_getElem (by have := HN.out.2.1; omega)⟩
      obtain ⟨bo, oo, rfl, hF, p0, p1, p2, p3, p4, p5, p6, p7⟩ := HOP.out.at_ ho
      obtain ⟨W5, hW5⟩ : ∃ q, q = wr.alloc (.cells #[.int .i64 o.kind, .int .i64 o.d, .int .i64 o.e, .int .i64 o.a, .int .i64 o.b, .int .i64 o.c, .int .i64 o.buf, .int .u64 o.imm] 47) := ⟨_, rfl⟩
      have hb5 : Below wr.heap.size wr W5 := by rw [hW5]; exact (Below.refl _ _).alloc (Nat.le_refl _) _
      have h5 : W5.heap[wr.heap.size]? = some (.cells [Value.int .i64 o.kind, .int .i64 o.d, .int .i64 o.e, .int .i64 o.a, .int .i64 o.b, .int .i64 o.c, .int .i64 o.buf, .int .u64 o.imm].toArray 47 (0, 0)) := by rw [hW5]; exact heap_alloc_new wr _
      have HB5 := Lib.hid (HJ.out.2.trans (hb5.mono HJ.out.2.size))
      have HW5 := Lib.hid hW5
      have HO := Lib.hid ho
      have H5 := Lib.hid h5
      have HQ := Lib.hid (And.intro ((HJ.out.2.cell (p := ⟨bo, oo + k * 8, none⟩) hF).trans p0) (And.intro ((HJ.out.2.cell (p := ⟨bo, oo + k * 8 + 1, none⟩) hF).trans p1) (And.intro ((HJ.out.2.cell (p := ⟨bo, oo + k * 8 + 2, none⟩) hF).trans p2) (And.intro ((HJ.out.2.cell (p := ⟨bo, oo + k * 8 + 3, none⟩) hF).trans p3) (And.intro ((HJ.out.2.cell (p := ⟨bo, oo + k * 8 + 4, none⟩) hF).trans p4) (And.intro ((HJ.out.2.cell (p := ⟨bo, oo + k * 8 + 5, none⟩) hF).trans p5) (And.intro ((HJ.out.2.cell (p := ⟨bo, oo + k * 8 + 6, none⟩) hF).trans p6) ((HJ.out.2.cell (p := ⟨bo, oo + k * 8 + 7, none⟩) hF).trans p7))))))))
      clear p0 p1 p2 p3 p4 p5 p6 p7 ho hW5 hb5 h5 hF
      obtain ⟨p0, p1, p2, p3, p4, p5, p6, p7⟩ := HQ.out
      have i0 : (0 : Int) ≤ (k : Int) := by omega
      have i1 : (k : Int) < (no : Int) := by omega
      go_upto_region 15 with fail
      rw [← HW5.out]
      clear p0 p1 p2 p3 p4 p5 p6 p7
      refine wp_code (c := partR Tryd.f4 15) (by kernel_rfl) ?_
      refine live_r15 (d := o.d) (e := o.e) (a := o.a) (b := o.b) (c := o.c) _ _ (cell_row H5.out rfl) (cell_row H5.out rfl) (cell_row H5.out rfl) (cell_row H5.out rfl) (cell_row H5.out rfl) ?_
      intro v57 v58 v59 v60 v61 v62 v63 v64 v65 v66 v67 v68 v69 v70 v71 v72 v73 v74 v75 v76 v77 v78 v79 v80 v81 v82 v83 v84
      have z0 : W5.cell? ⟨wr.heap.size, 0, none⟩ = some (.int .i64 o.kind) := cell_row H5.out rfl
      have x0 : W5.cell? ⟨bl, ol + r * 2, none⟩ = some (.int .i64 s.1) := (HB5.out.cell (p := ⟨bl, ol + r * 2, none⟩) HLT.out.1).trans HS.out.1
      have x1 : W5.cell? ⟨bl, ol + r * 2 + 1, none⟩ = some (.int .i64 s.2) := (HB5.out.cell (p := ⟨bl, ol + r * 2 + 1, none⟩) HLT.out.1).trans HS.out.2
      have x2 : W5.cell? ⟨be, 0 + k, none⟩ = some (.int .i64 ((endsF p.ops).getD k 0)) := by
        obtain ⟨q, hq⟩ : ∃ q, (endsF p.ops)[k]? = some q := ⟨_, List.getElem?_eq_getElem (by rw [ends_len HN.out.2.2, HN.out.2.1]; exact hlt)⟩
        rw [Nat.zero_add, List.getD_eq_getElem?_getD, hq]
        exact (HB5.out.cell (p := ⟨be, k, none⟩) HLT.out.2.2).trans (HE.out.cell hq)
      have HH := Lib.hid (hasL_is o r)
      generalize hasL o.d o.e o.a o.b o.c r = hv at HH ⊢
      cases hv
      · have HF := Lib.hid (first_no HJ.out.1 HO.out HH.out.symm)
        go_upto_region 18 with fail
        refine wp_code (c := partR Tryd.f4 18) (by kernel_rfl) ?_
        refine live_r18 (s0 := s.1) (s1 := s.2) _ _ x0 x1 HN.out.1 (fun h => (live_has HI.out HO.out (HH.out.symm.trans h)).2) ?_
        intro v91 v92 v93 v94 v95 v96 v97 v98 v99 v100 v101 v102 v103 v104 v105 v106 v107 v108
        go_upto_region 20 with fail
        refine wp_code (c := partR Tryd.f4 20) (by kernel_rfl) ?_
        refine live_r20 (kind := o.kind) (s0 := s.1) (s1 := s.2) (en := (endsF p.ops).getD k 0) _ _ z0 x0 x1 x2 HN.out.1 hlt hn hno (fun h1 h2 h3 h4 => live_loop HI.out HO.out h1 h2 h3 h4) ?_
        intro v110 v111 v112 v113 v114 v115 v116 v117 v118 v119 v120 v121 v122 v123 v124 v125 v126 v127 v128 v129 v130 v131 v132 v133 v134 v135 v136 v137 v138 v139 v140 v141 v142 v143 v144 v145 v146 v147 v148 v149 w7 hw7
        subst hw7
        go_wp2
        go_roundw
        case rel => exact ⟨k + 1, fz, by omega, by go_num, rfl, Lib.hid ⟨HF.out, HB5.out.drew⟩⟩
        case measure => simp [intOf]; omega
      · cases df : decide (fz < 0)
        · have HF := Lib.hid (first_more (k := k) HJ.out.1 (of_decide_eq_false df))
          go_upto_region 18 with fail
          refine wp_code (c := partR Tryd.f4 18) (by kernel_rfl) ?_
          refine live_r18 (s0 := s.1) (s1 := s.2) _ _ x0 x1 HN.out.1 (fun h => (live_has HI.out HO.out (HH.out.symm.trans h)).2) ?_
          intro v91 v92 v93 v94 v95 v96 v97 v98 v99 v100 v101 v102 v103 v104 v105 v106 v107 v108
          go_upto_region 20 with fail
          refine wp_code (c := partR Tryd.f4 20) (by kernel_rfl) ?_
          refine live_r20 (kind := o.kind) (s0 := s.1) (s1 := s.2) (en := (endsF p.ops).getD k 0) _ _ z0 x0 x1 x2 HN.out.1 hlt hn hno (fun h1 h2 h3 h4 => live_loop HI.out HO.out h1 h2 h3 h4) ?_
          intro v110 v111 v112 v113 v114 v115 v116 v117 v118 v119 v120 v121 v122 v123 v124 v125 v126 v127 v128 v129 v130 v131 v132 v133 v134 v135 v136 v137 v138 v139 v140 v141 v142 v143 v144 v145 v146 v147 v148 v149 w7 hw7
          subst hw7
          go_wp2
          go_roundw
          case rel => exact ⟨k + 1, fz, by omega, by go_num, rfl, Lib.hid ⟨HF.out, HB5.out.drew⟩⟩
          case measure => simp [intOf]; omega
        · have HF := Lib.hid (first_yes HJ.out.1 (of_decide_eq_true df) HO.out HH.out.symm)
          go_upto_region 18 with fail
          refine wp_code (c := partR Tryd.f4 18) (by kernel_rfl) ?_
          refine live_r18 (s0 := s.1) (s1 := s.2) _ _ x0 x1 HN.out.1 (fun h => (live_has HI.out HO.out (HH.out.symm.trans h)).2) ?_
          intro v91 v92 v93 v94 v95 v96 v97 v98 v99 v100 v101 v102 v103 v104 v105 v106 v107 v108
          go_upto_region 20 with fail
          refine wp_code (c := partR Tryd.f4 20) (by kernel_rfl) ?_
          refine live_r20 (kind := o.kind) (s0 := s.1) (s1 := s.2) (en := (endsF p.ops).getD k 0) _ _ z0 x0 x1 x2 HN.out.1 hlt hn hno (fun h1 h2 h3 h4 => live_loop HI.out HO.out h1 h2 h3 h4) ?_
          intro v110 v111 v112 v113 v114 v115 v116 v117 v118 v119 v120 v121 v122 v123 v124 v125 v126 v127 v128 v129 v130 v131 v132 v133 v134 v135 v136 v137 v138 v139 v140 v141 v142 v143 v144 v145 v146 v147 v148 v149 w7 hw7
          subst hw7
          go_wp2
          go_roundw
          case rel => exact ⟨k + 1, (k : Int), by omega, by go_num, rfl, Lib.hid ⟨HF.out, HB5.out.drew⟩⟩
          case measure => simp [intOf]; omega
    · have hkn : k = no := by omega
      subst hkn
      go_wp2
      exact K1.out _ HJ.out.1 _ _ _ _ _ _ _ _ _ _ _ _ _ _ _ _ _ _ _ _ _ _ _ _ _ _ _ _ _ _ _ _ _ _ _ _ _ _ _ _ _ _ _ _ _ _ _ _ _ _ _ _ _ _ _ _ _ _ _ _ _ _ _ _ _ _ _ _ _ _ _ _ _ _ _ _ _ _ _ _ _ _ _ _ _ _ _ _ _ _ _ _ _ _ _ _ _ _ _ _ _ _ _ _ _ _ _ _ _ _ _ HJ.out.2
end Go.Proofs.YtppoiahhaclleaaDoor

/- AllocLive: the whole walk. -/
namespace Go.Proofs.YtppoiahhaclleaaDoor
open Go.RowKit

set_option maxRecDepth 100000 in
set_option maxHeartbeats 16000000 in
theorem AllocLive_walk (p : LP) (Ab Ao : Option Addr) (nb cb no co : Nat) (r : Int) (w : World) (hp : ProgAt w (fun k => k < w.heap.size) [.int .i64 p.regs, .slice Ab nb cb, .slice Ao no co] p) (hT : TzAt w) :
    Calls Tryd.prog 4 #[.agg #[.int .i64 p.regs, .slice Ab nb cb, .slice Ao no co], .int .i64 r] w fun e w' => e = .returned (.bool true) ∧ Below w.heap.size w w' := by
  obtain ⟨W, hW, hbW, hzW, hl_, hr_⟩ := boxed w #[.int .i64 p.regs, .slice Ab nb cb, .slice Ao no co] 25
  have hlt : w.heap.size < W.heap.size := by omega
  have c0 : W.cell? ⟨w.heap.size, 0, none⟩ = some (.int .i64 p.regs) := by rw [hl_]; rfl
  have c1 : W.cell? ⟨w.heap.size, 1, none⟩ = some (.slice Ab nb cb) := by rw [hl_]; rfl
  have c2 : W.cell? ⟨w.heap.size, 2, none⟩ = some (.slice Ao no co) := by rw [hl_]; rfl
  have HCS := Lib.hid (fun wr (hb : Below W.heap.size W wr) => And.intro ((hb.cell (p := ⟨w.heap.size, 0, none⟩) hlt).trans c0) (And.intro ((hb.cell (p := ⟨w.heap.size, 1, none⟩) hlt).trans c1) ((hb.cell (p := ⟨w.heap.size, 2, none⟩) hlt).trans c2)))
  have HP := Lib.hid (fun wr (hb : Below W.heap.size W wr) => prog_next (prog_next hp hbW) hb)
  have HLV := Lib.hid (lives_is W (hT.next hbW (lt_cell (hT 0 (by decide)))))
  have HL := Lib.hid (show p.ops.length = no by obtain ⟨vb, vo, h1, _, h3⟩ := hp.row; obtain ⟨A, c, h4, _⟩ := rows_form h3; cases h1; cases h4; rfl)
  have HW := Lib.hid hW
  have HB := Lib.hid hbW
  have HLT := Lib.hid hlt
  clear hW hbW hzW hl_ hr_ hp hT hlt c0 c1 c2
  go_enter Tryd.func4, Tryd.ntmps4
  go_upto_region 1 with fail
  rw [← HW.out]
  go_upto_region 3 with ((with_reducible refine (HLV.out).mono ?_); rintro e w1 ⟨rfl, hb1⟩; have H1 := Lib.hid hb1; clear hb1)
  obtain ⟨c0, c1, c2⟩ := HCS.out w1 H1.out
  have HCK := Lib.hid (Rcheck_any p Ab Ao nb cb no co w1 (HP.out w1 H1.out))
  rw [check_same] at HCK
  obtain ⟨x, hx⟩ : ∃ x, (checkF p 64).1 = x := ⟨_, rfl⟩
  obtain ⟨y, hy⟩ : ∃ x, (checkF p 64).2 = x := ⟨_, rfl⟩
  rw [hx, hy] at HCK
  have HY := Lib.hid hy
  clear hx hy
  go_upto_region 4 with ((with_reducible refine (HCK.out).mono ?_); rintro e w2 ⟨rfl, hb2⟩; have H2 := Lib.hid (H1.out.trans (hb2.mono H1.out.size)); clear hb2)
  clear c0 c1 c2
  obtain ⟨c0, c1, c2⟩ := HCS.out w2 H2.out
  have HLP := Lib.hid (LightProg_any p Ab Ao nb cb no co 60 w2 (HP.out w2 H2.out))
  by_cases m1 : y = 0
  rotate_left
  · have d1 : (y != 0) = true := by simpa using m1
    clear m1
    go_wp2_with ((with_reducible refine (HLP.out).mono ?_); rintro e w3 ⟨b, rfl, hb3⟩; have H3 := Lib.hid (HB.out.trans ((H2.out.trans (hb3.mono H2.out.size)).mono HB.out.size)); clear hb3)
    all_goals
      go_ret
      exact ⟨rfl, H3.out⟩
  subst m1
  by_cases m2 : p.regs = 0
  · have d2 : (p.regs == 0) = true := by simpa using m2
    clear m2
    go_wp2_with ((with_reducible refine (HLP.out).mono ?_); rintro e w3 ⟨b, rfl, hb3⟩; have H3 := Lib.hid (HB.out.trans ((H2.out.trans (hb3.mono H2.out.size)).mono HB.out.size)); have e0 := (HCS.out w3 (H2.out.trans (hb3.mono H2.out.size))).1; clear hb3)
    all_goals
      go_ret
      exact ⟨rfl, H3.out⟩
  have d2 : (p.regs == 0) = false := by simpa using m2
  obtain ⟨n, hn⟩ : ∃ n : Nat, p.regs = n := ⟨p.regs.toNat, by have := (head_ok (check_run HY.out).1).2.1; omega⟩
  have hn64 : n ≤ 64 := by have := (head_ok (check_run HY.out).1).1; omega
  have hn1 : 1 ≤ n := by omega
  have HNO := Lib.hid (show no ≤ 65536 by have := (head_ok (check_run HY.out).1).2.2.2.1; have := HL.out; omega)
  have HN := Lib.hid hn
  have HN1 := Lib.hid (And.intro hn1 hn64)
  have HLO := Lib.hid (fun wr (hb : Below W.heap.size W wr) => Live_ok p Ab Ao nb cb no co n wr (HP.out wr hb) HY.out hn)
  have HEN : Hid (∀ wr, Below W.heap.size W wr → Calls Tryd.prog 21 #[.agg #[.int .i64 p.regs, .slice Ab nb cb, .slice Ao no co]] wr fun e w' => ∃ g, e = .returned (.slice (some ⟨g, 0, none⟩) no no) ∧ wr.heap.size ≤ g ∧ w'.heap[g]? = some (.cells (intV (endsF p.ops)).toArray 3 (0, 0)) ∧ Below wr.heap.size wr w') := Lib.hid (by
    intro wr hb
    have h := Rends_any p Ab Ao nb cb no co wr (HP.out wr hb) (by rw [check_same]; exact HY.out)
    rw [HL.out] at h
    exact h)
  clear m2 hn hn64 hn1
  go_wp2_with ((with_reducible refine (HLP.out).mono ?_); rintro e w3 ⟨b, rfl, hb3⟩; have H3 := Lib.hid (H2.out.trans (hb3.mono H2.out.size)); have e0 := (HCS.out w3 H3.out).1; clear hb3)
  rotate_left
  · go_ret
    exact ⟨rfl, HB.out.trans (H3.out.mono HB.out.size)⟩
  clear c0 c1 c2 e0
  have hS := H3.out.drew
  (refine wp_region_lines (Below W.heap.size W) (by kernel_rfl) (by kernel_rfl) H3.out.drew ?_)
  (try simp only [])
  repeat (first | (refine runL_no (by rfl) ?_; (try simp only [Act.put, List.setIfInBounds_toArray, List.set_cons_zero, List.set_cons_succ])) | (refine runL_val (v := ?_) (by rfl) ?_ ?_; rotate_left; (focus (intro w_ hw_; have c0_ := (HCS.out w_ hw_).1; have c1_ := (HCS.out w_ hw_).2.1; have c2_ := (HCS.out w_ hw_).2.2; go_simp; (try with_reducible rfl); done)); (try simp only [Act.put, List.setIfInBounds_toArray, List.set_cons_zero, List.set_cons_succ])) | (refine runL_call (f := ?_) (args := ?_) (w1 := ?_) (by rfl) (by rfl) ?_ ?_; rotate_left 3; (focus (go_simp; refine ⟨⟨?_, ?_⟩, ?_⟩ <;> with_reducible rfl)); (with_reducible refine (HLO.out _ hS).mono ?_); rintro e w4 ⟨A4, cl, rfl, hb4, hr4⟩; have HR4 := Lib.hid (And.intro hr4 hb4.size); replace hS := hS.trans (hb4.mono hS.size); clear hb4 hr4; refine ⟨_, rfl, .inr hS, ?_⟩; (try simp only [Act.put, List.setIfInBounds_toArray, List.set_cons_zero, List.set_cons_succ])) | (refine runL_call (f := ?_) (args := ?_) (w1 := ?_) (by rfl) (by rfl) ?_ ?_; rotate_left 3; (focus (go_simp; refine ⟨⟨?_, ?_⟩, ?_⟩ <;> with_reducible rfl)); (with_reducible refine (HEN.out _ hS).mono ?_); rintro e w5 ⟨be, rfl, hge, hen, hb5⟩; have HE5 := Lib.hid (And.intro hen (And.intro (lt_of_block hen) hb5)); replace hS := hS.trans (hb5.mono hS.size); clear hb5 hen hge; refine ⟨_, rfl, .inr hS, ?_⟩; (try simp only [Act.put, List.setIfInBounds_toArray, List.set_cons_zero, List.set_cons_succ])))
  (refine runL_nil ?_)
  have H5 := Lib.hid hS
  clear hS
  obtain ⟨c0, c1, c2⟩ := HCS.out w5 H5.out
  have d3 : ((n : Int) != p.regs) = false := by rw [HN.out]; simp
  have HPK := Lib.hid (Pick_any r n HN1.out.1 (by have := HN1.out.2; omega) w5)
  rw [← HN.out] at HPK
  go_upto_region 10 with ((with_reducible refine (HPK.out).mono ?_); rintro e w6 ⟨q, hq, rfl, rfl⟩; have HQ := Lib.hid hq; clear hq)
  go_wp2
  obtain ⟨s, hs⟩ : ∃ s, (spansF p)[q]? = some s := ⟨_, List.getElem?_eq_getElem (by rw [spans_len, HN.out]; exact HQ.out)⟩
  obtain ⟨bl, ol, rfl, hF, hcl⟩ := rows_at HR4.out.1 hs
  have HBL := Lib.hid (show bl < w5.heap.size from Nat.lt_of_lt_of_le hF.2 HE5.out.2.2.size)
  have HS0 := Lib.hid ((HE5.out.2.2.cell (p := ⟨bl, ol + q * 2, none⟩) hF.2).trans (hcl 0 _ rfl))
  have HS1 := Lib.hid ((HE5.out.2.2.cell (p := ⟨bl, ol + q * 2 + 1, none⟩) hF.2).trans (hcl 1 _ rfl))
  have HSP := Lib.hid (span_is (check_bal HY.out) hs)
  have HPR5 := Lib.hid (HP.out w5 H5.out)
  have HGP := Lib.hid (show w.heap.size < w5.heap.size from Nat.lt_of_lt_of_le HLT.out H5.out.size)
  have HC2 := Lib.hid c2
  have hn64 : n ≤ 65536 := by have := HN1.out.2; omega
  have hno : no ≤ 65536 := HNO.out
  clear hs hF hcl c0 c1 c2 d3
  refine wp_code (c := partL Tryd.f4 0) (by kernel_rfl) ?_
  refine live_l0 (p := p) (s := s) _ _ (by obtain ⟨vb, vo, h1, _, h3⟩ := HPR5.out.row; cases h1; exact h3) HC2.out HS0.out HS1.out HE5.out.1 HSP.out HQ.out hn64 hno HL.out (check_bal HY.out) HBL.out HGP.out HE5.out.2.1 ?_
  intro f hf v4 v10 v11 v12 v45 v46 v47 v48 v49 v50 v51 v52 v53 v54 v55 v56 v57 v58 v59 v60 v61 v62 v63 v64 v65 v66 v67 v68 v69 v70 v71 v72 v73 v74 v75 v76 v77 v78 v79 v80 v81 v82 v83 v84 v85 v86 v87 v88 v89 v90 v91 v92 v93 v94 v95 v96 v97 v98 v99 v100 v101 v102 v103 v104 v105 v106 v107 v108 v109 v110 v111 v112 v113 v114 v115 v116 v117 v118 v119 v120 v121 v122 v123 v124 v125 v126 v127 v128 v129 v130 v131 v132 v133 v134 v135 v136 v137 v138 v139 v140 v141 v142 v143 v144 v145 v146 v147 v148 v149 v150 w7 hb7
  have H7 := Lib.hid hb7
  have HE := Lib.hid (live_end HSP.out (by rw [HL.out]; exact hf))
  rw [HL.out] at HE
  clear hb7 hf
  go_wp2
  refine wp_code (c := partR Tryd.f4 22) (by kernel_rfl) ?_
  refine live_r22 (s0 := s.1) (s1 := s.2) _ _ ((H7.out.cell (p := ⟨bl, ol + q * 2, none⟩) HBL.out).trans HS0.out) ((H7.out.cell (p := ⟨bl, ol + q * 2 + 1, none⟩) HBL.out).trans HS1.out) ((H7.out.cell (p := ⟨w.heap.size, 2, none⟩) HGP.out).trans HC2.out) HQ.out hn64 HE.out.1 HE.out.2.1 HE.out.2.2 ?_
  intro v151 v152 v153 v154 v155 v156 v157 v158 v159 v160 v161 v162 v163 v164 v165 v166 v167 v168 v169 v170 v171 v172 v173 v174 v175 v176 v177 v178 v179 v180 w8 hw8
  subst hw8
  go_wp2
  go_ret
  exact ⟨rfl, (HB.out.trans (H5.out.mono HB.out.size)).trans (H7.out.drew.mono (HB.out.trans (H5.out.mono HB.out.size)).size)⟩
end Go.Proofs.YtppoiahhaclleaaDoor

/- keysmithlaw14.AllocLive: for all programs and registers it returns true: spans begin and end as told. No condition but that the table of math/bits is as its initialiser lays it (the card ties that). -/
namespace Go.Proofs.YtppoiahhaclleaaDoor.allocLive
open Go.ChangeShapes Go.WideShapes Go.ChangeAt Go.RowKit

theorem own : ownKnob Tryd.prog.godebug = none := by kernel_rfl
theorem laidOut : laidOutB Tryd.prog = true := by kernel_rfl

theorem door_met (os : Os) (args : Array Value) : laidMetH Tryd.prog Rows.allocLiveRow.laid ((World.doorLaid Tryd.prog 14 os).forCall (fun _ _ => 0) ⟨#[], args, []⟩).memory :=
  laidMetH_of_parts3 (fuel := 8) (laidMet_of_run' 8 (by kernel_rfl) (by kernel_rfl)) (by kernel_rfl) (by kernel_rfl)
theorem tz_of {W : World} (h : laidMetH Tryd.prog Rows.allocLiveRow.laid W) : TzAt W := by
  rw [MakeChecks.laidMetH_plain _ _ _ (by kernel_rfl)] at h
  have hT : Lib.TabIs Tryd.prog W "math/bits.deBruijn64tab" .u8 (Lib.deBruijn64tab.map fun k => ((k : Nat) : Int)) :=
    Lib.tabIs_of_head (rest := []) (g := 0) (t := 121) (e := 5) (n := 64) (by kernel_rfl) (by kernel_rfl) Tryd.underlying121 Tryd.underlying5 (by kernel_rfl) (by kernel_rfl) h
  intro j hj
  have h1 := hT.cell (g := 0) (by kernel_rfl) j (by rw [List.length_map]; exact hj)
  rw [List.getD_eq_getElem?_getD, List.getElem?_map] at h1
  rw [List.getD_eq_getElem?_getD]
  obtain ⟨x, hx⟩ : ∃ x, Lib.deBruijn64tab[j]? = some x := ⟨_, List.getElem?_eq_getElem hj⟩
  rw [hx] at h1 ⊢
  exact h1

set_option maxRecDepth 100000 in
theorem lifted (os : Os) (started : os.Started) (H : Type) (enc : TypeId × Value → H) :
    ReturnsInHanded {} Tryd.checked os 4 .any (fun w args => (Rows.allocLiveSpec.pre enc Tryd.prog Tryd.f4 [] false w args ∧ laidMetH Tryd.prog Rows.allocLiveRow.laid w) ∧ sizedMet enc Tryd.prog Tryd.f4 (OpenSpec.ofChange Rows.allocLiveSpec) false w args)
      (Rows.allocLiveSpec.post enc Tryd.prog Tryd.f4 false true false false) := by
  refine returnsInHanded_of_change_and (C := Tryd.checked) (X := fun w _ => laidMetH Tryd.prog Rows.allocLiveRow.laid w) (fun _ _ _ hh h => h.of_heap hh) own started (by kernel_rfl) Tryd.func4
    (ChangeSpec.witness_shaped (enc := enc) (C := Tryd.checked) (os := os) (X := fun w _ => laidMetH Tryd.prog Rows.allocLiveRow.laid w) false (World.doorLaid Tryd.prog 14 os) #[.agg #[.int .i64 0, .slice none 0 0, .slice none 0 0], .int .i64 0] 8 rfl (World.shaped_of_RefB (by kernel_rfl) (by kernel_rfl)) (by kernel_rfl) (by kernel_rfl) (by kernel_rfl) (door_met os _)) ?_
  intro W base args ds gs before hval0 hW hcnd hreach hL _
  have hval : ∀ (j : Nat) t v, Tryd.f4.params[j]? = some t → args[j]? = some v → Value.okWide Tryd.prog W .any base t v := hval0
  have HT : TzAt W := tz_of hL
  have hW' := hW
  obtain ⟨p, q, hA0, hV, rfl, hfz, hnd⟩ := hW
  have hA : DataW.TrodAll enc Tryd.prog W 0 (fun _ => true) true Tryd.f4.params.toList args.toList ds p := hA0
  rw [Tryd.params4] at hA hval
  obtain ⟨v0, vs0, d0, ds0, p0, q0, hargs, rfl, rfl, h0, r0⟩ := trodAll_cons hA
  obtain ⟨v1, vs1, d1, ds1, p1, q1, rfl, rfl, rfl, h1, r1⟩ := trodAll_cons r0
  obtain ⟨rfl, rfl, rfl⟩ := trodAll_nil r1
  obtain rfl : args = #[v0, v1] := by cases args; simp_all
  obtain ⟨rfl, rfl⟩ := trodVars_none hV
  have k0 := h0
  have lt0 : ∀ x ∈ p0, x.block < W.heap.size := by obtain ⟨m, hm⟩ := k0; exact DataW.trod_lt m _ _ _ hm
  obtain ⟨cs0, rfl, hcs0⟩ := okWide_struct Tryd.underlying25 (hval 0 25 v0 rfl rfl)
  obtain ⟨x0, Ab0, Ao0, nb0, cb0, no0, co0, rfl, hp0, hr0⟩ := open_prog h0
  obtain ⟨a1, rfl, rfl, rfl, w1⟩ := open_int Tryd.underlying3 (hval 1 3 v1 rfl rfl) h1
  clear hA0 hval0 hcnd hreach
  refine (AllocLive_walk _ _ _ _ _ _ _ _ W hp0 HT).mono fun e W' ⟨he, bel⟩ => ?_
  subst he
  exact ⟨_, rfl, _, _, _, [], _, [], hW', trodAll_mk1 (shut_bool Tryd.underlying4 _), (trodAll_cons_mk (Below.trod laidOut (by kernel_rfl) (of_decide_eq_true (by kernel_rfl)) k0 bel lt0) (trodAll_cons_mk (shut_int Tryd.underlying3 w1) trodAll_mk0)), rfl, bel.frame _, fun h => by cases h⟩

theorem over : Rows.AllocLiveSaid :=
  OpenClaim.holds_of_wide 4 Tryd.f4 rfl rfl rfl rfl rfl rfl rfl ⟨rfl, rfl, rfl, rfl, rfl⟩ rfl rfl rfl rfl rfl (by kernel_rfl) Tryd.func4 (by kernel_rfl)
    (of_decide_eq_true (by kernel_rfl)) (by unfold Func.isWrapper; first | (rw [if_pos (by decide +kernel)]; kernel_rfl) | (rw [if_neg (by decide +kernel)]; exact ⟨rfl, rfl⟩))
    (fun os started H enc _ => lifted os started H enc)

theorem proved : Rows.AllocLiveCardSaid :=
  Claim7.holds_tied_plain_at .later [] [.data] true (true, "d51b28ec476ad5e110a5fa4d00725c99c0202bcd09048f8c0e32b6214a67fac0") false
    over (fun _ h => by cases h) (by kernel_rfl) (fun _ h => by cases h) allocLive_row_tie rfl ⟨rfl, rfl⟩ (by kernel_rfl) rfl
    (fun f fn hf hfn => by
      obtain rfl : f = 4 := Option.some.inj ((show Tryd.prog.funcNamed "keysmith/keysmithlaw14.AllocLive" = some 4 by kernel_rfl).symm.trans hf) |>.symm
      obtain rfl : fn = Tryd.f4 := (Option.some.inj (Tryd.func4.symm.trans hfn)).symm
      exact ⟨by kernel_rfl, fun j t ht => by
        rw [Tryd.params4] at ht
        have hm : t ∈ [25, 3] := by simpa [or_comm, or_assoc, or_left_comm] using Array.mem_of_getElem? ht
        have hall : ([25, 3].all fun u => !Tryd.prog.wantsStandIn u) = true := by kernel_rfl
        exact (show Tryd.prog.wantsStandIn t = false by simpa using List.all_eq_true.1 hall t hm)⟩)
    (by kernel_rfl)
#print axioms proved
end Go.Proofs.YtppoiahhaclleaaDoor.allocLive
