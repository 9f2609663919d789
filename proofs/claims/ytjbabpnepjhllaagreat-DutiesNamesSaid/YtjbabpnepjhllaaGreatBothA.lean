/- What duties.both asks: its four functions of a variable. -/
import Derived.Test.YtjbabpnepjhllaaGreatNeedsF
namespace Go.Proofs.YtjbabpnepjhllaaGreat
open Go.RowKit

theorem below_setRow {b : Nat} {w w' : World} (h : Below b w w') {g : Nat} (hg : b ≤ g) (cs : Array Value) : Below b w (w'.setRow g cs) :=
  ⟨h.os, h.tape, h.output, by rw [show (w'.setRow g cs).heap.size = w'.heap.size by simp [World.setRow]]; exact h.size, fun k hk => by rw [setRow_other _ _ _ _ (by omega)]; exact h.block k hk⟩
theorem of2_any (v : Int) (w : World) : Calls Tryz.prog 133 #[.int .i64 v] w fun e w' => e = .returned (.agg #[.int .i64 1, .int .i64 v, .int .i64 (-1)]) ∧ Below w.heap.size w w' := by
  have HA := Lib.hid alone_any
  go_enter Tryz.func133, Tryz.ntmps133
  go_wp2_with (first
    | ((with_reducible refine (HA.out _ _ _).mono ?_); rintro e w1 ⟨rfl, hb1⟩
       have hbk : w1.heap[w.heap.size]? = some (.cells #[.int .i64 0, .int .i64 0, .int .i64 0] 45 (0, 0)) := (hb1.block _ (by simp)).trans (heap_alloc_new w _)
       have HBK := Lib.hid hbk
       have HB1 := Lib.hid hb1
       clear hbk hb1)
    | (refine wpList_store_row rfl 45 _ _ rfl w.heap.size _ rfl rfl 45 #[.int .i64 0, .int .i64 0, .int .i64 0] HBK.out (by kernel_rfl) (by rfl) (by kernel_rfl) ?_)
    | go_in)
  refine bodyPost_ret (results_cell_row (ty := 45) rfl _ _ w.heap.size 45 _ (0, 0) _ rfl (setRow_heap _ _ _ _ _ _ HBK.out) Tryz.underlying45 rfl (by kernel_rfl)) rfl ⟨rfl, ?_⟩
  exact below_setRow (((Below.refl _ _).alloc (Nat.le_refl _) _).trans (HB1.out.mono (by simp))) (Nat.le_refl _) _
theorem of3_any (v : Int) (w : World) : Calls Tryz.prog 134 #[.int .i64 v] w fun e w' => e = .returned (.agg #[.int .i64 3, .int .i64 v, .int .i64 (-1)]) ∧ Below w.heap.size w w' := by
  have HA := Lib.hid alone_any
  go_enter Tryz.func134, Tryz.ntmps134
  go_wp2_with (first
    | ((with_reducible refine (HA.out _ _ _).mono ?_); rintro e w1 ⟨rfl, hb1⟩
       have hbk : w1.heap[w.heap.size]? = some (.cells #[.int .i64 0, .int .i64 0, .int .i64 0] 45 (0, 0)) := (hb1.block _ (by simp)).trans (heap_alloc_new w _)
       have HBK := Lib.hid hbk
       have HB1 := Lib.hid hb1
       clear hbk hb1)
    | (refine wpList_store_row rfl 45 _ _ rfl w.heap.size _ rfl rfl 45 #[.int .i64 0, .int .i64 0, .int .i64 0] HBK.out (by kernel_rfl) (by rfl) (by kernel_rfl) ?_)
    | go_in)
  refine bodyPost_ret (results_cell_row (ty := 45) rfl _ _ w.heap.size 45 _ (0, 0) _ rfl (setRow_heap _ _ _ _ _ _ HBK.out) Tryz.underlying45 rfl (by kernel_rfl)) rfl ⟨rfl, ?_⟩
  exact below_setRow (((Below.refl _ _).alloc (Nat.le_refl _) _).trans (HB1.out.mono (by simp))) (Nat.le_refl _) _
theorem of4_any (v y : Int) (B : Nat) (w : World) (hy : w.cell? ⟨B, 0, none⟩ = some (.int .i64 y)) (hB : B < w.heap.size) : Calls Tryz.prog 135 #[.int .i64 v, .pointer (some ⟨B, 0, none⟩)] w fun e w' => e = .returned (.agg #[.int .i64 2, .int .i64 v, .int .i64 y]) ∧ Below w.heap.size w w' := by
  have HA := Lib.hid less_any
  go_enter Tryz.func135, Tryz.ntmps135
  go_wp2_with (first
    | ((with_reducible refine (HA.out _ _ _).mono ?_); rintro e w1 ⟨rfl, hb1⟩
       have hbk : w1.heap[w.heap.size]? = some (.cells #[.int .i64 0, .int .i64 0, .int .i64 0] 45 (0, 0)) := (hb1.block _ (by simp)).trans (heap_alloc_new w _)
       have HBK := Lib.hid hbk
       have HB1 := Lib.hid hb1
       clear hbk hb1)
    | (refine wpList_store_row rfl 45 _ _ rfl w.heap.size _ rfl rfl 45 #[.int .i64 0, .int .i64 0, .int .i64 0] HBK.out (by kernel_rfl) (by rfl) (by kernel_rfl) ?_)
    | go_in)
  refine bodyPost_ret (results_cell_row (ty := 45) rfl _ _ w.heap.size 45 _ (0, 0) _ rfl (setRow_heap _ _ _ _ _ _ HBK.out) Tryz.underlying45 rfl (by kernel_rfl)) rfl ⟨rfl, ?_⟩
  exact below_setRow (((Below.refl _ _).alloc (Nat.le_refl _) _).trans (HB1.out.mono (by simp))) (Nat.le_refl _) _
theorem of5_any (v y : Int) (B : Nat) (w : World) (hy : w.cell? ⟨B, 0, none⟩ = some (.int .i64 y)) (hB : B < w.heap.size) : Calls Tryz.prog 136 #[.int .i64 v, .pointer (some ⟨B, 0, none⟩)] w fun e w' => e = .returned (.agg #[.int .i64 2, .int .i64 y, .int .i64 v]) ∧ Below w.heap.size w w' := by
  have HA := Lib.hid less_any
  go_enter Tryz.func136, Tryz.ntmps136
  go_wp2_with (first
    | ((with_reducible refine (HA.out _ _ _).mono ?_); rintro e w1 ⟨rfl, hb1⟩
       have hbk : w1.heap[w.heap.size]? = some (.cells #[.int .i64 0, .int .i64 0, .int .i64 0] 45 (0, 0)) := (hb1.block _ (by simp)).trans (heap_alloc_new w _)
       have HBK := Lib.hid hbk
       have HB1 := Lib.hid hb1
       clear hbk hb1)
    | (refine wpList_store_row rfl 45 _ _ rfl w.heap.size _ rfl rfl 45 #[.int .i64 0, .int .i64 0, .int .i64 0] HBK.out (by kernel_rfl) (by rfl) (by kernel_rfl) ?_)
    | go_in)
  refine bodyPost_ret (results_cell_row (ty := 45) rfl _ _ w.heap.size 45 _ (0, 0) _ rfl (setRow_heap _ _ _ _ _ _ HBK.out) Tryz.underlying45 rfl (by kernel_rfl)) rfl ⟨rfl, ?_⟩
  exact below_setRow (((Below.refl _ _).alloc (Nat.le_refl _) _).trans (HB1.out.mono (by simp))) (Nat.le_refl _) _
end Go.Proofs.YtjbabpnepjhllaaGreat
