/- package keysmithref05: Flags, Jump. -/
import Derived.Test.YtmanhikpccnfaaaGreatRef05d
import Derived.Test.YtmanhikpccnfaaaGreatPlainStaysC
import Derived.Outline
namespace Go.Proofs.YtmanhikpccnfaaaGreat
open Go.RowKit


set_option maxRecDepth 100000 in
set_option maxHeartbeats 800000 in
theorem Flags_none (i : Ins) (hc : chkP i = false) (w : World) :
    Calls Tryz.prog 18 #[.agg (insRow i).toArray] w fun e w' => e = .returned (.tuple #[.int .i64 0, .int .i64 0]) ∧ Below w.heap.size w w' := by
  have HC := Lib.hid hc
  clear hc
  have HCHK := Lib.hid (fun w => rCheck_any i w)
  obtain ⟨W1, hW1, hb1, hs1, hn1, _⟩ := boxed w (insRow i).toArray 29
  have k1 : W1.heap[w.heap.size]? = some (.cells (insRow i).toArray 29 (0, 0)) := by rw [hW1]; exact heap_alloc_new w _
  have HK1 := Lib.hid k1
  have HW1 := Lib.hid hW1
  have HB1 := Lib.hid hb1
  have HN1 := Lib.hid hn1
  have m1 : w.heap.size < W1.heap.size := by omega
  clear hW1 hb1 hs1 hn1 k1
  go_enter Tryz.func18, Tryz.ntmps18
  go_wp2_with (rw [← HW1.out]; refine wpList_load_row rfl 29 _ rfl w.heap.size rfl 29 (insRow i).toArray (0, 0) _ HK1.out Tryz.underlying29 rfl infoIns ?_)
  refine (HCHK.out W1).mono ?_
  rintro e w2 ⟨rfl, hb2⟩
  rw [HC.out]
  have HB2 := Lib.hid hb2
  clear hb2
  unfold errOf
  go_wp2
  go_ret2
  exact ⟨rfl, HB1.out.trans (HB2.out.mono (by omega))⟩
set_option maxRecDepth 100000 in
set_option maxHeartbeats 800000 in
theorem Flags_1 (i : Ins) (hop : i.op = 1) (hc : chkP i = true) (w : World) :
    Calls Tryz.prog 18 #[.agg (insRow i).toArray] w fun e w' => e = .returned (.tuple #[.int .i64 (flagsR 1 : Nat), .int .i64 (flagsW 1 : Nat)]) ∧ Below w.heap.size w w' := by
  have HC := Lib.hid hc
  have HOP := Lib.hid hop
  clear hc hop
  have HCHK := Lib.hid (fun w => rCheck_any i w)
  obtain ⟨W1, hW1, hb1, hs1, hn1, _⟩ := boxed w (insRow i).toArray 29
  have k1 : W1.heap[w.heap.size]? = some (.cells (insRow i).toArray 29 (0, 0)) := by rw [hW1]; exact heap_alloc_new w _
  have HK1 := Lib.hid k1
  have HW1 := Lib.hid hW1
  have HB1 := Lib.hid hb1
  have HN1 := Lib.hid hn1
  have m1 : w.heap.size < W1.heap.size := by omega
  clear hW1 hb1 hs1 hn1 k1
  go_enter Tryz.func18, Tryz.ntmps18
  go_wp2_with (rw [← HW1.out]; refine wpList_load_row rfl 29 _ rfl w.heap.size rfl 29 (insRow i).toArray (0, 0) _ HK1.out Tryz.underlying29 rfl infoIns ?_)
  refine (HCHK.out W1).mono ?_
  rintro e w2 ⟨rfl, hb2⟩
  rw [HC.out]
  have HB2 := Lib.hid hb2
  have q0 := (hb2.cell (p := ⟨w.heap.size, 0, none⟩) m1).trans (HN1.out 0)
  simp only [insRow, List.getElem?_toArray, List.getElem?_cons_zero] at q0
  rw [HOP.out] at q0
  clear hb2
  unfold errOf
  go_wp2
  go_ret2
  exact ⟨rfl, HB1.out.trans (HB2.out.mono (by omega))⟩
set_option maxRecDepth 100000 in
set_option maxHeartbeats 800000 in
theorem Flags_2 (i : Ins) (hop : i.op = 2) (hc : chkP i = true) (w : World) :
    Calls Tryz.prog 18 #[.agg (insRow i).toArray] w fun e w' => e = .returned (.tuple #[.int .i64 (flagsR 2 : Nat), .int .i64 (flagsW 2 : Nat)]) ∧ Below w.heap.size w w' := by
  have HC := Lib.hid hc
  have HOP := Lib.hid hop
  clear hc hop
  have HCHK := Lib.hid (fun w => rCheck_any i w)
  obtain ⟨W1, hW1, hb1, hs1, hn1, _⟩ := boxed w (insRow i).toArray 29
  have k1 : W1.heap[w.heap.size]? = some (.cells (insRow i).toArray 29 (0, 0)) := by rw [hW1]; exact heap_alloc_new w _
  have HK1 := Lib.hid k1
  have HW1 := Lib.hid hW1
  have HB1 := Lib.hid hb1
  have HN1 := Lib.hid hn1
  have m1 : w.heap.size < W1.heap.size := by omega
  clear hW1 hb1 hs1 hn1 k1
  go_enter Tryz.func18, Tryz.ntmps18
  go_wp2_with (rw [← HW1.out]; refine wpList_load_row rfl 29 _ rfl w.heap.size rfl 29 (insRow i).toArray (0, 0) _ HK1.out Tryz.underlying29 rfl infoIns ?_)
  refine (HCHK.out W1).mono ?_
  rintro e w2 ⟨rfl, hb2⟩
  rw [HC.out]
  have HB2 := Lib.hid hb2
  have q0 := (hb2.cell (p := ⟨w.heap.size, 0, none⟩) m1).trans (HN1.out 0)
  simp only [insRow, List.getElem?_toArray, List.getElem?_cons_zero] at q0
  rw [HOP.out] at q0
  clear hb2
  unfold errOf
  go_wp2
  go_ret2
  exact ⟨rfl, HB1.out.trans (HB2.out.mono (by omega))⟩
set_option maxRecDepth 100000 in
set_option maxHeartbeats 800000 in
theorem Flags_3 (i : Ins) (hop : i.op = 3) (hc : chkP i = true) (w : World) :
    Calls Tryz.prog 18 #[.agg (insRow i).toArray] w fun e w' => e = .returned (.tuple #[.int .i64 (flagsR 3 : Nat), .int .i64 (flagsW 3 : Nat)]) ∧ Below w.heap.size w w' := by
  have HC := Lib.hid hc
  have HOP := Lib.hid hop
  clear hc hop
  have HCHK := Lib.hid (fun w => rCheck_any i w)
  obtain ⟨W1, hW1, hb1, hs1, hn1, _⟩ := boxed w (insRow i).toArray 29
  have k1 : W1.heap[w.heap.size]? = some (.cells (insRow i).toArray 29 (0, 0)) := by rw [hW1]; exact heap_alloc_new w _
  have HK1 := Lib.hid k1
  have HW1 := Lib.hid hW1
  have HB1 := Lib.hid hb1
  have HN1 := Lib.hid hn1
  have m1 : w.heap.size < W1.heap.size := by omega
  clear hW1 hb1 hs1 hn1 k1
  go_enter Tryz.func18, Tryz.ntmps18
  go_wp2_with (rw [← HW1.out]; refine wpList_load_row rfl 29 _ rfl w.heap.size rfl 29 (insRow i).toArray (0, 0) _ HK1.out Tryz.underlying29 rfl infoIns ?_)
  refine (HCHK.out W1).mono ?_
  rintro e w2 ⟨rfl, hb2⟩
  rw [HC.out]
  have HB2 := Lib.hid hb2
  have q0 := (hb2.cell (p := ⟨w.heap.size, 0, none⟩) m1).trans (HN1.out 0)
  simp only [insRow, List.getElem?_toArray, List.getElem?_cons_zero] at q0
  rw [HOP.out] at q0
  clear hb2
  unfold errOf
  go_wp2
  go_ret2
  exact ⟨rfl, HB1.out.trans (HB2.out.mono (by omega))⟩
set_option maxRecDepth 100000 in
set_option maxHeartbeats 800000 in
theorem Flags_4 (i : Ins) (hop : i.op = 4) (hc : chkP i = true) (w : World) :
    Calls Tryz.prog 18 #[.agg (insRow i).toArray] w fun e w' => e = .returned (.tuple #[.int .i64 (flagsR 4 : Nat), .int .i64 (flagsW 4 : Nat)]) ∧ Below w.heap.size w w' := by
  have HC := Lib.hid hc
  have HOP := Lib.hid hop
  clear hc hop
  have HCHK := Lib.hid (fun w => rCheck_any i w)
  obtain ⟨W1, hW1, hb1, hs1, hn1, _⟩ := boxed w (insRow i).toArray 29
  have k1 : W1.heap[w.heap.size]? = some (.cells (insRow i).toArray 29 (0, 0)) := by rw [hW1]; exact heap_alloc_new w _
  have HK1 := Lib.hid k1
  have HW1 := Lib.hid hW1
  have HB1 := Lib.hid hb1
  have HN1 := Lib.hid hn1
  have m1 : w.heap.size < W1.heap.size := by omega
  clear hW1 hb1 hs1 hn1 k1
  go_enter Tryz.func18, Tryz.ntmps18
  go_wp2_with (rw [← HW1.out]; refine wpList_load_row rfl 29 _ rfl w.heap.size rfl 29 (insRow i).toArray (0, 0) _ HK1.out Tryz.underlying29 rfl infoIns ?_)
  refine (HCHK.out W1).mono ?_
  rintro e w2 ⟨rfl, hb2⟩
  rw [HC.out]
  have HB2 := Lib.hid hb2
  have q0 := (hb2.cell (p := ⟨w.heap.size, 0, none⟩) m1).trans (HN1.out 0)
  simp only [insRow, List.getElem?_toArray, List.getElem?_cons_zero] at q0
  rw [HOP.out] at q0
  clear hb2
  unfold errOf
  go_wp2
  go_ret2
  exact ⟨rfl, HB1.out.trans (HB2.out.mono (by omega))⟩
set_option maxRecDepth 100000 in
set_option maxHeartbeats 800000 in
theorem Flags_5 (i : Ins) (hop : i.op = 5) (hc : chkP i = true) (w : World) :
    Calls Tryz.prog 18 #[.agg (insRow i).toArray] w fun e w' => e = .returned (.tuple #[.int .i64 (flagsR 5 : Nat), .int .i64 (flagsW 5 : Nat)]) ∧ Below w.heap.size w w' := by
  have HC := Lib.hid hc
  have HOP := Lib.hid hop
  clear hc hop
  have HCHK := Lib.hid (fun w => rCheck_any i w)
  obtain ⟨W1, hW1, hb1, hs1, hn1, _⟩ := boxed w (insRow i).toArray 29
  have k1 : W1.heap[w.heap.size]? = some (.cells (insRow i).toArray 29 (0, 0)) := by rw [hW1]; exact heap_alloc_new w _
  have HK1 := Lib.hid k1
  have HW1 := Lib.hid hW1
  have HB1 := Lib.hid hb1
  have HN1 := Lib.hid hn1
  have m1 : w.heap.size < W1.heap.size := by omega
  clear hW1 hb1 hs1 hn1 k1
  go_enter Tryz.func18, Tryz.ntmps18
  go_wp2_with (rw [← HW1.out]; refine wpList_load_row rfl 29 _ rfl w.heap.size rfl 29 (insRow i).toArray (0, 0) _ HK1.out Tryz.underlying29 rfl infoIns ?_)
  refine (HCHK.out W1).mono ?_
  rintro e w2 ⟨rfl, hb2⟩
  rw [HC.out]
  have HB2 := Lib.hid hb2
  have q0 := (hb2.cell (p := ⟨w.heap.size, 0, none⟩) m1).trans (HN1.out 0)
  simp only [insRow, List.getElem?_toArray, List.getElem?_cons_zero] at q0
  rw [HOP.out] at q0
  clear hb2
  unfold errOf
  go_wp2
  go_ret2
  exact ⟨rfl, HB1.out.trans (HB2.out.mono (by omega))⟩
set_option maxRecDepth 100000 in
set_option maxHeartbeats 800000 in
theorem Flags_6 (i : Ins) (hop : i.op = 6) (hc : chkP i = true) (w : World) :
    Calls Tryz.prog 18 #[.agg (insRow i).toArray] w fun e w' => e = .returned (.tuple #[.int .i64 (flagsR 6 : Nat), .int .i64 (flagsW 6 : Nat)]) ∧ Below w.heap.size w w' := by
  have HC := Lib.hid hc
  have HOP := Lib.hid hop
  clear hc hop
  have HCHK := Lib.hid (fun w => rCheck_any i w)
  obtain ⟨W1, hW1, hb1, hs1, hn1, _⟩ := boxed w (insRow i).toArray 29
  have k1 : W1.heap[w.heap.size]? = some (.cells (insRow i).toArray 29 (0, 0)) := by rw [hW1]; exact heap_alloc_new w _
  have HK1 := Lib.hid k1
  have HW1 := Lib.hid hW1
  have HB1 := Lib.hid hb1
  have HN1 := Lib.hid hn1
  have m1 : w.heap.size < W1.heap.size := by omega
  clear hW1 hb1 hs1 hn1 k1
  go_enter Tryz.func18, Tryz.ntmps18
  go_wp2_with (rw [← HW1.out]; refine wpList_load_row rfl 29 _ rfl w.heap.size rfl 29 (insRow i).toArray (0, 0) _ HK1.out Tryz.underlying29 rfl infoIns ?_)
  refine (HCHK.out W1).mono ?_
  rintro e w2 ⟨rfl, hb2⟩
  rw [HC.out]
  have HB2 := Lib.hid hb2
  have q0 := (hb2.cell (p := ⟨w.heap.size, 0, none⟩) m1).trans (HN1.out 0)
  simp only [insRow, List.getElem?_toArray, List.getElem?_cons_zero] at q0
  rw [HOP.out] at q0
  clear hb2
  unfold errOf
  go_wp2
  go_ret2
  exact ⟨rfl, HB1.out.trans (HB2.out.mono (by omega))⟩
set_option maxRecDepth 100000 in
set_option maxHeartbeats 800000 in
theorem Flags_7 (i : Ins) (hop : i.op = 7) (hc : chkP i = true) (w : World) :
    Calls Tryz.prog 18 #[.agg (insRow i).toArray] w fun e w' => e = .returned (.tuple #[.int .i64 (flagsR 7 : Nat), .int .i64 (flagsW 7 : Nat)]) ∧ Below w.heap.size w w' := by
  have HC := Lib.hid hc
  have HOP := Lib.hid hop
  clear hc hop
  have HCHK := Lib.hid (fun w => rCheck_any i w)
  obtain ⟨W1, hW1, hb1, hs1, hn1, _⟩ := boxed w (insRow i).toArray 29
  have k1 : W1.heap[w.heap.size]? = some (.cells (insRow i).toArray 29 (0, 0)) := by rw [hW1]; exact heap_alloc_new w _
  have HK1 := Lib.hid k1
  have HW1 := Lib.hid hW1
  have HB1 := Lib.hid hb1
  have HN1 := Lib.hid hn1
  have m1 : w.heap.size < W1.heap.size := by omega
  clear hW1 hb1 hs1 hn1 k1
  go_enter Tryz.func18, Tryz.ntmps18
  go_wp2_with (rw [← HW1.out]; refine wpList_load_row rfl 29 _ rfl w.heap.size rfl 29 (insRow i).toArray (0, 0) _ HK1.out Tryz.underlying29 rfl infoIns ?_)
  refine (HCHK.out W1).mono ?_
  rintro e w2 ⟨rfl, hb2⟩
  rw [HC.out]
  have HB2 := Lib.hid hb2
  have q0 := (hb2.cell (p := ⟨w.heap.size, 0, none⟩) m1).trans (HN1.out 0)
  simp only [insRow, List.getElem?_toArray, List.getElem?_cons_zero] at q0
  rw [HOP.out] at q0
  clear hb2
  unfold errOf
  go_wp2
  go_ret2
  exact ⟨rfl, HB1.out.trans (HB2.out.mono (by omega))⟩
set_option maxRecDepth 100000 in
set_option maxHeartbeats 800000 in
theorem Flags_8 (i : Ins) (hop : i.op = 8) (hc : chkP i = true) (w : World) :
    Calls Tryz.prog 18 #[.agg (insRow i).toArray] w fun e w' => e = .returned (.tuple #[.int .i64 (flagsR 8 : Nat), .int .i64 (flagsW 8 : Nat)]) ∧ Below w.heap.size w w' := by
  have HC := Lib.hid hc
  have HOP := Lib.hid hop
  clear hc hop
  have HCHK := Lib.hid (fun w => rCheck_any i w)
  obtain ⟨W1, hW1, hb1, hs1, hn1, _⟩ := boxed w (insRow i).toArray 29
  have k1 : W1.heap[w.heap.size]? = some (.cells (insRow i).toArray 29 (0, 0)) := by rw [hW1]; exact heap_alloc_new w _
  have HK1 := Lib.hid k1
  have HW1 := Lib.hid hW1
  have HB1 := Lib.hid hb1
  have HN1 := Lib.hid hn1
  have m1 : w.heap.size < W1.heap.size := by omega
  clear hW1 hb1 hs1 hn1 k1
  go_enter Tryz.func18, Tryz.ntmps18
  go_wp2_with (rw [← HW1.out]; refine wpList_load_row rfl 29 _ rfl w.heap.size rfl 29 (insRow i).toArray (0, 0) _ HK1.out Tryz.underlying29 rfl infoIns ?_)
  refine (HCHK.out W1).mono ?_
  rintro e w2 ⟨rfl, hb2⟩
  rw [HC.out]
  have HB2 := Lib.hid hb2
  have q0 := (hb2.cell (p := ⟨w.heap.size, 0, none⟩) m1).trans (HN1.out 0)
  simp only [insRow, List.getElem?_toArray, List.getElem?_cons_zero] at q0
  rw [HOP.out] at q0
  clear hb2
  unfold errOf
  go_wp2
  go_ret2
  exact ⟨rfl, HB1.out.trans (HB2.out.mono (by omega))⟩
set_option maxRecDepth 100000 in
set_option maxHeartbeats 800000 in
theorem Flags_9 (i : Ins) (hop : i.op = 9) (hc : chkP i = true) (w : World) :
    Calls Tryz.prog 18 #[.agg (insRow i).toArray] w fun e w' => e = .returned (.tuple #[.int .i64 (flagsR 9 : Nat), .int .i64 (flagsW 9 : Nat)]) ∧ Below w.heap.size w w' := by
  have HC := Lib.hid hc
  have HOP := Lib.hid hop
  clear hc hop
  have HCHK := Lib.hid (fun w => rCheck_any i w)
  obtain ⟨W1, hW1, hb1, hs1, hn1, _⟩ := boxed w (insRow i).toArray 29
  have k1 : W1.heap[w.heap.size]? = some (.cells (insRow i).toArray 29 (0, 0)) := by rw [hW1]; exact heap_alloc_new w _
  have HK1 := Lib.hid k1
  have HW1 := Lib.hid hW1
  have HB1 := Lib.hid hb1
  have HN1 := Lib.hid hn1
  have m1 : w.heap.size < W1.heap.size := by omega
  clear hW1 hb1 hs1 hn1 k1
  go_enter Tryz.func18, Tryz.ntmps18
  go_wp2_with (rw [← HW1.out]; refine wpList_load_row rfl 29 _ rfl w.heap.size rfl 29 (insRow i).toArray (0, 0) _ HK1.out Tryz.underlying29 rfl infoIns ?_)
  refine (HCHK.out W1).mono ?_
  rintro e w2 ⟨rfl, hb2⟩
  rw [HC.out]
  have HB2 := Lib.hid hb2
  have q0 := (hb2.cell (p := ⟨w.heap.size, 0, none⟩) m1).trans (HN1.out 0)
  simp only [insRow, List.getElem?_toArray, List.getElem?_cons_zero] at q0
  rw [HOP.out] at q0
  clear hb2
  unfold errOf
  go_wp2
  go_ret2
  exact ⟨rfl, HB1.out.trans (HB2.out.mono (by omega))⟩
set_option maxRecDepth 100000 in
set_option maxHeartbeats 800000 in
theorem Flags_10 (i : Ins) (hop : i.op = 10) (hc : chkP i = true) (w : World) :
    Calls Tryz.prog 18 #[.agg (insRow i).toArray] w fun e w' => e = .returned (.tuple #[.int .i64 (flagsR 10 : Nat), .int .i64 (flagsW 10 : Nat)]) ∧ Below w.heap.size w w' := by
  have HC := Lib.hid hc
  have HOP := Lib.hid hop
  clear hc hop
  have HCHK := Lib.hid (fun w => rCheck_any i w)
  obtain ⟨W1, hW1, hb1, hs1, hn1, _⟩ := boxed w (insRow i).toArray 29
  have k1 : W1.heap[w.heap.size]? = some (.cells (insRow i).toArray 29 (0, 0)) := by rw [hW1]; exact heap_alloc_new w _
  have HK1 := Lib.hid k1
  have HW1 := Lib.hid hW1
  have HB1 := Lib.hid hb1
  have HN1 := Lib.hid hn1
  have m1 : w.heap.size < W1.heap.size := by omega
  clear hW1 hb1 hs1 hn1 k1
  go_enter Tryz.func18, Tryz.ntmps18
  go_wp2_with (rw [← HW1.out]; refine wpList_load_row rfl 29 _ rfl w.heap.size rfl 29 (insRow i).toArray (0, 0) _ HK1.out Tryz.underlying29 rfl infoIns ?_)
  refine (HCHK.out W1).mono ?_
  rintro e w2 ⟨rfl, hb2⟩
  rw [HC.out]
  have HB2 := Lib.hid hb2
  have q0 := (hb2.cell (p := ⟨w.heap.size, 0, none⟩) m1).trans (HN1.out 0)
  simp only [insRow, List.getElem?_toArray, List.getElem?_cons_zero] at q0
  rw [HOP.out] at q0
  clear hb2
  unfold errOf
  go_wp2
  go_ret2
  exact ⟨rfl, HB1.out.trans (HB2.out.mono (by omega))⟩
set_option maxRecDepth 100000 in
set_option maxHeartbeats 800000 in
theorem Flags_11 (i : Ins) (hop : i.op = 11) (hc : chkP i = true) (w : World) :
    Calls Tryz.prog 18 #[.agg (insRow i).toArray] w fun e w' => e = .returned (.tuple #[.int .i64 (flagsR 11 : Nat), .int .i64 (flagsW 11 : Nat)]) ∧ Below w.heap.size w w' := by
  have HC := Lib.hid hc
  have HOP := Lib.hid hop
  clear hc hop
  have HCHK := Lib.hid (fun w => rCheck_any i w)
  obtain ⟨W1, hW1, hb1, hs1, hn1, _⟩ := boxed w (insRow i).toArray 29
  have k1 : W1.heap[w.heap.size]? = some (.cells (insRow i).toArray 29 (0, 0)) := by rw [hW1]; exact heap_alloc_new w _
  have HK1 := Lib.hid k1
  have HW1 := Lib.hid hW1
  have HB1 := Lib.hid hb1
  have HN1 := Lib.hid hn1
  have m1 : w.heap.size < W1.heap.size := by omega
  clear hW1 hb1 hs1 hn1 k1
  go_enter Tryz.func18, Tryz.ntmps18
  go_wp2_with (rw [← HW1.out]; refine wpList_load_row rfl 29 _ rfl w.heap.size rfl 29 (insRow i).toArray (0, 0) _ HK1.out Tryz.underlying29 rfl infoIns ?_)
  refine (HCHK.out W1).mono ?_
  rintro e w2 ⟨rfl, hb2⟩
  rw [HC.out]
  have HB2 := Lib.hid hb2
  have q0 := (hb2.cell (p := ⟨w.heap.size, 0, none⟩) m1).trans (HN1.out 0)
  simp only [insRow, List.getElem?_toArray, List.getElem?_cons_zero] at q0
  rw [HOP.out] at q0
  clear hb2
  unfold errOf
  go_wp2
  go_ret2
  exact ⟨rfl, HB1.out.trans (HB2.out.mono (by omega))⟩
set_option maxRecDepth 100000 in
set_option maxHeartbeats 800000 in
theorem Flags_12 (i : Ins) (hop : i.op = 12) (hc : chkP i = true) (w : World) :
    Calls Tryz.prog 18 #[.agg (insRow i).toArray] w fun e w' => e = .returned (.tuple #[.int .i64 (flagsR 12 : Nat), .int .i64 (flagsW 12 : Nat)]) ∧ Below w.heap.size w w' := by
  have HC := Lib.hid hc
  have HOP := Lib.hid hop
  clear hc hop
  have HCHK := Lib.hid (fun w => rCheck_any i w)
  obtain ⟨W1, hW1, hb1, hs1, hn1, _⟩ := boxed w (insRow i).toArray 29
  have k1 : W1.heap[w.heap.size]? = some (.cells (insRow i).toArray 29 (0, 0)) := by rw [hW1]; exact heap_alloc_new w _
  have HK1 := Lib.hid k1
  have HW1 := Lib.hid hW1
  have HB1 := Lib.hid hb1
  have HN1 := Lib.hid hn1
  have m1 : w.heap.size < W1.heap.size := by omega
  clear hW1 hb1 hs1 hn1 k1
  go_enter Tryz.func18, Tryz.ntmps18
  go_wp2_with (rw [← HW1.out]; refine wpList_load_row rfl 29 _ rfl w.heap.size rfl 29 (insRow i).toArray (0, 0) _ HK1.out Tryz.underlying29 rfl infoIns ?_)
  refine (HCHK.out W1).mono ?_
  rintro e w2 ⟨rfl, hb2⟩
  rw [HC.out]
  have HB2 := Lib.hid hb2
  have q0 := (hb2.cell (p := ⟨w.heap.size, 0, none⟩) m1).trans (HN1.out 0)
  simp only [insRow, List.getElem?_toArray, List.getElem?_cons_zero] at q0
  rw [HOP.out] at q0
  clear hb2
  unfold errOf
  go_wp2
  go_ret2
  exact ⟨rfl, HB1.out.trans (HB2.out.mono (by omega))⟩
set_option maxRecDepth 100000 in
set_option maxHeartbeats 800000 in
theorem Flags_13 (i : Ins) (hop : i.op = 13) (hc : chkP i = true) (w : World) :
    Calls Tryz.prog 18 #[.agg (insRow i).toArray] w fun e w' => e = .returned (.tuple #[.int .i64 (flagsR 13 : Nat), .int .i64 (flagsW 13 : Nat)]) ∧ Below w.heap.size w w' := by
  have HC := Lib.hid hc
  have HOP := Lib.hid hop
  clear hc hop
  have HCHK := Lib.hid (fun w => rCheck_any i w)
  obtain ⟨W1, hW1, hb1, hs1, hn1, _⟩ := boxed w (insRow i).toArray 29
  have k1 : W1.heap[w.heap.size]? = some (.cells (insRow i).toArray 29 (0, 0)) := by rw [hW1]; exact heap_alloc_new w _
  have HK1 := Lib.hid k1
  have HW1 := Lib.hid hW1
  have HB1 := Lib.hid hb1
  have HN1 := Lib.hid hn1
  have m1 : w.heap.size < W1.heap.size := by omega
  clear hW1 hb1 hs1 hn1 k1
  go_enter Tryz.func18, Tryz.ntmps18
  go_wp2_with (rw [← HW1.out]; refine wpList_load_row rfl 29 _ rfl w.heap.size rfl 29 (insRow i).toArray (0, 0) _ HK1.out Tryz.underlying29 rfl infoIns ?_)
  refine (HCHK.out W1).mono ?_
  rintro e w2 ⟨rfl, hb2⟩
  rw [HC.out]
  have HB2 := Lib.hid hb2
  have q0 := (hb2.cell (p := ⟨w.heap.size, 0, none⟩) m1).trans (HN1.out 0)
  simp only [insRow, List.getElem?_toArray, List.getElem?_cons_zero] at q0
  rw [HOP.out] at q0
  clear hb2
  unfold errOf
  go_wp2
  go_ret2
  exact ⟨rfl, HB1.out.trans (HB2.out.mono (by omega))⟩
set_option maxRecDepth 100000 in
set_option maxHeartbeats 800000 in
theorem Flags_14 (i : Ins) (hop : i.op = 14) (hc : chkP i = true) (w : World) :
    Calls Tryz.prog 18 #[.agg (insRow i).toArray] w fun e w' => e = .returned (.tuple #[.int .i64 (flagsR 14 : Nat), .int .i64 (flagsW 14 : Nat)]) ∧ Below w.heap.size w w' := by
  have HC := Lib.hid hc
  have HOP := Lib.hid hop
  clear hc hop
  have HCHK := Lib.hid (fun w => rCheck_any i w)
  obtain ⟨W1, hW1, hb1, hs1, hn1, _⟩ := boxed w (insRow i).toArray 29
  have k1 : W1.heap[w.heap.size]? = some (.cells (insRow i).toArray 29 (0, 0)) := by rw [hW1]; exact heap_alloc_new w _
  have HK1 := Lib.hid k1
  have HW1 := Lib.hid hW1
  have HB1 := Lib.hid hb1
  have HN1 := Lib.hid hn1
  have m1 : w.heap.size < W1.heap.size := by omega
  clear hW1 hb1 hs1 hn1 k1
  go_enter Tryz.func18, Tryz.ntmps18
  go_wp2_with (rw [← HW1.out]; refine wpList_load_row rfl 29 _ rfl w.heap.size rfl 29 (insRow i).toArray (0, 0) _ HK1.out Tryz.underlying29 rfl infoIns ?_)
  refine (HCHK.out W1).mono ?_
  rintro e w2 ⟨rfl, hb2⟩
  rw [HC.out]
  have HB2 := Lib.hid hb2
  have q0 := (hb2.cell (p := ⟨w.heap.size, 0, none⟩) m1).trans (HN1.out 0)
  simp only [insRow, List.getElem?_toArray, List.getElem?_cons_zero] at q0
  rw [HOP.out] at q0
  clear hb2
  unfold errOf
  go_wp2
  go_ret2
  exact ⟨rfl, HB1.out.trans (HB2.out.mono (by omega))⟩
set_option maxRecDepth 100000 in
set_option maxHeartbeats 800000 in
theorem Flags_15 (i : Ins) (hop : i.op = 15) (hc : chkP i = true) (w : World) :
    Calls Tryz.prog 18 #[.agg (insRow i).toArray] w fun e w' => e = .returned (.tuple #[.int .i64 (flagsR 15 : Nat), .int .i64 (flagsW 15 : Nat)]) ∧ Below w.heap.size w w' := by
  have HC := Lib.hid hc
  have HOP := Lib.hid hop
  clear hc hop
  have HCHK := Lib.hid (fun w => rCheck_any i w)
  obtain ⟨W1, hW1, hb1, hs1, hn1, _⟩ := boxed w (insRow i).toArray 29
  have k1 : W1.heap[w.heap.size]? = some (.cells (insRow i).toArray 29 (0, 0)) := by rw [hW1]; exact heap_alloc_new w _
  have HK1 := Lib.hid k1
  have HW1 := Lib.hid hW1
  have HB1 := Lib.hid hb1
  have HN1 := Lib.hid hn1
  have m1 : w.heap.size < W1.heap.size := by omega
  clear hW1 hb1 hs1 hn1 k1
  go_enter Tryz.func18, Tryz.ntmps18
  go_wp2_with (rw [← HW1.out]; refine wpList_load_row rfl 29 _ rfl w.heap.size rfl 29 (insRow i).toArray (0, 0) _ HK1.out Tryz.underlying29 rfl infoIns ?_)
  refine (HCHK.out W1).mono ?_
  rintro e w2 ⟨rfl, hb2⟩
  rw [HC.out]
  have HB2 := Lib.hid hb2
  have q0 := (hb2.cell (p := ⟨w.heap.size, 0, none⟩) m1).trans (HN1.out 0)
  simp only [insRow, List.getElem?_toArray, List.getElem?_cons_zero] at q0
  rw [HOP.out] at q0
  clear hb2
  unfold errOf
  go_wp2
  go_ret2
  exact ⟨rfl, HB1.out.trans (HB2.out.mono (by omega))⟩
set_option maxRecDepth 100000 in
set_option maxHeartbeats 800000 in
theorem Flags_16 (i : Ins) (hop : i.op = 16) (hc : chkP i = true) (w : World) :
    Calls Tryz.prog 18 #[.agg (insRow i).toArray] w fun e w' => e = .returned (.tuple #[.int .i64 (flagsR 16 : Nat), .int .i64 (flagsW 16 : Nat)]) ∧ Below w.heap.size w w' := by
  have HC := Lib.hid hc
  have HOP := Lib.hid hop
  clear hc hop
  have HCHK := Lib.hid (fun w => rCheck_any i w)
  obtain ⟨W1, hW1, hb1, hs1, hn1, _⟩ := boxed w (insRow i).toArray 29
  have k1 : W1.heap[w.heap.size]? = some (.cells (insRow i).toArray 29 (0, 0)) := by rw [hW1]; exact heap_alloc_new w _
  have HK1 := Lib.hid k1
  have HW1 := Lib.hid hW1
  have HB1 := Lib.hid hb1
  have HN1 := Lib.hid hn1
  have m1 : w.heap.size < W1.heap.size := by omega
  clear hW1 hb1 hs1 hn1 k1
  go_enter Tryz.func18, Tryz.ntmps18
  go_wp2_with (rw [← HW1.out]; refine wpList_load_row rfl 29 _ rfl w.heap.size rfl 29 (insRow i).toArray (0, 0) _ HK1.out Tryz.underlying29 rfl infoIns ?_)
  refine (HCHK.out W1).mono ?_
  rintro e w2 ⟨rfl, hb2⟩
  rw [HC.out]
  have HB2 := Lib.hid hb2
  have q0 := (hb2.cell (p := ⟨w.heap.size, 0, none⟩) m1).trans (HN1.out 0)
  simp only [insRow, List.getElem?_toArray, List.getElem?_cons_zero] at q0
  rw [HOP.out] at q0
  clear hb2
  unfold errOf
  go_wp2
  go_ret2
  exact ⟨rfl, HB1.out.trans (HB2.out.mono (by omega))⟩
set_option maxRecDepth 100000 in
set_option maxHeartbeats 800000 in
theorem Flags_17 (i : Ins) (hop : i.op = 17) (hc : chkP i = true) (w : World) :
    Calls Tryz.prog 18 #[.agg (insRow i).toArray] w fun e w' => e = .returned (.tuple #[.int .i64 (flagsR 17 : Nat), .int .i64 (flagsW 17 : Nat)]) ∧ Below w.heap.size w w' := by
  have HC := Lib.hid hc
  have HOP := Lib.hid hop
  clear hc hop
  have HCHK := Lib.hid (fun w => rCheck_any i w)
  obtain ⟨W1, hW1, hb1, hs1, hn1, _⟩ := boxed w (insRow i).toArray 29
  have k1 : W1.heap[w.heap.size]? = some (.cells (insRow i).toArray 29 (0, 0)) := by rw [hW1]; exact heap_alloc_new w _
  have HK1 := Lib.hid k1
  have HW1 := Lib.hid hW1
  have HB1 := Lib.hid hb1
  have HN1 := Lib.hid hn1
  have m1 : w.heap.size < W1.heap.size := by omega
  clear hW1 hb1 hs1 hn1 k1
  go_enter Tryz.func18, Tryz.ntmps18
  go_wp2_with (rw [← HW1.out]; refine wpList_load_row rfl 29 _ rfl w.heap.size rfl 29 (insRow i).toArray (0, 0) _ HK1.out Tryz.underlying29 rfl infoIns ?_)
  refine (HCHK.out W1).mono ?_
  rintro e w2 ⟨rfl, hb2⟩
  rw [HC.out]
  have HB2 := Lib.hid hb2
  have q0 := (hb2.cell (p := ⟨w.heap.size, 0, none⟩) m1).trans (HN1.out 0)
  simp only [insRow, List.getElem?_toArray, List.getElem?_cons_zero] at q0
  rw [HOP.out] at q0
  clear hb2
  unfold errOf
  go_wp2
  go_ret2
  exact ⟨rfl, HB1.out.trans (HB2.out.mono (by omega))⟩
set_option maxRecDepth 100000 in
set_option maxHeartbeats 800000 in
theorem Flags_18 (i : Ins) (hop : i.op = 18) (hc : chkP i = true) (w : World) :
    Calls Tryz.prog 18 #[.agg (insRow i).toArray] w fun e w' => e = .returned (.tuple #[.int .i64 (flagsR 18 : Nat), .int .i64 (flagsW 18 : Nat)]) ∧ Below w.heap.size w w' := by
  have HC := Lib.hid hc
  have HOP := Lib.hid hop
  clear hc hop
  have HCHK := Lib.hid (fun w => rCheck_any i w)
  obtain ⟨W1, hW1, hb1, hs1, hn1, _⟩ := boxed w (insRow i).toArray 29
  have k1 : W1.heap[w.heap.size]? = some (.cells (insRow i).toArray 29 (0, 0)) := by rw [hW1]; exact heap_alloc_new w _
  have HK1 := Lib.hid k1
  have HW1 := Lib.hid hW1
  have HB1 := Lib.hid hb1
  have HN1 := Lib.hid hn1
  have m1 : w.heap.size < W1.heap.size := by omega
  clear hW1 hb1 hs1 hn1 k1
  go_enter Tryz.func18, Tryz.ntmps18
  go_wp2_with (rw [← HW1.out]; refine wpList_load_row rfl 29 _ rfl w.heap.size rfl 29 (insRow i).toArray (0, 0) _ HK1.out Tryz.underlying29 rfl infoIns ?_)
  refine (HCHK.out W1).mono ?_
  rintro e w2 ⟨rfl, hb2⟩
  rw [HC.out]
  have HB2 := Lib.hid hb2
  have q0 := (hb2.cell (p := ⟨w.heap.size, 0, none⟩) m1).trans (HN1.out 0)
  simp only [insRow, List.getElem?_toArray, List.getElem?_cons_zero] at q0
  rw [HOP.out] at q0
  clear hb2
  unfold errOf
  go_wp2
  go_ret2
  exact ⟨rfl, HB1.out.trans (HB2.out.mono (by omega))⟩
set_option maxRecDepth 100000 in
set_option maxHeartbeats 800000 in
theorem Flags_19 (i : Ins) (hop : i.op = 19) (hc : chkP i = true) (w : World) :
    Calls Tryz.prog 18 #[.agg (insRow i).toArray] w fun e w' => e = .returned (.tuple #[.int .i64 (flagsR 19 : Nat), .int .i64 (flagsW 19 : Nat)]) ∧ Below w.heap.size w w' := by
  have HC := Lib.hid hc
  have HOP := Lib.hid hop
  clear hc hop
  have HCHK := Lib.hid (fun w => rCheck_any i w)
  obtain ⟨W1, hW1, hb1, hs1, hn1, _⟩ := boxed w (insRow i).toArray 29
  have k1 : W1.heap[w.heap.size]? = some (.cells (insRow i).toArray 29 (0, 0)) := by rw [hW1]; exact heap_alloc_new w _
  have HK1 := Lib.hid k1
  have HW1 := Lib.hid hW1
  have HB1 := Lib.hid hb1
  have HN1 := Lib.hid hn1
  have m1 : w.heap.size < W1.heap.size := by omega
  clear hW1 hb1 hs1 hn1 k1
  go_enter Tryz.func18, Tryz.ntmps18
  go_wp2_with (rw [← HW1.out]; refine wpList_load_row rfl 29 _ rfl w.heap.size rfl 29 (insRow i).toArray (0, 0) _ HK1.out Tryz.underlying29 rfl infoIns ?_)
  refine (HCHK.out W1).mono ?_
  rintro e w2 ⟨rfl, hb2⟩
  rw [HC.out]
  have HB2 := Lib.hid hb2
  have q0 := (hb2.cell (p := ⟨w.heap.size, 0, none⟩) m1).trans (HN1.out 0)
  simp only [insRow, List.getElem?_toArray, List.getElem?_cons_zero] at q0
  rw [HOP.out] at q0
  clear hb2
  unfold errOf
  go_wp2
  go_ret2
  exact ⟨rfl, HB1.out.trans (HB2.out.mono (by omega))⟩
set_option maxRecDepth 100000 in
set_option maxHeartbeats 800000 in
theorem Flags_20 (i : Ins) (hop : i.op = 20) (hc : chkP i = true) (w : World) :
    Calls Tryz.prog 18 #[.agg (insRow i).toArray] w fun e w' => e = .returned (.tuple #[.int .i64 (flagsR 20 : Nat), .int .i64 (flagsW 20 : Nat)]) ∧ Below w.heap.size w w' := by
  have HC := Lib.hid hc
  have HOP := Lib.hid hop
  clear hc hop
  have HCHK := Lib.hid (fun w => rCheck_any i w)
  obtain ⟨W1, hW1, hb1, hs1, hn1, _⟩ := boxed w (insRow i).toArray 29
  have k1 : W1.heap[w.heap.size]? = some (.cells (insRow i).toArray 29 (0, 0)) := by rw [hW1]; exact heap_alloc_new w _
  have HK1 := Lib.hid k1
  have HW1 := Lib.hid hW1
  have HB1 := Lib.hid hb1
  have HN1 := Lib.hid hn1
  have m1 : w.heap.size < W1.heap.size := by omega
  clear hW1 hb1 hs1 hn1 k1
  go_enter Tryz.func18, Tryz.ntmps18
  go_wp2_with (rw [← HW1.out]; refine wpList_load_row rfl 29 _ rfl w.heap.size rfl 29 (insRow i).toArray (0, 0) _ HK1.out Tryz.underlying29 rfl infoIns ?_)
  refine (HCHK.out W1).mono ?_
  rintro e w2 ⟨rfl, hb2⟩
  rw [HC.out]
  have HB2 := Lib.hid hb2
  have q0 := (hb2.cell (p := ⟨w.heap.size, 0, none⟩) m1).trans (HN1.out 0)
  simp only [insRow, List.getElem?_toArray, List.getElem?_cons_zero] at q0
  rw [HOP.out] at q0
  clear hb2
  unfold errOf
  go_wp2
  go_ret2
  exact ⟨rfl, HB1.out.trans (HB2.out.mono (by omega))⟩
set_option maxRecDepth 100000 in
set_option maxHeartbeats 800000 in
theorem Flags_21 (i : Ins) (hop : i.op = 21) (hc : chkP i = true) (w : World) :
    Calls Tryz.prog 18 #[.agg (insRow i).toArray] w fun e w' => e = .returned (.tuple #[.int .i64 (flagsR 21 : Nat), .int .i64 (flagsW 21 : Nat)]) ∧ Below w.heap.size w w' := by
  have HC := Lib.hid hc
  have HOP := Lib.hid hop
  clear hc hop
  have HCHK := Lib.hid (fun w => rCheck_any i w)
  obtain ⟨W1, hW1, hb1, hs1, hn1, _⟩ := boxed w (insRow i).toArray 29
  have k1 : W1.heap[w.heap.size]? = some (.cells (insRow i).toArray 29 (0, 0)) := by rw [hW1]; exact heap_alloc_new w _
  have HK1 := Lib.hid k1
  have HW1 := Lib.hid hW1
  have HB1 := Lib.hid hb1
  have HN1 := Lib.hid hn1
  have m1 : w.heap.size < W1.heap.size := by omega
  clear hW1 hb1 hs1 hn1 k1
  go_enter Tryz.func18, Tryz.ntmps18
  go_wp2_with (rw [← HW1.out]; refine wpList_load_row rfl 29 _ rfl w.heap.size rfl 29 (insRow i).toArray (0, 0) _ HK1.out Tryz.underlying29 rfl infoIns ?_)
  refine (HCHK.out W1).mono ?_
  rintro e w2 ⟨rfl, hb2⟩
  rw [HC.out]
  have HB2 := Lib.hid hb2
  have q0 := (hb2.cell (p := ⟨w.heap.size, 0, none⟩) m1).trans (HN1.out 0)
  simp only [insRow, List.getElem?_toArray, List.getElem?_cons_zero] at q0
  rw [HOP.out] at q0
  clear hb2
  unfold errOf
  go_wp2
  go_ret2
  exact ⟨rfl, HB1.out.trans (HB2.out.mono (by omega))⟩
set_option maxRecDepth 100000 in
set_option maxHeartbeats 800000 in
theorem Flags_22 (i : Ins) (hop : i.op = 22) (hc : chkP i = true) (w : World) :
    Calls Tryz.prog 18 #[.agg (insRow i).toArray] w fun e w' => e = .returned (.tuple #[.int .i64 (flagsR 22 : Nat), .int .i64 (flagsW 22 : Nat)]) ∧ Below w.heap.size w w' := by
  have HC := Lib.hid hc
  have HOP := Lib.hid hop
  clear hc hop
  have HCHK := Lib.hid (fun w => rCheck_any i w)
  obtain ⟨W1, hW1, hb1, hs1, hn1, _⟩ := boxed w (insRow i).toArray 29
  have k1 : W1.heap[w.heap.size]? = some (.cells (insRow i).toArray 29 (0, 0)) := by rw [hW1]; exact heap_alloc_new w _
  have HK1 := Lib.hid k1
  have HW1 := Lib.hid hW1
  have HB1 := Lib.hid hb1
  have HN1 := Lib.hid hn1
  have m1 : w.heap.size < W1.heap.size := by omega
  clear hW1 hb1 hs1 hn1 k1
  go_enter Tryz.func18, Tryz.ntmps18
  go_wp2_with (rw [← HW1.out]; refine wpList_load_row rfl 29 _ rfl w.heap.size rfl 29 (insRow i).toArray (0, 0) _ HK1.out Tryz.underlying29 rfl infoIns ?_)
  refine (HCHK.out W1).mono ?_
  rintro e w2 ⟨rfl, hb2⟩
  rw [HC.out]
  have HB2 := Lib.hid hb2
  have q0 := (hb2.cell (p := ⟨w.heap.size, 0, none⟩) m1).trans (HN1.out 0)
  simp only [insRow, List.getElem?_toArray, List.getElem?_cons_zero] at q0
  rw [HOP.out] at q0
  clear hb2
  unfold errOf
  go_wp2
  go_ret2
  exact ⟨rfl, HB1.out.trans (HB2.out.mono (by omega))⟩
set_option maxRecDepth 100000 in
set_option maxHeartbeats 800000 in
theorem Flags_23 (i : Ins) (hop : i.op = 23) (hc : chkP i = true) (w : World) :
    Calls Tryz.prog 18 #[.agg (insRow i).toArray] w fun e w' => e = .returned (.tuple #[.int .i64 (flagsR 23 : Nat), .int .i64 (flagsW 23 : Nat)]) ∧ Below w.heap.size w w' := by
  have HC := Lib.hid hc
  have HOP := Lib.hid hop
  clear hc hop
  have HCHK := Lib.hid (fun w => rCheck_any i w)
  obtain ⟨W1, hW1, hb1, hs1, hn1, _⟩ := boxed w (insRow i).toArray 29
  have k1 : W1.heap[w.heap.size]? = some (.cells (insRow i).toArray 29 (0, 0)) := by rw [hW1]; exact heap_alloc_new w _
  have HK1 := Lib.hid k1
  have HW1 := Lib.hid hW1
  have HB1 := Lib.hid hb1
  have HN1 := Lib.hid hn1
  have m1 : w.heap.size < W1.heap.size := by omega
  clear hW1 hb1 hs1 hn1 k1
  go_enter Tryz.func18, Tryz.ntmps18
  go_wp2_with (rw [← HW1.out]; refine wpList_load_row rfl 29 _ rfl w.heap.size rfl 29 (insRow i).toArray (0, 0) _ HK1.out Tryz.underlying29 rfl infoIns ?_)
  refine (HCHK.out W1).mono ?_
  rintro e w2 ⟨rfl, hb2⟩
  rw [HC.out]
  have HB2 := Lib.hid hb2
  have q0 := (hb2.cell (p := ⟨w.heap.size, 0, none⟩) m1).trans (HN1.out 0)
  simp only [insRow, List.getElem?_toArray, List.getElem?_cons_zero] at q0
  rw [HOP.out] at q0
  clear hb2
  unfold errOf
  go_wp2
  go_ret2
  exact ⟨rfl, HB1.out.trans (HB2.out.mono (by omega))⟩
set_option maxRecDepth 100000 in
set_option maxHeartbeats 800000 in
theorem Flags_24 (i : Ins) (hop : i.op = 24) (hc : chkP i = true) (w : World) :
    Calls Tryz.prog 18 #[.agg (insRow i).toArray] w fun e w' => e = .returned (.tuple #[.int .i64 (flagsR 24 : Nat), .int .i64 (flagsW 24 : Nat)]) ∧ Below w.heap.size w w' := by
  have HC := Lib.hid hc
  have HOP := Lib.hid hop
  clear hc hop
  have HCHK := Lib.hid (fun w => rCheck_any i w)
  obtain ⟨W1, hW1, hb1, hs1, hn1, _⟩ := boxed w (insRow i).toArray 29
  have k1 : W1.heap[w.heap.size]? = some (.cells (insRow i).toArray 29 (0, 0)) := by rw [hW1]; exact heap_alloc_new w _
  have HK1 := Lib.hid k1
  have HW1 := Lib.hid hW1
  have HB1 := Lib.hid hb1
  have HN1 := Lib.hid hn1
  have m1 : w.heap.size < W1.heap.size := by omega
  clear hW1 hb1 hs1 hn1 k1
  go_enter Tryz.func18, Tryz.ntmps18
  go_wp2_with (rw [← HW1.out]; refine wpList_load_row rfl 29 _ rfl w.heap.size rfl 29 (insRow i).toArray (0, 0) _ HK1.out Tryz.underlying29 rfl infoIns ?_)
  refine (HCHK.out W1).mono ?_
  rintro e w2 ⟨rfl, hb2⟩
  rw [HC.out]
  have HB2 := Lib.hid hb2
  have q0 := (hb2.cell (p := ⟨w.heap.size, 0, none⟩) m1).trans (HN1.out 0)
  simp only [insRow, List.getElem?_toArray, List.getElem?_cons_zero] at q0
  rw [HOP.out] at q0
  clear hb2
  unfold errOf
  go_wp2
  go_ret2
  exact ⟨rfl, HB1.out.trans (HB2.out.mono (by omega))⟩
set_option maxRecDepth 100000 in
set_option maxHeartbeats 800000 in
theorem Flags_25 (i : Ins) (hop : i.op = 25) (hc : chkP i = true) (w : World) :
    Calls Tryz.prog 18 #[.agg (insRow i).toArray] w fun e w' => e = .returned (.tuple #[.int .i64 (flagsR 25 : Nat), .int .i64 (flagsW 25 : Nat)]) ∧ Below w.heap.size w w' := by
  have HC := Lib.hid hc
  have HOP := Lib.hid hop
  clear hc hop
  have HCHK := Lib.hid (fun w => rCheck_any i w)
  obtain ⟨W1, hW1, hb1, hs1, hn1, _⟩ := boxed w (insRow i).toArray 29
  have k1 : W1.heap[w.heap.size]? = some (.cells (insRow i).toArray 29 (0, 0)) := by rw [hW1]; exact heap_alloc_new w _
  have HK1 := Lib.hid k1
  have HW1 := Lib.hid hW1
  have HB1 := Lib.hid hb1
  have HN1 := Lib.hid hn1
  have m1 : w.heap.size < W1.heap.size := by omega
  clear hW1 hb1 hs1 hn1 k1
  go_enter Tryz.func18, Tryz.ntmps18
  go_wp2_with (rw [← HW1.out]; refine wpList_load_row rfl 29 _ rfl w.heap.size rfl 29 (insRow i).toArray (0, 0) _ HK1.out Tryz.underlying29 rfl infoIns ?_)
  refine (HCHK.out W1).mono ?_
  rintro e w2 ⟨rfl, hb2⟩
  rw [HC.out]
  have HB2 := Lib.hid hb2
  have q0 := (hb2.cell (p := ⟨w.heap.size, 0, none⟩) m1).trans (HN1.out 0)
  simp only [insRow, List.getElem?_toArray, List.getElem?_cons_zero] at q0
  rw [HOP.out] at q0
  clear hb2
  unfold errOf
  go_wp2
  go_ret2
  exact ⟨rfl, HB1.out.trans (HB2.out.mono (by omega))⟩
set_option maxRecDepth 100000 in
set_option maxHeartbeats 800000 in
theorem Flags_26 (i : Ins) (hop : i.op = 26) (hc : chkP i = true) (w : World) :
    Calls Tryz.prog 18 #[.agg (insRow i).toArray] w fun e w' => e = .returned (.tuple #[.int .i64 (flagsR 26 : Nat), .int .i64 (flagsW 26 : Nat)]) ∧ Below w.heap.size w w' := by
  have HC := Lib.hid hc
  have HOP := Lib.hid hop
  clear hc hop
  have HCHK := Lib.hid (fun w => rCheck_any i w)
  obtain ⟨W1, hW1, hb1, hs1, hn1, _⟩ := boxed w (insRow i).toArray 29
  have k1 : W1.heap[w.heap.size]? = some (.cells (insRow i).toArray 29 (0, 0)) := by rw [hW1]; exact heap_alloc_new w _
  have HK1 := Lib.hid k1
  have HW1 := Lib.hid hW1
  have HB1 := Lib.hid hb1
  have HN1 := Lib.hid hn1
  have m1 : w.heap.size < W1.heap.size := by omega
  clear hW1 hb1 hs1 hn1 k1
  go_enter Tryz.func18, Tryz.ntmps18
  go_wp2_with (rw [← HW1.out]; refine wpList_load_row rfl 29 _ rfl w.heap.size rfl 29 (insRow i).toArray (0, 0) _ HK1.out Tryz.underlying29 rfl infoIns ?_)
  refine (HCHK.out W1).mono ?_
  rintro e w2 ⟨rfl, hb2⟩
  rw [HC.out]
  have HB2 := Lib.hid hb2
  have q0 := (hb2.cell (p := ⟨w.heap.size, 0, none⟩) m1).trans (HN1.out 0)
  simp only [insRow, List.getElem?_toArray, List.getElem?_cons_zero] at q0
  rw [HOP.out] at q0
  clear hb2
  unfold errOf
  go_wp2
  go_ret2
  exact ⟨rfl, HB1.out.trans (HB2.out.mono (by omega))⟩
set_option maxRecDepth 100000 in
set_option maxHeartbeats 800000 in
theorem Flags_27 (i : Ins) (hop : i.op = 27) (hc : chkP i = true) (w : World) :
    Calls Tryz.prog 18 #[.agg (insRow i).toArray] w fun e w' => e = .returned (.tuple #[.int .i64 (flagsR 27 : Nat), .int .i64 (flagsW 27 : Nat)]) ∧ Below w.heap.size w w' := by
  have HC := Lib.hid hc
  have HOP := Lib.hid hop
  clear hc hop
  have HCHK := Lib.hid (fun w => rCheck_any i w)
  obtain ⟨W1, hW1, hb1, hs1, hn1, _⟩ := boxed w (insRow i).toArray 29
  have k1 : W1.heap[w.heap.size]? = some (.cells (insRow i).toArray 29 (0, 0)) := by rw [hW1]; exact heap_alloc_new w _
  have HK1 := Lib.hid k1
  have HW1 := Lib.hid hW1
  have HB1 := Lib.hid hb1
  have HN1 := Lib.hid hn1
  have m1 : w.heap.size < W1.heap.size := by omega
  clear hW1 hb1 hs1 hn1 k1
  go_enter Tryz.func18, Tryz.ntmps18
  go_wp2_with (rw [← HW1.out]; refine wpList_load_row rfl 29 _ rfl w.heap.size rfl 29 (insRow i).toArray (0, 0) _ HK1.out Tryz.underlying29 rfl infoIns ?_)
  refine (HCHK.out W1).mono ?_
  rintro e w2 ⟨rfl, hb2⟩
  rw [HC.out]
  have HB2 := Lib.hid hb2
  have q0 := (hb2.cell (p := ⟨w.heap.size, 0, none⟩) m1).trans (HN1.out 0)
  simp only [insRow, List.getElem?_toArray, List.getElem?_cons_zero] at q0
  rw [HOP.out] at q0
  clear hb2
  unfold errOf
  go_wp2
  go_ret2
  exact ⟨rfl, HB1.out.trans (HB2.out.mono (by omega))⟩
set_option maxRecDepth 100000 in
set_option maxHeartbeats 800000 in
theorem Flags_28 (i : Ins) (hop : i.op = 28) (hc : chkP i = true) (w : World) :
    Calls Tryz.prog 18 #[.agg (insRow i).toArray] w fun e w' => e = .returned (.tuple #[.int .i64 (flagsR 28 : Nat), .int .i64 (flagsW 28 : Nat)]) ∧ Below w.heap.size w w' := by
  have HC := Lib.hid hc
  have HOP := Lib.hid hop
  clear hc hop
  have HCHK := Lib.hid (fun w => rCheck_any i w)
  obtain ⟨W1, hW1, hb1, hs1, hn1, _⟩ := boxed w (insRow i).toArray 29
  have k1 : W1.heap[w.heap.size]? = some (.cells (insRow i).toArray 29 (0, 0)) := by rw [hW1]; exact heap_alloc_new w _
  have HK1 := Lib.hid k1
  have HW1 := Lib.hid hW1
  have HB1 := Lib.hid hb1
  have HN1 := Lib.hid hn1
  have m1 : w.heap.size < W1.heap.size := by omega
  clear hW1 hb1 hs1 hn1 k1
  go_enter Tryz.func18, Tryz.ntmps18
  go_wp2_with (rw [← HW1.out]; refine wpList_load_row rfl 29 _ rfl w.heap.size rfl 29 (insRow i).toArray (0, 0) _ HK1.out Tryz.underlying29 rfl infoIns ?_)
  refine (HCHK.out W1).mono ?_
  rintro e w2 ⟨rfl, hb2⟩
  rw [HC.out]
  have HB2 := Lib.hid hb2
  have q0 := (hb2.cell (p := ⟨w.heap.size, 0, none⟩) m1).trans (HN1.out 0)
  simp only [insRow, List.getElem?_toArray, List.getElem?_cons_zero] at q0
  rw [HOP.out] at q0
  clear hb2
  unfold errOf
  go_wp2
  go_ret2
  exact ⟨rfl, HB1.out.trans (HB2.out.mono (by omega))⟩
set_option maxRecDepth 100000 in
set_option maxHeartbeats 800000 in
theorem Flags_29 (i : Ins) (hop : i.op = 29) (hc : chkP i = true) (w : World) :
    Calls Tryz.prog 18 #[.agg (insRow i).toArray] w fun e w' => e = .returned (.tuple #[.int .i64 (flagsR 29 : Nat), .int .i64 (flagsW 29 : Nat)]) ∧ Below w.heap.size w w' := by
  have HC := Lib.hid hc
  have HOP := Lib.hid hop
  clear hc hop
  have HCHK := Lib.hid (fun w => rCheck_any i w)
  obtain ⟨W1, hW1, hb1, hs1, hn1, _⟩ := boxed w (insRow i).toArray 29
  have k1 : W1.heap[w.heap.size]? = some (.cells (insRow i).toArray 29 (0, 0)) := by rw [hW1]; exact heap_alloc_new w _
  have HK1 := Lib.hid k1
  have HW1 := Lib.hid hW1
  have HB1 := Lib.hid hb1
  have HN1 := Lib.hid hn1
  have m1 : w.heap.size < W1.heap.size := by omega
  clear hW1 hb1 hs1 hn1 k1
  go_enter Tryz.func18, Tryz.ntmps18
  go_wp2_with (rw [← HW1.out]; refine wpList_load_row rfl 29 _ rfl w.heap.size rfl 29 (insRow i).toArray (0, 0) _ HK1.out Tryz.underlying29 rfl infoIns ?_)
  refine (HCHK.out W1).mono ?_
  rintro e w2 ⟨rfl, hb2⟩
  rw [HC.out]
  have HB2 := Lib.hid hb2
  have q0 := (hb2.cell (p := ⟨w.heap.size, 0, none⟩) m1).trans (HN1.out 0)
  simp only [insRow, List.getElem?_toArray, List.getElem?_cons_zero] at q0
  rw [HOP.out] at q0
  clear hb2
  unfold errOf
  go_wp2
  go_ret2
  exact ⟨rfl, HB1.out.trans (HB2.out.mono (by omega))⟩
set_option maxRecDepth 100000 in
set_option maxHeartbeats 800000 in
theorem Flags_30 (i : Ins) (hop : i.op = 30) (hc : chkP i = true) (w : World) :
    Calls Tryz.prog 18 #[.agg (insRow i).toArray] w fun e w' => e = .returned (.tuple #[.int .i64 (flagsR 30 : Nat), .int .i64 (flagsW 30 : Nat)]) ∧ Below w.heap.size w w' := by
  have HC := Lib.hid hc
  have HOP := Lib.hid hop
  clear hc hop
  have HCHK := Lib.hid (fun w => rCheck_any i w)
  obtain ⟨W1, hW1, hb1, hs1, hn1, _⟩ := boxed w (insRow i).toArray 29
  have k1 : W1.heap[w.heap.size]? = some (.cells (insRow i).toArray 29 (0, 0)) := by rw [hW1]; exact heap_alloc_new w _
  have HK1 := Lib.hid k1
  have HW1 := Lib.hid hW1
  have HB1 := Lib.hid hb1
  have HN1 := Lib.hid hn1
  have m1 : w.heap.size < W1.heap.size := by omega
  clear hW1 hb1 hs1 hn1 k1
  go_enter Tryz.func18, Tryz.ntmps18
  go_wp2_with (rw [← HW1.out]; refine wpList_load_row rfl 29 _ rfl w.heap.size rfl 29 (insRow i).toArray (0, 0) _ HK1.out Tryz.underlying29 rfl infoIns ?_)
  refine (HCHK.out W1).mono ?_
  rintro e w2 ⟨rfl, hb2⟩
  rw [HC.out]
  have HB2 := Lib.hid hb2
  have q0 := (hb2.cell (p := ⟨w.heap.size, 0, none⟩) m1).trans (HN1.out 0)
  simp only [insRow, List.getElem?_toArray, List.getElem?_cons_zero] at q0
  rw [HOP.out] at q0
  clear hb2
  unfold errOf
  go_wp2
  go_ret2
  exact ⟨rfl, HB1.out.trans (HB2.out.mono (by omega))⟩
set_option maxRecDepth 100000 in
set_option maxHeartbeats 800000 in
theorem Flags_31 (i : Ins) (hop : i.op = 31) (hc : chkP i = true) (w : World) :
    Calls Tryz.prog 18 #[.agg (insRow i).toArray] w fun e w' => e = .returned (.tuple #[.int .i64 (flagsR 31 : Nat), .int .i64 (flagsW 31 : Nat)]) ∧ Below w.heap.size w w' := by
  have HC := Lib.hid hc
  have HOP := Lib.hid hop
  clear hc hop
  have HCHK := Lib.hid (fun w => rCheck_any i w)
  obtain ⟨W1, hW1, hb1, hs1, hn1, _⟩ := boxed w (insRow i).toArray 29
  have k1 : W1.heap[w.heap.size]? = some (.cells (insRow i).toArray 29 (0, 0)) := by rw [hW1]; exact heap_alloc_new w _
  have HK1 := Lib.hid k1
  have HW1 := Lib.hid hW1
  have HB1 := Lib.hid hb1
  have HN1 := Lib.hid hn1
  have m1 : w.heap.size < W1.heap.size := by omega
  clear hW1 hb1 hs1 hn1 k1
  go_enter Tryz.func18, Tryz.ntmps18
  go_wp2_with (rw [← HW1.out]; refine wpList_load_row rfl 29 _ rfl w.heap.size rfl 29 (insRow i).toArray (0, 0) _ HK1.out Tryz.underlying29 rfl infoIns ?_)
  refine (HCHK.out W1).mono ?_
  rintro e w2 ⟨rfl, hb2⟩
  rw [HC.out]
  have HB2 := Lib.hid hb2
  have q0 := (hb2.cell (p := ⟨w.heap.size, 0, none⟩) m1).trans (HN1.out 0)
  simp only [insRow, List.getElem?_toArray, List.getElem?_cons_zero] at q0
  rw [HOP.out] at q0
  clear hb2
  unfold errOf
  go_wp2
  go_ret2
  exact ⟨rfl, HB1.out.trans (HB2.out.mono (by omega))⟩
set_option maxRecDepth 100000 in
set_option maxHeartbeats 800000 in
theorem Flags_32 (i : Ins) (hop : i.op = 32) (hc : chkP i = true) (w : World) :
    Calls Tryz.prog 18 #[.agg (insRow i).toArray] w fun e w' => e = .returned (.tuple #[.int .i64 (flagsR 32 : Nat), .int .i64 (flagsW 32 : Nat)]) ∧ Below w.heap.size w w' := by
  have HC := Lib.hid hc
  have HOP := Lib.hid hop
  clear hc hop
  have HCHK := Lib.hid (fun w => rCheck_any i w)
  obtain ⟨W1, hW1, hb1, hs1, hn1, _⟩ := boxed w (insRow i).toArray 29
  have k1 : W1.heap[w.heap.size]? = some (.cells (insRow i).toArray 29 (0, 0)) := by rw [hW1]; exact heap_alloc_new w _
  have HK1 := Lib.hid k1
  have HW1 := Lib.hid hW1
  have HB1 := Lib.hid hb1
  have HN1 := Lib.hid hn1
  have m1 : w.heap.size < W1.heap.size := by omega
  clear hW1 hb1 hs1 hn1 k1
  go_enter Tryz.func18, Tryz.ntmps18
  go_wp2_with (rw [← HW1.out]; refine wpList_load_row rfl 29 _ rfl w.heap.size rfl 29 (insRow i).toArray (0, 0) _ HK1.out Tryz.underlying29 rfl infoIns ?_)
  refine (HCHK.out W1).mono ?_
  rintro e w2 ⟨rfl, hb2⟩
  rw [HC.out]
  have HB2 := Lib.hid hb2
  have q0 := (hb2.cell (p := ⟨w.heap.size, 0, none⟩) m1).trans (HN1.out 0)
  simp only [insRow, List.getElem?_toArray, List.getElem?_cons_zero] at q0
  rw [HOP.out] at q0
  clear hb2
  unfold errOf
  go_wp2
  go_ret2
  exact ⟨rfl, HB1.out.trans (HB2.out.mono (by omega))⟩
set_option maxRecDepth 100000 in
set_option maxHeartbeats 800000 in
theorem Flags_33 (i : Ins) (hop : i.op = 33) (hc : chkP i = true) (w : World) :
    Calls Tryz.prog 18 #[.agg (insRow i).toArray] w fun e w' => e = .returned (.tuple #[.int .i64 (flagsR 33 : Nat), .int .i64 (flagsW 33 : Nat)]) ∧ Below w.heap.size w w' := by
  have HC := Lib.hid hc
  have HOP := Lib.hid hop
  clear hc hop
  have HCHK := Lib.hid (fun w => rCheck_any i w)
  obtain ⟨W1, hW1, hb1, hs1, hn1, _⟩ := boxed w (insRow i).toArray 29
  have k1 : W1.heap[w.heap.size]? = some (.cells (insRow i).toArray 29 (0, 0)) := by rw [hW1]; exact heap_alloc_new w _
  have HK1 := Lib.hid k1
  have HW1 := Lib.hid hW1
  have HB1 := Lib.hid hb1
  have HN1 := Lib.hid hn1
  have m1 : w.heap.size < W1.heap.size := by omega
  clear hW1 hb1 hs1 hn1 k1
  go_enter Tryz.func18, Tryz.ntmps18
  go_wp2_with (rw [← HW1.out]; refine wpList_load_row rfl 29 _ rfl w.heap.size rfl 29 (insRow i).toArray (0, 0) _ HK1.out Tryz.underlying29 rfl infoIns ?_)
  refine (HCHK.out W1).mono ?_
  rintro e w2 ⟨rfl, hb2⟩
  rw [HC.out]
  have HB2 := Lib.hid hb2
  have q0 := (hb2.cell (p := ⟨w.heap.size, 0, none⟩) m1).trans (HN1.out 0)
  simp only [insRow, List.getElem?_toArray, List.getElem?_cons_zero] at q0
  rw [HOP.out] at q0
  clear hb2
  unfold errOf
  go_wp2
  go_ret2
  exact ⟨rfl, HB1.out.trans (HB2.out.mono (by omega))⟩
theorem Flags_any (i : Ins) (w : World) :
    Calls Tryz.prog 18 #[.agg (insRow i).toArray] w fun e w' => e = .returned (.tuple #[.int .i64 ((if chkP i then flagsR i.op else 0 : Nat)), .int .i64 ((if chkP i then flagsW i.op else 0 : Nat))]) ∧ Below w.heap.size w w' := by
  cases hc : chkP i with
  | false => exact Flags_none i hc w
  | true =>
    simp only [if_true]
    rcases (by have := chk_range hc; omega : i.op = 1 ∨ i.op = 2 ∨ i.op = 3 ∨ i.op = 4 ∨ i.op = 5 ∨ i.op = 6 ∨ i.op = 7 ∨ i.op = 8 ∨ i.op = 9 ∨ i.op = 10 ∨ i.op = 11 ∨ i.op = 12 ∨ i.op = 13 ∨ i.op = 14 ∨ i.op = 15 ∨ i.op = 16 ∨ i.op = 17 ∨ i.op = 18 ∨ i.op = 19 ∨ i.op = 20 ∨ i.op = 21 ∨ i.op = 22 ∨ i.op = 23 ∨ i.op = 24 ∨ i.op = 25 ∨ i.op = 26 ∨ i.op = 27 ∨ i.op = 28 ∨ i.op = 29 ∨ i.op = 30 ∨ i.op = 31 ∨ i.op = 32 ∨ i.op = 33) with h | h | h | h | h | h | h | h | h | h | h | h | h | h | h | h | h | h | h | h | h | h | h | h | h | h | h | h | h | h | h | h | h
    · rw [h]; exact Flags_1 i h hc w
    · rw [h]; exact Flags_2 i h hc w
    · rw [h]; exact Flags_3 i h hc w
    · rw [h]; exact Flags_4 i h hc w
    · rw [h]; exact Flags_5 i h hc w
    · rw [h]; exact Flags_6 i h hc w
    · rw [h]; exact Flags_7 i h hc w
    · rw [h]; exact Flags_8 i h hc w
    · rw [h]; exact Flags_9 i h hc w
    · rw [h]; exact Flags_10 i h hc w
    · rw [h]; exact Flags_11 i h hc w
    · rw [h]; exact Flags_12 i h hc w
    · rw [h]; exact Flags_13 i h hc w
    · rw [h]; exact Flags_14 i h hc w
    · rw [h]; exact Flags_15 i h hc w
    · rw [h]; exact Flags_16 i h hc w
    · rw [h]; exact Flags_17 i h hc w
    · rw [h]; exact Flags_18 i h hc w
    · rw [h]; exact Flags_19 i h hc w
    · rw [h]; exact Flags_20 i h hc w
    · rw [h]; exact Flags_21 i h hc w
    · rw [h]; exact Flags_22 i h hc w
    · rw [h]; exact Flags_23 i h hc w
    · rw [h]; exact Flags_24 i h hc w
    · rw [h]; exact Flags_25 i h hc w
    · rw [h]; exact Flags_26 i h hc w
    · rw [h]; exact Flags_27 i h hc w
    · rw [h]; exact Flags_28 i h hc w
    · rw [h]; exact Flags_29 i h hc w
    · rw [h]; exact Flags_30 i h hc w
    · rw [h]; exact Flags_31 i h hc w
    · rw [h]; exact Flags_32 i h hc w
    · rw [h]; exact Flags_33 i h hc w

/-- Is it a jump? -/
def jumpR (i : Ins) : Bool := chkP i && (i.op == 30 || i.op == 31 || i.op == 32)
set_option maxRecDepth 100000 in
set_option maxHeartbeats 800000 in
theorem Jump_any (i : Ins) (w : World) :
    Calls Tryz.prog 13 #[.agg (insRow i).toArray] w fun e w' => e = .returned (.bool (jumpR i)) ∧ Below w.heap.size w w' := by
  obtain ⟨c, hc⟩ : ∃ c, chkP i = c := ⟨_, rfl⟩
  have HC := Lib.hid hc
  obtain ⟨q, hq⟩ : ∃ q, q = jumpR i := ⟨_, rfl⟩
  rw [← hq]
  unfold jumpR at hq
  rw [hc] at hq
  have HQ := Lib.hid hq
  clear hc hq
  have HCHK := Lib.hid (fun w => rCheck_any i w)
  obtain ⟨W1, hW1, hb1, hs1, hn1, _⟩ := boxed w (insRow i).toArray 29
  have k1 : W1.heap[w.heap.size]? = some (.cells (insRow i).toArray 29 (0, 0)) := by rw [hW1]; exact heap_alloc_new w _
  have HK1 := Lib.hid k1
  have HW1 := Lib.hid hW1
  have HB1 := Lib.hid hb1
  have HN1 := Lib.hid hn1
  have m1 : w.heap.size < W1.heap.size := by omega
  clear hW1 hb1 hs1 hn1 k1
  go_enter Tryz.func13, Tryz.ntmps13
  go_wp2_with (rw [← HW1.out]; refine wpList_load_row rfl 29 _ rfl w.heap.size rfl 29 (insRow i).toArray (0, 0) _ HK1.out Tryz.underlying29 rfl infoIns ?_)
  refine (HCHK.out W1).mono ?_
  rintro e w2 ⟨rfl, hb2⟩
  rw [HC.out]
  have HB2 := Lib.hid hb2
  have q0 := (hb2.cell (p := ⟨w.heap.size, 0, none⟩) m1).trans (HN1.out 0)
  simp only [insRow, List.getElem?_toArray, List.getElem?_cons_zero] at q0
  clear hb2
  cases c with
  | false =>
    unfold errOf
    go_wp2
    go_ret
    exact ⟨by rw [HQ.out]; rfl, HB1.out.trans (HB2.out.mono (by omega))⟩
  | true =>
    unfold errOf
    cases h1 : (i.op == 30) with
    | true =>
      have H1 := Lib.hid h1
      go_wp2
      go_ret
      exact ⟨by rw [HQ.out, H1.out]; rfl, HB1.out.trans (HB2.out.mono (by omega))⟩
    | false =>
      have H1 := Lib.hid h1
      cases h2 : (i.op == 31) with
      | true =>
        have H2 := Lib.hid h2
        go_wp2
        go_ret
        exact ⟨by rw [HQ.out, H1.out, H2.out]; rfl, HB1.out.trans (HB2.out.mono (by omega))⟩
      | false =>
        have H2 := Lib.hid h2
        cases h3 : (i.op == 32) with
        | true =>
          have H3 := Lib.hid h3
          go_wp2
          go_ret
          exact ⟨by rw [HQ.out, H1.out, H2.out, H3.out]; rfl, HB1.out.trans (HB2.out.mono (by omega))⟩
        | false =>
          have H3 := Lib.hid h3
          go_wp2
          go_ret
          exact ⟨by rw [HQ.out, H1.out, H2.out, H3.out]; rfl, HB1.out.trans (HB2.out.mono (by omega))⟩
end Go.Proofs.YtmanhikpccnfaaaGreat
