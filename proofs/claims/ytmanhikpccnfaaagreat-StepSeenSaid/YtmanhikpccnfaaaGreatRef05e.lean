/- package keysmithref05: Reads. -/
import Derived.Test.YtmanhikpccnfaaaGreatRef05d
import Derived.Outline
namespace Go.Proofs.YtmanhikpccnfaaaGreat
open Go.RowKit

set_option maxRecDepth 100000 in
set_option maxHeartbeats 800000 in
theorem Reads_none (i : Ins) (hc : chkP i = false) (w : World) :
    Calls Tryz.prog 17 #[.agg (insRow i).toArray] w fun e w' => ∃ v, e = .returned v ∧ IntsAt w' (fun k => w.heap.size ≤ k ∧ k < w'.heap.size) v [] ∧ Below w.heap.size w w' := by
  have HC := Lib.hid hc
  clear hc
  have HCHK := Lib.hid (fun w => rCheck_any i w)
  obtain ⟨W1, hW1, hb1, hs1, hn1, _⟩ := boxed w (insRow i).toArray 29
  have k1 : W1.heap[w.heap.size]? = some (.cells (insRow i).toArray 29 (0, 0)) := by rw [hW1]; exact heap_alloc_new w _
  have HK1 := Lib.hid k1
  have HW1 := Lib.hid hW1
  have HB1 := Lib.hid hb1
  have HN1 := Lib.hid hn1
  have m1 : w.heap.size < W1.heap.size := by omega
  clear hW1 hb1 hs1 hn1 k1
  go_enter Tryz.func17, Tryz.ntmps17
  go_wp2_with (rw [← HW1.out]; refine wpList_load_row rfl 29 _ rfl w.heap.size rfl 29 (insRow i).toArray (0, 0) _ HK1.out Tryz.underlying29 rfl infoIns ?_)
  refine (HCHK.out W1).mono ?_
  rintro e w2 ⟨rfl, hb2⟩
  rw [HC.out]
  have HB2 := Lib.hid hb2
  clear hb2
  unfold errOf
  go_wp2
  go_ret
  exact ⟨_, rfl, ⟨none, 0, rfl, by simp, by simp, fun h => absurd rfl h⟩, HB1.out.trans (HB2.out.mono (by omega))⟩
set_option maxRecDepth 100000 in
set_option maxHeartbeats 3200000 in
theorem Reads_1 (i : Ins) (hop : i.op = 1) (hc : chkP i = true) (w : World) :
    Calls Tryz.prog 17 #[.agg (insRow i).toArray] w fun e w' => ∃ v, e = .returned v ∧ IntsAt w' (fun k => w.heap.size ≤ k ∧ k < w'.heap.size) v (risingF (readsL [68, 83] i)) ∧ Below w.heap.size w w' := by
  obtain ⟨_, _, hd1, hs1, ht1, _⟩ := chk_parts hc
  have hpl := chk_place hc
  rw [hop] at hd1 hs1 ht1 hpl
  obtain ⟨S, hS, hSl⟩ := hasOk_yes hs1 (by rfl)
  have lS0 : (0 : Int) ≤ (S : Int) := by omega
  have lS1 : (S : Int) < 16 := by omega
  have LS := Lib.hid hSl
  have hop' := hop
  have HOP := Lib.hid hop
  have HC := Lib.hid hc
  have ES := Lib.hid hS
  clear hop hc hd1 hs1 ht1 hpl hSl
  have HCHK := Lib.hid (fun w => rCheck_any i w)
  obtain ⟨W1, hW1, hb1, hs1, hn1, _⟩ := boxed w (insRow i).toArray 29
  have k1 : W1.heap[w.heap.size]? = some (.cells (insRow i).toArray 29 (0, 0)) := by rw [hW1]; exact heap_alloc_new w _
  have HK1 := Lib.hid k1
  have HW1 := Lib.hid hW1
  have HB1 := Lib.hid hb1
  have HN1 := Lib.hid hn1
  have m1 : w.heap.size < W1.heap.size := by omega
  clear hW1 hb1 hs1 hn1 k1
  go_enter Tryz.func17, Tryz.ntmps17
  go_wp2_with (rw [← HW1.out]; refine wpList_load_row rfl 29 _ rfl w.heap.size rfl 29 (insRow i).toArray (0, 0) _ HK1.out Tryz.underlying29 rfl infoIns ?_)
  refine (HCHK.out W1).mono ?_
  rintro e w2 ⟨rfl, hb2⟩
  rw [HC.out]
  have HB2 := Lib.hid hb2
  unfold errOf
  have n0 := HN1.out 0
  have n1 := HN1.out 1
  have n2 := HN1.out 2
  have n3 := HN1.out 3
  have n4 := HN1.out 4
  have n5 := HN1.out 5
  have q0 := (hb2.cell (p := ⟨w.heap.size, 0, none⟩) m1).trans n0
  have q1 := (hb2.cell (p := ⟨w.heap.size, 1, none⟩) m1).trans n1
  have q2 := (hb2.cell (p := ⟨w.heap.size, 2, none⟩) m1).trans n2
  have q3 := (hb2.cell (p := ⟨w.heap.size, 3, none⟩) m1).trans n3
  have q4 := (hb2.cell (p := ⟨w.heap.size, 4, none⟩) m1).trans n4
  have q5 := (hb2.cell (p := ⟨w.heap.size, 5, none⟩) m1).trans n5
  clear n0 n1 n2 n3 n4 n5 hb2
  simp only [insRow, List.getElem?_toArray, List.getElem?_cons_zero, List.getElem?_cons_succ] at q0 q1 q2 q3 q4 q5
  rw [hop'] at q0
  rw [hS] at q2
  have m2 : w.heap.size < w2.heap.size := Nat.lt_of_lt_of_le m1 HB2.out.size
  obtain ⟨L0, e0⟩ : ∃ q, q = L16 := ⟨_, rfl⟩
  have E := Lib.hid e0
  have H := Lib.hid (Bools.new w w2 w.heap.size i E.out (HB1.out.trans (HB2.out.mono HB1.out.size)) ((HB2.out.block _ m1).trans HK1.out) m2)
  clear e0
  clear hop' hS
  go_upto_region 5 with (((with_reducible refine (Form_1 _).mono ?_); rintro e w3 ⟨rfl, rfl⟩))
  go_wp2_with (first | ((with_reducible refine (Has_lit ⟨#[68, 83]⟩ 83 83 rfl true _ (by decide) rfl).mono ?_); rintro e w3 ⟨rfl, rfl⟩) | ((with_reducible refine (Has_lit ⟨#[68, 83]⟩ 84 84 rfl false _ (by decide) rfl).mono ?_); rintro e w3 ⟨rfl, rfl⟩) | ((with_reducible refine (Has_lit ⟨#[68, 83]⟩ 77 77 rfl false _ (by decide) rfl).mono ?_); rintro e w3 ⟨rfl, rfl⟩) | ((with_reducible refine (Has_lit ⟨#[68, 83]⟩ 68 68 rfl true _ (by decide) rfl).mono ?_); rintro e w3 ⟨rfl, rfl⟩) | ((with_reducible refine wl_id ?_); refine H.out.store S LS.out _ _ rfl rfl rfl rfl ?_; intro W L2 hL hW; have e2 := chain_step hL E.out; clear hL E q0 q1 q2 q3 q4 q5; have E := Lib.hid e2; clear e2; clear H; have H := Lib.hid hW; clear hW; obtain ⟨q0, q1, q2, q3, q4, q5⟩ := H.out.cells; rw [HOP.out] at q0; rw [ES.out] at q2) | ((with_reducible refine wl_id ?_); refine H.out.store 2 (by decide) _ _ rfl rfl rfl rfl ?_; intro W L2 hL hW; have e2 := chain_step hL E.out; clear hL E q0 q1 q2 q3 q4 q5; have E := Lib.hid e2; clear e2; clear H; have H := Lib.hid hW; clear hW; obtain ⟨q0, q1, q2, q3, q4, q5⟩ := H.out.cells; rw [HOP.out] at q0; rw [ES.out] at q2) | ((with_reducible refine wl_id ?_); refine H.out.store 4 (by decide) _ _ rfl rfl rfl rfl ?_; intro W L2 hL hW; have e2 := chain_step hL E.out; clear hL E q0 q1 q2 q3 q4 q5; have E := Lib.hid e2; clear e2; clear H; have H := Lib.hid hW; clear hW; obtain ⟨q0, q1, q2, q3, q4, q5⟩ := H.out.cells; rw [HOP.out] at q0; rw [ES.out] at q2) | ((with_reducible refine wl_id ?_); refine H.out.load _ rfl rfl rfl ?_) | (go_at_call 40; refine (rising_any _ H.out.len _).mono ?_; rintro e w4 ⟨v4, rfl, hI, hb4⟩; have HI := Lib.hid hI; have HB4 := Lib.hid (H.out.below.trans (hb4.mono H.out.below.size)); have HZ := Lib.hid H.out.below.size; clear hI hb4))
  go_ret
  refine ⟨_, rfl, ?_, HB4.out⟩
  have h9 := HI.out.mono (G := fun k => w.heap.size ≤ k ∧ k < w4.heap.size) fun k hk => ⟨Nat.le_trans HZ.out hk.1, hk.2⟩
  have e9 : readsL [68, 83] i = (L16).set S true := by simp only [readsL, HOP.out, ES.out]; rfl
  rw [e9, ← E.out]
  exact h9
set_option maxRecDepth 100000 in
set_option maxHeartbeats 3200000 in
theorem Reads_2 (i : Ins) (hop : i.op = 2) (hc : chkP i = true) (w : World) :
    Calls Tryz.prog 17 #[.agg (insRow i).toArray] w fun e w' => ∃ v, e = .returned v ∧ IntsAt w' (fun k => w.heap.size ≤ k ∧ k < w'.heap.size) v (risingF (readsL [68, 73] i)) ∧ Below w.heap.size w w' := by
  obtain ⟨_, _, hd1, hs1, ht1, _⟩ := chk_parts hc
  have hpl := chk_place hc
  rw [hop] at hd1 hs1 ht1 hpl
  have hop' := hop
  have HOP := Lib.hid hop
  have HC := Lib.hid hc
  clear hop hc hd1 hs1 ht1 hpl
  have HCHK := Lib.hid (fun w => rCheck_any i w)
  obtain ⟨W1, hW1, hb1, hs1, hn1, _⟩ := boxed w (insRow i).toArray 29
  have k1 : W1.heap[w.heap.size]? = some (.cells (insRow i).toArray 29 (0, 0)) := by rw [hW1]; exact heap_alloc_new w _
  have HK1 := Lib.hid k1
  have HW1 := Lib.hid hW1
  have HB1 := Lib.hid hb1
  have HN1 := Lib.hid hn1
  have m1 : w.heap.size < W1.heap.size := by omega
  clear hW1 hb1 hs1 hn1 k1
  go_enter Tryz.func17, Tryz.ntmps17
  go_wp2_with (rw [← HW1.out]; refine wpList_load_row rfl 29 _ rfl w.heap.size rfl 29 (insRow i).toArray (0, 0) _ HK1.out Tryz.underlying29 rfl infoIns ?_)
  refine (HCHK.out W1).mono ?_
  rintro e w2 ⟨rfl, hb2⟩
  rw [HC.out]
  have HB2 := Lib.hid hb2
  unfold errOf
  have n0 := HN1.out 0
  have n1 := HN1.out 1
  have n2 := HN1.out 2
  have n3 := HN1.out 3
  have n4 := HN1.out 4
  have n5 := HN1.out 5
  have q0 := (hb2.cell (p := ⟨w.heap.size, 0, none⟩) m1).trans n0
  have q1 := (hb2.cell (p := ⟨w.heap.size, 1, none⟩) m1).trans n1
  have q2 := (hb2.cell (p := ⟨w.heap.size, 2, none⟩) m1).trans n2
  have q3 := (hb2.cell (p := ⟨w.heap.size, 3, none⟩) m1).trans n3
  have q4 := (hb2.cell (p := ⟨w.heap.size, 4, none⟩) m1).trans n4
  have q5 := (hb2.cell (p := ⟨w.heap.size, 5, none⟩) m1).trans n5
  clear n0 n1 n2 n3 n4 n5 hb2
  simp only [insRow, List.getElem?_toArray, List.getElem?_cons_zero, List.getElem?_cons_succ] at q0 q1 q2 q3 q4 q5
  rw [hop'] at q0
  have m2 : w.heap.size < w2.heap.size := Nat.lt_of_lt_of_le m1 HB2.out.size
  obtain ⟨L0, e0⟩ : ∃ q, q = L16 := ⟨_, rfl⟩
  have E := Lib.hid e0
  have H := Lib.hid (Bools.new w w2 w.heap.size i E.out (HB1.out.trans (HB2.out.mono HB1.out.size)) ((HB2.out.block _ m1).trans HK1.out) m2)
  clear e0
  clear hop'
  go_upto_region 5 with (((with_reducible refine (Form_2 _).mono ?_); rintro e w3 ⟨rfl, rfl⟩))
  go_wp2_with (first | ((with_reducible refine (Has_lit ⟨#[68, 73]⟩ 83 83 rfl false _ (by decide) rfl).mono ?_); rintro e w3 ⟨rfl, rfl⟩) | ((with_reducible refine (Has_lit ⟨#[68, 73]⟩ 84 84 rfl false _ (by decide) rfl).mono ?_); rintro e w3 ⟨rfl, rfl⟩) | ((with_reducible refine (Has_lit ⟨#[68, 73]⟩ 77 77 rfl false _ (by decide) rfl).mono ?_); rintro e w3 ⟨rfl, rfl⟩) | ((with_reducible refine (Has_lit ⟨#[68, 73]⟩ 68 68 rfl true _ (by decide) rfl).mono ?_); rintro e w3 ⟨rfl, rfl⟩) | ((with_reducible refine wl_id ?_); refine H.out.store 2 (by decide) _ _ rfl rfl rfl rfl ?_; intro W L2 hL hW; have e2 := chain_step hL E.out; clear hL E q0 q1 q2 q3 q4 q5; have E := Lib.hid e2; clear e2; clear H; have H := Lib.hid hW; clear hW; obtain ⟨q0, q1, q2, q3, q4, q5⟩ := H.out.cells; rw [HOP.out] at q0) | ((with_reducible refine wl_id ?_); refine H.out.store 4 (by decide) _ _ rfl rfl rfl rfl ?_; intro W L2 hL hW; have e2 := chain_step hL E.out; clear hL E q0 q1 q2 q3 q4 q5; have E := Lib.hid e2; clear e2; clear H; have H := Lib.hid hW; clear hW; obtain ⟨q0, q1, q2, q3, q4, q5⟩ := H.out.cells; rw [HOP.out] at q0) | ((with_reducible refine wl_id ?_); refine H.out.load _ rfl rfl rfl ?_) | (go_at_call 40; refine (rising_any _ H.out.len _).mono ?_; rintro e w4 ⟨v4, rfl, hI, hb4⟩; have HI := Lib.hid hI; have HB4 := Lib.hid (H.out.below.trans (hb4.mono H.out.below.size)); have HZ := Lib.hid H.out.below.size; clear hI hb4))
  go_ret
  refine ⟨_, rfl, ?_, HB4.out⟩
  have h9 := HI.out.mono (G := fun k => w.heap.size ≤ k ∧ k < w4.heap.size) fun k hk => ⟨Nat.le_trans HZ.out hk.1, hk.2⟩
  have e9 : readsL [68, 73] i = L16 := by simp only [readsL, HOP.out]; rfl
  rw [e9, ← E.out]
  exact h9
set_option maxRecDepth 100000 in
set_option maxHeartbeats 3200000 in
theorem Reads_3 (i : Ins) (hop : i.op = 3) (hc : chkP i = true) (w : World) :
    Calls Tryz.prog 17 #[.agg (insRow i).toArray] w fun e w' => ∃ v, e = .returned v ∧ IntsAt w' (fun k => w.heap.size ≤ k ∧ k < w'.heap.size) v (risingF (readsL [68, 77] i)) ∧ Below w.heap.size w w' := by
  obtain ⟨_, _, hd1, hs1, ht1, _⟩ := chk_parts hc
  have hpl := chk_place hc
  rw [hop] at hd1 hs1 ht1 hpl
  obtain ⟨B, hB, hBl⟩ := place_base hpl
  have lB0 : (0 : Int) ≤ (B : Int) := by omega
  have lB1 : (B : Int) < 16 := by omega
  have LB := Lib.hid hBl
  by_cases hx : i.index = -1
  · have HX := Lib.hid hx
    have hop' := hop
    have HOP := Lib.hid hop
    have HC := Lib.hid hc
    have EB := Lib.hid hB
    clear hx hop hc hd1 hs1 ht1 hpl hBl
    have HCHK := Lib.hid (fun w => rCheck_any i w)
    obtain ⟨W1, hW1, hb1, hs1, hn1, _⟩ := boxed w (insRow i).toArray 29
    have k1 : W1.heap[w.heap.size]? = some (.cells (insRow i).toArray 29 (0, 0)) := by rw [hW1]; exact heap_alloc_new w _
    have HK1 := Lib.hid k1
    have HW1 := Lib.hid hW1
    have HB1 := Lib.hid hb1
    have HN1 := Lib.hid hn1
    have m1 : w.heap.size < W1.heap.size := by omega
    clear hW1 hb1 hs1 hn1 k1
    go_enter Tryz.func17, Tryz.ntmps17
    go_wp2_with (rw [← HW1.out]; refine wpList_load_row rfl 29 _ rfl w.heap.size rfl 29 (insRow i).toArray (0, 0) _ HK1.out Tryz.underlying29 rfl infoIns ?_)
    refine (HCHK.out W1).mono ?_
    rintro e w2 ⟨rfl, hb2⟩
    rw [HC.out]
    have HB2 := Lib.hid hb2
    unfold errOf
    have n0 := HN1.out 0
    have n1 := HN1.out 1
    have n2 := HN1.out 2
    have n3 := HN1.out 3
    have n4 := HN1.out 4
    have n5 := HN1.out 5
    have q0 := (hb2.cell (p := ⟨w.heap.size, 0, none⟩) m1).trans n0
    have q1 := (hb2.cell (p := ⟨w.heap.size, 1, none⟩) m1).trans n1
    have q2 := (hb2.cell (p := ⟨w.heap.size, 2, none⟩) m1).trans n2
    have q3 := (hb2.cell (p := ⟨w.heap.size, 3, none⟩) m1).trans n3
    have q4 := (hb2.cell (p := ⟨w.heap.size, 4, none⟩) m1).trans n4
    have q5 := (hb2.cell (p := ⟨w.heap.size, 5, none⟩) m1).trans n5
    clear n0 n1 n2 n3 n4 n5 hb2
    simp only [insRow, List.getElem?_toArray, List.getElem?_cons_zero, List.getElem?_cons_succ] at q0 q1 q2 q3 q4 q5
    rw [hop'] at q0
    rw [HX.out] at q5
    rw [hB] at q4
    have m2 : w.heap.size < w2.heap.size := Nat.lt_of_lt_of_le m1 HB2.out.size
    obtain ⟨L0, e0⟩ : ∃ q, q = L16 := ⟨_, rfl⟩
    have E := Lib.hid e0
    have H := Lib.hid (Bools.new w w2 w.heap.size i E.out (HB1.out.trans (HB2.out.mono HB1.out.size)) ((HB2.out.block _ m1).trans HK1.out) m2)
    clear e0
    clear hop' hB
    go_upto_region 5 with (((with_reducible refine (Form_3 _).mono ?_); rintro e w3 ⟨rfl, rfl⟩))
    go_wp2_with (first | ((with_reducible refine (Has_lit ⟨#[68, 77]⟩ 83 83 rfl false _ (by decide) rfl).mono ?_); rintro e w3 ⟨rfl, rfl⟩) | ((with_reducible refine (Has_lit ⟨#[68, 77]⟩ 84 84 rfl false _ (by decide) rfl).mono ?_); rintro e w3 ⟨rfl, rfl⟩) | ((with_reducible refine (Has_lit ⟨#[68, 77]⟩ 77 77 rfl true _ (by decide) rfl).mono ?_); rintro e w3 ⟨rfl, rfl⟩) | ((with_reducible refine (Has_lit ⟨#[68, 77]⟩ 68 68 rfl true _ (by decide) rfl).mono ?_); rintro e w3 ⟨rfl, rfl⟩) | ((with_reducible refine wl_id ?_); refine H.out.store B LB.out _ _ rfl rfl rfl rfl ?_; intro W L2 hL hW; have e2 := chain_step hL E.out; clear hL E q0 q1 q2 q3 q4 q5; have E := Lib.hid e2; clear e2; clear H; have H := Lib.hid hW; clear hW; obtain ⟨q0, q1, q2, q3, q4, q5⟩ := H.out.cells; rw [HOP.out] at q0; rw [HX.out] at q5; rw [EB.out] at q4) | ((with_reducible refine wl_id ?_); refine H.out.store 2 (by decide) _ _ rfl rfl rfl rfl ?_; intro W L2 hL hW; have e2 := chain_step hL E.out; clear hL E q0 q1 q2 q3 q4 q5; have E := Lib.hid e2; clear e2; clear H; have H := Lib.hid hW; clear hW; obtain ⟨q0, q1, q2, q3, q4, q5⟩ := H.out.cells; rw [HOP.out] at q0; rw [HX.out] at q5; rw [EB.out] at q4) | ((with_reducible refine wl_id ?_); refine H.out.store 4 (by decide) _ _ rfl rfl rfl rfl ?_; intro W L2 hL hW; have e2 := chain_step hL E.out; clear hL E q0 q1 q2 q3 q4 q5; have E := Lib.hid e2; clear e2; clear H; have H := Lib.hid hW; clear hW; obtain ⟨q0, q1, q2, q3, q4, q5⟩ := H.out.cells; rw [HOP.out] at q0; rw [HX.out] at q5; rw [EB.out] at q4) | ((with_reducible refine wl_id ?_); refine H.out.load _ rfl rfl rfl ?_) | (go_at_call 40; refine (rising_any _ H.out.len _).mono ?_; rintro e w4 ⟨v4, rfl, hI, hb4⟩; have HI := Lib.hid hI; have HB4 := Lib.hid (H.out.below.trans (hb4.mono H.out.below.size)); have HZ := Lib.hid H.out.below.size; clear hI hb4))
    go_ret
    refine ⟨_, rfl, ?_, HB4.out⟩
    have h9 := HI.out.mono (G := fun k => w.heap.size ≤ k ∧ k < w4.heap.size) fun k hk => ⟨Nat.le_trans HZ.out hk.1, hk.2⟩
    have e9 : readsL [68, 77] i = (L16).set B true := by simp only [readsL, HOP.out, HX.out, EB.out]; rfl
    rw [e9, ← E.out]
    exact h9
  · obtain ⟨X, hX, hXl⟩ := place_index hpl hx
    have lX0 : (0 : Int) ≤ (X : Int) := by omega
    have lX1 : (X : Int) < 16 := by omega
    have LX := Lib.hid hXl
    have nX : ((X : Int) != -1) = true := by simp
    have HNX := Lib.hid nX
    have hop' := hop
    have HOP := Lib.hid hop
    have HC := Lib.hid hc
    have EB := Lib.hid hB
    have EX := Lib.hid hX
    clear hx hop hc hd1 hs1 ht1 hpl hBl hXl
    have HCHK := Lib.hid (fun w => rCheck_any i w)
    obtain ⟨W1, hW1, hb1, hs1, hn1, _⟩ := boxed w (insRow i).toArray 29
    have k1 : W1.heap[w.heap.size]? = some (.cells (insRow i).toArray 29 (0, 0)) := by rw [hW1]; exact heap_alloc_new w _
    have HK1 := Lib.hid k1
    have HW1 := Lib.hid hW1
    have HB1 := Lib.hid hb1
    have HN1 := Lib.hid hn1
    have m1 : w.heap.size < W1.heap.size := by omega
    clear hW1 hb1 hs1 hn1 k1
    go_enter Tryz.func17, Tryz.ntmps17
    go_wp2_with (rw [← HW1.out]; refine wpList_load_row rfl 29 _ rfl w.heap.size rfl 29 (insRow i).toArray (0, 0) _ HK1.out Tryz.underlying29 rfl infoIns ?_)
    refine (HCHK.out W1).mono ?_
    rintro e w2 ⟨rfl, hb2⟩
    rw [HC.out]
    have HB2 := Lib.hid hb2
    unfold errOf
    have n0 := HN1.out 0
    have n1 := HN1.out 1
    have n2 := HN1.out 2
    have n3 := HN1.out 3
    have n4 := HN1.out 4
    have n5 := HN1.out 5
    have q0 := (hb2.cell (p := ⟨w.heap.size, 0, none⟩) m1).trans n0
    have q1 := (hb2.cell (p := ⟨w.heap.size, 1, none⟩) m1).trans n1
    have q2 := (hb2.cell (p := ⟨w.heap.size, 2, none⟩) m1).trans n2
    have q3 := (hb2.cell (p := ⟨w.heap.size, 3, none⟩) m1).trans n3
    have q4 := (hb2.cell (p := ⟨w.heap.size, 4, none⟩) m1).trans n4
    have q5 := (hb2.cell (p := ⟨w.heap.size, 5, none⟩) m1).trans n5
    clear n0 n1 n2 n3 n4 n5 hb2
    simp only [insRow, List.getElem?_toArray, List.getElem?_cons_zero, List.getElem?_cons_succ] at q0 q1 q2 q3 q4 q5
    rw [hop'] at q0
    rw [hB] at q4
    rw [hX] at q5
    have m2 : w.heap.size < w2.heap.size := Nat.lt_of_lt_of_le m1 HB2.out.size
    obtain ⟨L0, e0⟩ : ∃ q, q = L16 := ⟨_, rfl⟩
    have E := Lib.hid e0
    have H := Lib.hid (Bools.new w w2 w.heap.size i E.out (HB1.out.trans (HB2.out.mono HB1.out.size)) ((HB2.out.block _ m1).trans HK1.out) m2)
    clear e0
    clear hop' hB hX
    go_upto_region 5 with (((with_reducible refine (Form_3 _).mono ?_); rintro e w3 ⟨rfl, rfl⟩))
    go_wp2_with (first | ((with_reducible refine (Has_lit ⟨#[68, 77]⟩ 83 83 rfl false _ (by decide) rfl).mono ?_); rintro e w3 ⟨rfl, rfl⟩) | ((with_reducible refine (Has_lit ⟨#[68, 77]⟩ 84 84 rfl false _ (by decide) rfl).mono ?_); rintro e w3 ⟨rfl, rfl⟩) | ((with_reducible refine (Has_lit ⟨#[68, 77]⟩ 77 77 rfl true _ (by decide) rfl).mono ?_); rintro e w3 ⟨rfl, rfl⟩) | ((with_reducible refine (Has_lit ⟨#[68, 77]⟩ 68 68 rfl true _ (by decide) rfl).mono ?_); rintro e w3 ⟨rfl, rfl⟩) | ((with_reducible refine wl_id ?_); refine H.out.store B LB.out _ _ rfl rfl rfl rfl ?_; intro W L2 hL hW; have e2 := chain_step hL E.out; clear hL E q0 q1 q2 q3 q4 q5; have E := Lib.hid e2; clear e2; clear H; have H := Lib.hid hW; clear hW; obtain ⟨q0, q1, q2, q3, q4, q5⟩ := H.out.cells; rw [HOP.out] at q0; rw [EB.out] at q4; rw [EX.out] at q5) | ((with_reducible refine wl_id ?_); refine H.out.store X LX.out _ _ rfl rfl rfl rfl ?_; intro W L2 hL hW; have e2 := chain_step hL E.out; clear hL E q0 q1 q2 q3 q4 q5; have E := Lib.hid e2; clear e2; clear H; have H := Lib.hid hW; clear hW; obtain ⟨q0, q1, q2, q3, q4, q5⟩ := H.out.cells; rw [HOP.out] at q0; rw [EB.out] at q4; rw [EX.out] at q5) | ((with_reducible refine wl_id ?_); refine H.out.store 2 (by decide) _ _ rfl rfl rfl rfl ?_; intro W L2 hL hW; have e2 := chain_step hL E.out; clear hL E q0 q1 q2 q3 q4 q5; have E := Lib.hid e2; clear e2; clear H; have H := Lib.hid hW; clear hW; obtain ⟨q0, q1, q2, q3, q4, q5⟩ := H.out.cells; rw [HOP.out] at q0; rw [EB.out] at q4; rw [EX.out] at q5) | ((with_reducible refine wl_id ?_); refine H.out.store 4 (by decide) _ _ rfl rfl rfl rfl ?_; intro W L2 hL hW; have e2 := chain_step hL E.out; clear hL E q0 q1 q2 q3 q4 q5; have E := Lib.hid e2; clear e2; clear H; have H := Lib.hid hW; clear hW; obtain ⟨q0, q1, q2, q3, q4, q5⟩ := H.out.cells; rw [HOP.out] at q0; rw [EB.out] at q4; rw [EX.out] at q5) | ((with_reducible refine wl_id ?_); refine H.out.load _ rfl rfl rfl ?_) | (go_at_call 40; refine (rising_any _ H.out.len _).mono ?_; rintro e w4 ⟨v4, rfl, hI, hb4⟩; have HI := Lib.hid hI; have HB4 := Lib.hid (H.out.below.trans (hb4.mono H.out.below.size)); have HZ := Lib.hid H.out.below.size; clear hI hb4))
    go_ret
    refine ⟨_, rfl, ?_, HB4.out⟩
    have h9 := HI.out.mono (G := fun k => w.heap.size ≤ k ∧ k < w4.heap.size) fun k hk => ⟨Nat.le_trans HZ.out hk.1, hk.2⟩
    have e9 : readsL [68, 77] i = ((L16).set B true).set X true := by simp only [readsL, HOP.out, EB.out, EX.out, HNX.out]; rfl
    rw [e9, ← E.out]
    exact h9
set_option maxRecDepth 100000 in
set_option maxHeartbeats 3200000 in
theorem Reads_4 (i : Ins) (hop : i.op = 4) (hc : chkP i = true) (w : World) :
    Calls Tryz.prog 17 #[.agg (insRow i).toArray] w fun e w' => ∃ v, e = .returned v ∧ IntsAt w' (fun k => w.heap.size ≤ k ∧ k < w'.heap.size) v (risingF (readsL [83, 77] i)) ∧ Below w.heap.size w w' := by
  obtain ⟨_, _, hd1, hs1, ht1, _⟩ := chk_parts hc
  have hpl := chk_place hc
  rw [hop] at hd1 hs1 ht1 hpl
  obtain ⟨S, hS, hSl⟩ := hasOk_yes hs1 (by rfl)
  obtain ⟨B, hB, hBl⟩ := place_base hpl
  have lS0 : (0 : Int) ≤ (S : Int) := by omega
  have lS1 : (S : Int) < 16 := by omega
  have LS := Lib.hid hSl
  have lB0 : (0 : Int) ≤ (B : Int) := by omega
  have lB1 : (B : Int) < 16 := by omega
  have LB := Lib.hid hBl
  by_cases hx : i.index = -1
  · have HX := Lib.hid hx
    have hop' := hop
    have HOP := Lib.hid hop
    have HC := Lib.hid hc
    have ES := Lib.hid hS
    have EB := Lib.hid hB
    clear hx hop hc hd1 hs1 ht1 hpl hSl hBl
    have HCHK := Lib.hid (fun w => rCheck_any i w)
    obtain ⟨W1, hW1, hb1, hs1, hn1, _⟩ := boxed w (insRow i).toArray 29
    have k1 : W1.heap[w.heap.size]? = some (.cells (insRow i).toArray 29 (0, 0)) := by rw [hW1]; exact heap_alloc_new w _
    have HK1 := Lib.hid k1
    have HW1 := Lib.hid hW1
    have HB1 := Lib.hid hb1
    have HN1 := Lib.hid hn1
    have m1 : w.heap.size < W1.heap.size := by omega
    clear hW1 hb1 hs1 hn1 k1
    go_enter Tryz.func17, Tryz.ntmps17
    go_wp2_with (rw [← HW1.out]; refine wpList_load_row rfl 29 _ rfl w.heap.size rfl 29 (insRow i).toArray (0, 0) _ HK1.out Tryz.underlying29 rfl infoIns ?_)
    refine (HCHK.out W1).mono ?_
    rintro e w2 ⟨rfl, hb2⟩
    rw [HC.out]
    have HB2 := Lib.hid hb2
    unfold errOf
    have n0 := HN1.out 0
    have n1 := HN1.out 1
    have n2 := HN1.out 2
    have n3 := HN1.out 3
    have n4 := HN1.out 4
    have n5 := HN1.out 5
    have q0 := (hb2.cell (p := ⟨w.heap.size, 0, none⟩) m1).trans n0
    have q1 := (hb2.cell (p := ⟨w.heap.size, 1, none⟩) m1).trans n1
    have q2 := (hb2.cell (p := ⟨w.heap.size, 2, none⟩) m1).trans n2
    have q3 := (hb2.cell (p := ⟨w.heap.size, 3, none⟩) m1).trans n3
    have q4 := (hb2.cell (p := ⟨w.heap.size, 4, none⟩) m1).trans n4
    have q5 := (hb2.cell (p := ⟨w.heap.size, 5, none⟩) m1).trans n5
    clear n0 n1 n2 n3 n4 n5 hb2
    simp only [insRow, List.getElem?_toArray, List.getElem?_cons_zero, List.getElem?_cons_succ] at q0 q1 q2 q3 q4 q5
    rw [hop'] at q0
    rw [HX.out] at q5
    rw [hS] at q2
    rw [hB] at q4
    have m2 : w.heap.size < w2.heap.size := Nat.lt_of_lt_of_le m1 HB2.out.size
    obtain ⟨L0, e0⟩ : ∃ q, q = L16 := ⟨_, rfl⟩
    have E := Lib.hid e0
    have H := Lib.hid (Bools.new w w2 w.heap.size i E.out (HB1.out.trans (HB2.out.mono HB1.out.size)) ((HB2.out.block _ m1).trans HK1.out) m2)
    clear e0
    clear hop' hS hB
    go_upto_region 5 with (((with_reducible refine (Form_4 _).mono ?_); rintro e w3 ⟨rfl, rfl⟩))
    go_wp2_with (first | ((with_reducible refine (Has_lit ⟨#[83, 77]⟩ 83 83 rfl true _ (by decide) rfl).mono ?_); rintro e w3 ⟨rfl, rfl⟩) | ((with_reducible refine (Has_lit ⟨#[83, 77]⟩ 84 84 rfl false _ (by decide) rfl).mono ?_); rintro e w3 ⟨rfl, rfl⟩) | ((with_reducible refine (Has_lit ⟨#[83, 77]⟩ 77 77 rfl true _ (by decide) rfl).mono ?_); rintro e w3 ⟨rfl, rfl⟩) | ((with_reducible refine (Has_lit ⟨#[83, 77]⟩ 68 68 rfl false _ (by decide) rfl).mono ?_); rintro e w3 ⟨rfl, rfl⟩) | ((with_reducible refine wl_id ?_); refine H.out.store S LS.out _ _ rfl rfl rfl rfl ?_; intro W L2 hL hW; have e2 := chain_step hL E.out; clear hL E q0 q1 q2 q3 q4 q5; have E := Lib.hid e2; clear e2; clear H; have H := Lib.hid hW; clear hW; obtain ⟨q0, q1, q2, q3, q4, q5⟩ := H.out.cells; rw [HOP.out] at q0; rw [HX.out] at q5; rw [ES.out] at q2; rw [EB.out] at q4) | ((with_reducible refine wl_id ?_); refine H.out.store B LB.out _ _ rfl rfl rfl rfl ?_; intro W L2 hL hW; have e2 := chain_step hL E.out; clear hL E q0 q1 q2 q3 q4 q5; have E := Lib.hid e2; clear e2; clear H; have H := Lib.hid hW; clear hW; obtain ⟨q0, q1, q2, q3, q4, q5⟩ := H.out.cells; rw [HOP.out] at q0; rw [HX.out] at q5; rw [ES.out] at q2; rw [EB.out] at q4) | ((with_reducible refine wl_id ?_); refine H.out.store 2 (by decide) _ _ rfl rfl rfl rfl ?_; intro W L2 hL hW; have e2 := chain_step hL E.out; clear hL E q0 q1 q2 q3 q4 q5; have E := Lib.hid e2; clear e2; clear H; have H := Lib.hid hW; clear hW; obtain ⟨q0, q1, q2, q3, q4, q5⟩ := H.out.cells; rw [HOP.out] at q0; rw [HX.out] at q5; rw [ES.out] at q2; rw [EB.out] at q4) | ((with_reducible refine wl_id ?_); refine H.out.store 4 (by decide) _ _ rfl rfl rfl rfl ?_; intro W L2 hL hW; have e2 := chain_step hL E.out; clear hL E q0 q1 q2 q3 q4 q5; have E := Lib.hid e2; clear e2; clear H; have H := Lib.hid hW; clear hW; obtain ⟨q0, q1, q2, q3, q4, q5⟩ := H.out.cells; rw [HOP.out] at q0; rw [HX.out] at q5; rw [ES.out] at q2; rw [EB.out] at q4) | ((with_reducible refine wl_id ?_); refine H.out.load _ rfl rfl rfl ?_) | (go_at_call 40; refine (rising_any _ H.out.len _).mono ?_; rintro e w4 ⟨v4, rfl, hI, hb4⟩; have HI := Lib.hid hI; have HB4 := Lib.hid (H.out.below.trans (hb4.mono H.out.below.size)); have HZ := Lib.hid H.out.below.size; clear hI hb4))
    go_ret
    refine ⟨_, rfl, ?_, HB4.out⟩
    have h9 := HI.out.mono (G := fun k => w.heap.size ≤ k ∧ k < w4.heap.size) fun k hk => ⟨Nat.le_trans HZ.out hk.1, hk.2⟩
    have e9 : readsL [83, 77] i = ((L16).set S true).set B true := by simp only [readsL, HOP.out, HX.out, ES.out, EB.out]; rfl
    rw [e9, ← E.out]
    exact h9
  · obtain ⟨X, hX, hXl⟩ := place_index hpl hx
    have lX0 : (0 : Int) ≤ (X : Int) := by omega
    have lX1 : (X : Int) < 16 := by omega
    have LX := Lib.hid hXl
    have nX : ((X : Int) != -1) = true := by simp
    have HNX := Lib.hid nX
    have hop' := hop
    have HOP := Lib.hid hop
    have HC := Lib.hid hc
    have ES := Lib.hid hS
    have EB := Lib.hid hB
    have EX := Lib.hid hX
    clear hx hop hc hd1 hs1 ht1 hpl hSl hBl hXl
    have HCHK := Lib.hid (fun w => rCheck_any i w)
    obtain ⟨W1, hW1, hb1, hs1, hn1, _⟩ := boxed w (insRow i).toArray 29
    have k1 : W1.heap[w.heap.size]? = some (.cells (insRow i).toArray 29 (0, 0)) := by rw [hW1]; exact heap_alloc_new w _
    have HK1 := Lib.hid k1
    have HW1 := Lib.hid hW1
    have HB1 := Lib.hid hb1
    have HN1 := Lib.hid hn1
    have m1 : w.heap.size < W1.heap.size := by omega
    clear hW1 hb1 hs1 hn1 k1
    go_enter Tryz.func17, Tryz.ntmps17
    go_wp2_with (rw [← HW1.out]; refine wpList_load_row rfl 29 _ rfl w.heap.size rfl 29 (insRow i).toArray (0, 0) _ HK1.out Tryz.underlying29 rfl infoIns ?_)
    refine (HCHK.out W1).mono ?_
    rintro e w2 ⟨rfl, hb2⟩
    rw [HC.out]
    have HB2 := Lib.hid hb2
    unfold errOf
    have n0 := HN1.out 0
    have n1 := HN1.out 1
    have n2 := HN1.out 2
    have n3 := HN1.out 3
    have n4 := HN1.out 4
    have n5 := HN1.out 5
    have q0 := (hb2.cell (p := ⟨w.heap.size, 0, none⟩) m1).trans n0
    have q1 := (hb2.cell (p := ⟨w.heap.size, 1, none⟩) m1).trans n1
    have q2 := (hb2.cell (p := ⟨w.heap.size, 2, none⟩) m1).trans n2
    have q3 := (hb2.cell (p := ⟨w.heap.size, 3, none⟩) m1).trans n3
    have q4 := (hb2.cell (p := ⟨w.heap.size, 4, none⟩) m1).trans n4
    have q5 := (hb2.cell (p := ⟨w.heap.size, 5, none⟩) m1).trans n5
    clear n0 n1 n2 n3 n4 n5 hb2
    simp only [insRow, List.getElem?_toArray, List.getElem?_cons_zero, List.getElem?_cons_succ] at q0 q1 q2 q3 q4 q5
    rw [hop'] at q0
    rw [hS] at q2
    rw [hB] at q4
    rw [hX] at q5
    have m2 : w.heap.size < w2.heap.size := Nat.lt_of_lt_of_le m1 HB2.out.size
    obtain ⟨L0, e0⟩ : ∃ q, q = L16 := ⟨_, rfl⟩
    have E := Lib.hid e0
    have H := Lib.hid (Bools.new w w2 w.heap.size i E.out (HB1.out.trans (HB2.out.mono HB1.out.size)) ((HB2.out.block _ m1).trans HK1.out) m2)
    clear e0
    clear hop' hS hB hX
    go_upto_region 5 with (((with_reducible refine (Form_4 _).mono ?_); rintro e w3 ⟨rfl, rfl⟩))
    go_wp2_with (first | ((with_reducible refine (Has_lit ⟨#[83, 77]⟩ 83 83 rfl true _ (by decide) rfl).mono ?_); rintro e w3 ⟨rfl, rfl⟩) | ((with_reducible refine (Has_lit ⟨#[83, 77]⟩ 84 84 rfl false _ (by decide) rfl).mono ?_); rintro e w3 ⟨rfl, rfl⟩) | ((with_reducible refine (Has_lit ⟨#[83, 77]⟩ 77 77 rfl true _ (by decide) rfl).mono ?_); rintro e w3 ⟨rfl, rfl⟩) | ((with_reducible refine (Has_lit ⟨#[83, 77]⟩ 68 68 rfl false _ (by decide) rfl).mono ?_); rintro e w3 ⟨rfl, rfl⟩) | ((with_reducible refine wl_id ?_); refine H.out.store S LS.out _ _ rfl rfl rfl rfl ?_; intro W L2 hL hW; have e2 := chain_step hL E.out; clear hL E q0 q1 q2 q3 q4 q5; have E := Lib.hid e2; clear e2; clear H; have H := Lib.hid hW; clear hW; obtain ⟨q0, q1, q2, q3, q4, q5⟩ := H.out.cells; rw [HOP.out] at q0; rw [ES.out] at q2; rw [EB.out] at q4; rw [EX.out] at q5) | ((with_reducible refine wl_id ?_); refine H.out.store B LB.out _ _ rfl rfl rfl rfl ?_; intro W L2 hL hW; have e2 := chain_step hL E.out; clear hL E q0 q1 q2 q3 q4 q5; have E := Lib.hid e2; clear e2; clear H; have H := Lib.hid hW; clear hW; obtain ⟨q0, q1, q2, q3, q4, q5⟩ := H.out.cells; rw [HOP.out] at q0; rw [ES.out] at q2; rw [EB.out] at q4; rw [EX.out] at q5) | ((with_reducible refine wl_id ?_); refine H.out.store X LX.out _ _ rfl rfl rfl rfl ?_; intro W L2 hL hW; have e2 := chain_step hL E.out; clear hL E q0 q1 q2 q3 q4 q5; have E := Lib.hid e2; clear e2; clear H; have H := Lib.hid hW; clear hW; obtain ⟨q0, q1, q2, q3, q4, q5⟩ := H.out.cells; rw [HOP.out] at q0; rw [ES.out] at q2; rw [EB.out] at q4; rw [EX.out] at q5) | ((with_reducible refine wl_id ?_); refine H.out.store 2 (by decide) _ _ rfl rfl rfl rfl ?_; intro W L2 hL hW; have e2 := chain_step hL E.out; clear hL E q0 q1 q2 q3 q4 q5; have E := Lib.hid e2; clear e2; clear H; have H := Lib.hid hW; clear hW; obtain ⟨q0, q1, q2, q3, q4, q5⟩ := H.out.cells; rw [HOP.out] at q0; rw [ES.out] at q2; rw [EB.out] at q4; rw [EX.out] at q5) | ((with_reducible refine wl_id ?_); refine H.out.store 4 (by decide) _ _ rfl rfl rfl rfl ?_; intro W L2 hL hW; have e2 := chain_step hL E.out; clear hL E q0 q1 q2 q3 q4 q5; have E := Lib.hid e2; clear e2; clear H; have H := Lib.hid hW; clear hW; obtain ⟨q0, q1, q2, q3, q4, q5⟩ := H.out.cells; rw [HOP.out] at q0; rw [ES.out] at q2; rw [EB.out] at q4; rw [EX.out] at q5) | ((with_reducible refine wl_id ?_); refine H.out.load _ rfl rfl rfl ?_) | (go_at_call 40; refine (rising_any _ H.out.len _).mono ?_; rintro e w4 ⟨v4, rfl, hI, hb4⟩; have HI := Lib.hid hI; have HB4 := Lib.hid (H.out.below.trans (hb4.mono H.out.below.size)); have HZ := Lib.hid H.out.below.size; clear hI hb4))
    go_ret
    refine ⟨_, rfl, ?_, HB4.out⟩
    have h9 := HI.out.mono (G := fun k => w.heap.size ≤ k ∧ k < w4.heap.size) fun k hk => ⟨Nat.le_trans HZ.out hk.1, hk.2⟩
    have e9 : readsL [83, 77] i = (((L16).set S true).set B true).set X true := by simp only [readsL, HOP.out, ES.out, EB.out, EX.out, HNX.out]; rfl
    rw [e9, ← E.out]
    exact h9
set_option maxRecDepth 100000 in
set_option maxHeartbeats 3200000 in
theorem Reads_5 (i : Ins) (hop : i.op = 5) (hc : chkP i = true) (w : World) :
    Calls Tryz.prog 17 #[.agg (insRow i).toArray] w fun e w' => ∃ v, e = .returned v ∧ IntsAt w' (fun k => w.heap.size ≤ k ∧ k < w'.heap.size) v (risingF (readsL [68, 77] i)) ∧ Below w.heap.size w w' := by
  obtain ⟨_, _, hd1, hs1, ht1, _⟩ := chk_parts hc
  have hpl := chk_place hc
  rw [hop] at hd1 hs1 ht1 hpl
  obtain ⟨B, hB, hBl⟩ := place_base hpl
  have lB0 : (0 : Int) ≤ (B : Int) := by omega
  have lB1 : (B : Int) < 16 := by omega
  have LB := Lib.hid hBl
  by_cases hx : i.index = -1
  · have HX := Lib.hid hx
    have hop' := hop
    have HOP := Lib.hid hop
    have HC := Lib.hid hc
    have EB := Lib.hid hB
    clear hx hop hc hd1 hs1 ht1 hpl hBl
    have HCHK := Lib.hid (fun w => rCheck_any i w)
    obtain ⟨W1, hW1, hb1, hs1, hn1, _⟩ := boxed w (insRow i).toArray 29
    have k1 : W1.heap[w.heap.size]? = some (.cells (insRow i).toArray 29 (0, 0)) := by rw [hW1]; exact heap_alloc_new w _
    have HK1 := Lib.hid k1
    have HW1 := Lib.hid hW1
    have HB1 := Lib.hid hb1
    have HN1 := Lib.hid hn1
    have m1 : w.heap.size < W1.heap.size := by omega
    clear hW1 hb1 hs1 hn1 k1
    go_enter Tryz.func17, Tryz.ntmps17
    go_wp2_with (rw [← HW1.out]; refine wpList_load_row rfl 29 _ rfl w.heap.size rfl 29 (insRow i).toArray (0, 0) _ HK1.out Tryz.underlying29 rfl infoIns ?_)
    refine (HCHK.out W1).mono ?_
    rintro e w2 ⟨rfl, hb2⟩
    rw [HC.out]
    have HB2 := Lib.hid hb2
    unfold errOf
    have n0 := HN1.out 0
    have n1 := HN1.out 1
    have n2 := HN1.out 2
    have n3 := HN1.out 3
    have n4 := HN1.out 4
    have n5 := HN1.out 5
    have q0 := (hb2.cell (p := ⟨w.heap.size, 0, none⟩) m1).trans n0
    have q1 := (hb2.cell (p := ⟨w.heap.size, 1, none⟩) m1).trans n1
    have q2 := (hb2.cell (p := ⟨w.heap.size, 2, none⟩) m1).trans n2
    have q3 := (hb2.cell (p := ⟨w.heap.size, 3, none⟩) m1).trans n3
    have q4 := (hb2.cell (p := ⟨w.heap.size, 4, none⟩) m1).trans n4
    have q5 := (hb2.cell (p := ⟨w.heap.size, 5, none⟩) m1).trans n5
    clear n0 n1 n2 n3 n4 n5 hb2
    simp only [insRow, List.getElem?_toArray, List.getElem?_cons_zero, List.getElem?_cons_succ] at q0 q1 q2 q3 q4 q5
    rw [hop'] at q0
    rw [HX.out] at q5
    rw [hB] at q4
    have m2 : w.heap.size < w2.heap.size := Nat.lt_of_lt_of_le m1 HB2.out.size
    obtain ⟨L0, e0⟩ : ∃ q, q = L16 := ⟨_, rfl⟩
    have E := Lib.hid e0
    have H := Lib.hid (Bools.new w w2 w.heap.size i E.out (HB1.out.trans (HB2.out.mono HB1.out.size)) ((HB2.out.block _ m1).trans HK1.out) m2)
    clear e0
    clear hop' hB
    go_upto_region 5 with (((with_reducible refine (Form_5 _).mono ?_); rintro e w3 ⟨rfl, rfl⟩))
    go_wp2_with (first | ((with_reducible refine (Has_lit ⟨#[68, 77]⟩ 83 83 rfl false _ (by decide) rfl).mono ?_); rintro e w3 ⟨rfl, rfl⟩) | ((with_reducible refine (Has_lit ⟨#[68, 77]⟩ 84 84 rfl false _ (by decide) rfl).mono ?_); rintro e w3 ⟨rfl, rfl⟩) | ((with_reducible refine (Has_lit ⟨#[68, 77]⟩ 77 77 rfl true _ (by decide) rfl).mono ?_); rintro e w3 ⟨rfl, rfl⟩) | ((with_reducible refine (Has_lit ⟨#[68, 77]⟩ 68 68 rfl true _ (by decide) rfl).mono ?_); rintro e w3 ⟨rfl, rfl⟩) | ((with_reducible refine wl_id ?_); refine H.out.store B LB.out _ _ rfl rfl rfl rfl ?_; intro W L2 hL hW; have e2 := chain_step hL E.out; clear hL E q0 q1 q2 q3 q4 q5; have E := Lib.hid e2; clear e2; clear H; have H := Lib.hid hW; clear hW; obtain ⟨q0, q1, q2, q3, q4, q5⟩ := H.out.cells; rw [HOP.out] at q0; rw [HX.out] at q5; rw [EB.out] at q4) | ((with_reducible refine wl_id ?_); refine H.out.store 2 (by decide) _ _ rfl rfl rfl rfl ?_; intro W L2 hL hW; have e2 := chain_step hL E.out; clear hL E q0 q1 q2 q3 q4 q5; have E := Lib.hid e2; clear e2; clear H; have H := Lib.hid hW; clear hW; obtain ⟨q0, q1, q2, q3, q4, q5⟩ := H.out.cells; rw [HOP.out] at q0; rw [HX.out] at q5; rw [EB.out] at q4) | ((with_reducible refine wl_id ?_); refine H.out.store 4 (by decide) _ _ rfl rfl rfl rfl ?_; intro W L2 hL hW; have e2 := chain_step hL E.out; clear hL E q0 q1 q2 q3 q4 q5; have E := Lib.hid e2; clear e2; clear H; have H := Lib.hid hW; clear hW; obtain ⟨q0, q1, q2, q3, q4, q5⟩ := H.out.cells; rw [HOP.out] at q0; rw [HX.out] at q5; rw [EB.out] at q4) | ((with_reducible refine wl_id ?_); refine H.out.load _ rfl rfl rfl ?_) | (go_at_call 40; refine (rising_any _ H.out.len _).mono ?_; rintro e w4 ⟨v4, rfl, hI, hb4⟩; have HI := Lib.hid hI; have HB4 := Lib.hid (H.out.below.trans (hb4.mono H.out.below.size)); have HZ := Lib.hid H.out.below.size; clear hI hb4))
    go_ret
    refine ⟨_, rfl, ?_, HB4.out⟩
    have h9 := HI.out.mono (G := fun k => w.heap.size ≤ k ∧ k < w4.heap.size) fun k hk => ⟨Nat.le_trans HZ.out hk.1, hk.2⟩
    have e9 : readsL [68, 77] i = (L16).set B true := by simp only [readsL, HOP.out, HX.out, EB.out]; rfl
    rw [e9, ← E.out]
    exact h9
  · obtain ⟨X, hX, hXl⟩ := place_index hpl hx
    have lX0 : (0 : Int) ≤ (X : Int) := by omega
    have lX1 : (X : Int) < 16 := by omega
    have LX := Lib.hid hXl
    have nX : ((X : Int) != -1) = true := by simp
    have HNX := Lib.hid nX
    have hop' := hop
    have HOP := Lib.hid hop
    have HC := Lib.hid hc
    have EB := Lib.hid hB
    have EX := Lib.hid hX
    clear hx hop hc hd1 hs1 ht1 hpl hBl hXl
    have HCHK := Lib.hid (fun w => rCheck_any i w)
    obtain ⟨W1, hW1, hb1, hs1, hn1, _⟩ := boxed w (insRow i).toArray 29
    have k1 : W1.heap[w.heap.size]? = some (.cells (insRow i).toArray 29 (0, 0)) := by rw [hW1]; exact heap_alloc_new w _
    have HK1 := Lib.hid k1
    have HW1 := Lib.hid hW1
    have HB1 := Lib.hid hb1
    have HN1 := Lib.hid hn1
    have m1 : w.heap.size < W1.heap.size := by omega
    clear hW1 hb1 hs1 hn1 k1
    go_enter Tryz.func17, Tryz.ntmps17
    go_wp2_with (rw [← HW1.out]; refine wpList_load_row rfl 29 _ rfl w.heap.size rfl 29 (insRow i).toArray (0, 0) _ HK1.out Tryz.underlying29 rfl infoIns ?_)
    refine (HCHK.out W1).mono ?_
    rintro e w2 ⟨rfl, hb2⟩
    rw [HC.out]
    have HB2 := Lib.hid hb2
    unfold errOf
    have n0 := HN1.out 0
    have n1 := HN1.out 1
    have n2 := HN1.out 2
    have n3 := HN1.out 3
    have n4 := HN1.out 4
    have n5 := HN1.out 5
    have q0 := (hb2.cell (p := ⟨w.heap.size, 0, none⟩) m1).trans n0
    have q1 := (hb2.cell (p := ⟨w.heap.size, 1, none⟩) m1).trans n1
    have q2 := (hb2.cell (p := ⟨w.heap.size, 2, none⟩) m1).trans n2
    have q3 := (hb2.cell (p := ⟨w.heap.size, 3, none⟩) m1).trans n3
    have q4 := (hb2.cell (p := ⟨w.heap.size, 4, none⟩) m1).trans n4
    have q5 := (hb2.cell (p := ⟨w.heap.size, 5, none⟩) m1).trans n5
    clear n0 n1 n2 n3 n4 n5 hb2
    simp only [insRow, List.getElem?_toArray, List.getElem?_cons_zero, List.getElem?_cons_succ] at q0 q1 q2 q3 q4 q5
    rw [hop'] at q0
    rw [hB] at q4
    rw [hX] at q5
    have m2 : w.heap.size < w2.heap.size := Nat.lt_of_lt_of_le m1 HB2.out.size
    obtain ⟨L0, e0⟩ : ∃ q, q = L16 := ⟨_, rfl⟩
    have E := Lib.hid e0
    have H := Lib.hid (Bools.new w w2 w.heap.size i E.out (HB1.out.trans (HB2.out.mono HB1.out.size)) ((HB2.out.block _ m1).trans HK1.out) m2)
    clear e0
    clear hop' hB hX
    go_upto_region 5 with (((with_reducible refine (Form_5 _).mono ?_); rintro e w3 ⟨rfl, rfl⟩))
    go_wp2_with (first | ((with_reducible refine (Has_lit ⟨#[68, 77]⟩ 83 83 rfl false _ (by decide) rfl).mono ?_); rintro e w3 ⟨rfl, rfl⟩) | ((with_reducible refine (Has_lit ⟨#[68, 77]⟩ 84 84 rfl false _ (by decide) rfl).mono ?_); rintro e w3 ⟨rfl, rfl⟩) | ((with_reducible refine (Has_lit ⟨#[68, 77]⟩ 77 77 rfl true _ (by decide) rfl).mono ?_); rintro e w3 ⟨rfl, rfl⟩) | ((with_reducible refine (Has_lit ⟨#[68, 77]⟩ 68 68 rfl true _ (by decide) rfl).mono ?_); rintro e w3 ⟨rfl, rfl⟩) | ((with_reducible refine wl_id ?_); refine H.out.store B LB.out _ _ rfl rfl rfl rfl ?_; intro W L2 hL hW; have e2 := chain_step hL E.out; clear hL E q0 q1 q2 q3 q4 q5; have E := Lib.hid e2; clear e2; clear H; have H := Lib.hid hW; clear hW; obtain ⟨q0, q1, q2, q3, q4, q5⟩ := H.out.cells; rw [HOP.out] at q0; rw [EB.out] at q4; rw [EX.out] at q5) | ((with_reducible refine wl_id ?_); refine H.out.store X LX.out _ _ rfl rfl rfl rfl ?_; intro W L2 hL hW; have e2 := chain_step hL E.out; clear hL E q0 q1 q2 q3 q4 q5; have E := Lib.hid e2; clear e2; clear H; have H := Lib.hid hW; clear hW; obtain ⟨q0, q1, q2, q3, q4, q5⟩ := H.out.cells; rw [HOP.out] at q0; rw [EB.out] at q4; rw [EX.out] at q5) | ((with_reducible refine wl_id ?_); refine H.out.store 2 (by decide) _ _ rfl rfl rfl rfl ?_; intro W L2 hL hW; have e2 := chain_step hL E.out; clear hL E q0 q1 q2 q3 q4 q5; have E := Lib.hid e2; clear e2; clear H; have H := Lib.hid hW; clear hW; obtain ⟨q0, q1, q2, q3, q4, q5⟩ := H.out.cells; rw [HOP.out] at q0; rw [EB.out] at q4; rw [EX.out] at q5) | ((with_reducible refine wl_id ?_); refine H.out.store 4 (by decide) _ _ rfl rfl rfl rfl ?_; intro W L2 hL hW; have e2 := chain_step hL E.out; clear hL E q0 q1 q2 q3 q4 q5; have E := Lib.hid e2; clear e2; clear H; have H := Lib.hid hW; clear hW; obtain ⟨q0, q1, q2, q3, q4, q5⟩ := H.out.cells; rw [HOP.out] at q0; rw [EB.out] at q4; rw [EX.out] at q5) | ((with_reducible refine wl_id ?_); refine H.out.load _ rfl rfl rfl ?_) | (go_at_call 40; refine (rising_any _ H.out.len _).mono ?_; rintro e w4 ⟨v4, rfl, hI, hb4⟩; have HI := Lib.hid hI; have HB4 := Lib.hid (H.out.below.trans (hb4.mono H.out.below.size)); have HZ := Lib.hid H.out.below.size; clear hI hb4))
    go_ret
    refine ⟨_, rfl, ?_, HB4.out⟩
    have h9 := HI.out.mono (G := fun k => w.heap.size ≤ k ∧ k < w4.heap.size) fun k hk => ⟨Nat.le_trans HZ.out hk.1, hk.2⟩
    have e9 : readsL [68, 77] i = ((L16).set B true).set X true := by simp only [readsL, HOP.out, EB.out, EX.out, HNX.out]; rfl
    rw [e9, ← E.out]
    exact h9
set_option maxRecDepth 100000 in
set_option maxHeartbeats 3200000 in
theorem Reads_6 (i : Ins) (hop : i.op = 6) (hc : chkP i = true) (w : World) :
    Calls Tryz.prog 17 #[.agg (insRow i).toArray] w fun e w' => ∃ v, e = .returned v ∧ IntsAt w' (fun k => w.heap.size ≤ k ∧ k < w'.heap.size) v (risingF (readsL [68, 83] i)) ∧ Below w.heap.size w w' := by
  obtain ⟨_, _, hd1, hs1, ht1, _⟩ := chk_parts hc
  have hpl := chk_place hc
  rw [hop] at hd1 hs1 ht1 hpl
  obtain ⟨D, hD, hDl⟩ := hasOk_yes hd1 (by rfl)
  obtain ⟨S, hS, hSl⟩ := hasOk_yes hs1 (by rfl)
  have lD0 : (0 : Int) ≤ (D : Int) := by omega
  have lD1 : (D : Int) < 16 := by omega
  have LD := Lib.hid hDl
  have lS0 : (0 : Int) ≤ (S : Int) := by omega
  have lS1 : (S : Int) < 16 := by omega
  have LS := Lib.hid hSl
  have hop' := hop
  have HOP := Lib.hid hop
  have HC := Lib.hid hc
  have ED := Lib.hid hD
  have ES := Lib.hid hS
  clear hop hc hd1 hs1 ht1 hpl hDl hSl
  have HCHK := Lib.hid (fun w => rCheck_any i w)
  obtain ⟨W1, hW1, hb1, hs1, hn1, _⟩ := boxed w (insRow i).toArray 29
  have k1 : W1.heap[w.heap.size]? = some (.cells (insRow i).toArray 29 (0, 0)) := by rw [hW1]; exact heap_alloc_new w _
  have HK1 := Lib.hid k1
  have HW1 := Lib.hid hW1
  have HB1 := Lib.hid hb1
  have HN1 := Lib.hid hn1
  have m1 : w.heap.size < W1.heap.size := by omega
  clear hW1 hb1 hs1 hn1 k1
  go_enter Tryz.func17, Tryz.ntmps17
  go_wp2_with (rw [← HW1.out]; refine wpList_load_row rfl 29 _ rfl w.heap.size rfl 29 (insRow i).toArray (0, 0) _ HK1.out Tryz.underlying29 rfl infoIns ?_)
  refine (HCHK.out W1).mono ?_
  rintro e w2 ⟨rfl, hb2⟩
  rw [HC.out]
  have HB2 := Lib.hid hb2
  unfold errOf
  have n0 := HN1.out 0
  have n1 := HN1.out 1
  have n2 := HN1.out 2
  have n3 := HN1.out 3
  have n4 := HN1.out 4
  have n5 := HN1.out 5
  have q0 := (hb2.cell (p := ⟨w.heap.size, 0, none⟩) m1).trans n0
  have q1 := (hb2.cell (p := ⟨w.heap.size, 1, none⟩) m1).trans n1
  have q2 := (hb2.cell (p := ⟨w.heap.size, 2, none⟩) m1).trans n2
  have q3 := (hb2.cell (p := ⟨w.heap.size, 3, none⟩) m1).trans n3
  have q4 := (hb2.cell (p := ⟨w.heap.size, 4, none⟩) m1).trans n4
  have q5 := (hb2.cell (p := ⟨w.heap.size, 5, none⟩) m1).trans n5
  clear n0 n1 n2 n3 n4 n5 hb2
  simp only [insRow, List.getElem?_toArray, List.getElem?_cons_zero, List.getElem?_cons_succ] at q0 q1 q2 q3 q4 q5
  rw [hop'] at q0
  rw [hD] at q1
  rw [hS] at q2
  have m2 : w.heap.size < w2.heap.size := Nat.lt_of_lt_of_le m1 HB2.out.size
  obtain ⟨L0, e0⟩ : ∃ q, q = L16 := ⟨_, rfl⟩
  have E := Lib.hid e0
  have H := Lib.hid (Bools.new w w2 w.heap.size i E.out (HB1.out.trans (HB2.out.mono HB1.out.size)) ((HB2.out.block _ m1).trans HK1.out) m2)
  clear e0
  clear hop' hD hS
  go_upto_region 5 with (((with_reducible refine (Form_6 _).mono ?_); rintro e w3 ⟨rfl, rfl⟩))
  go_wp2_with (first | ((with_reducible refine (Has_lit ⟨#[68, 83]⟩ 83 83 rfl true _ (by decide) rfl).mono ?_); rintro e w3 ⟨rfl, rfl⟩) | ((with_reducible refine (Has_lit ⟨#[68, 83]⟩ 84 84 rfl false _ (by decide) rfl).mono ?_); rintro e w3 ⟨rfl, rfl⟩) | ((with_reducible refine (Has_lit ⟨#[68, 83]⟩ 77 77 rfl false _ (by decide) rfl).mono ?_); rintro e w3 ⟨rfl, rfl⟩) | ((with_reducible refine (Has_lit ⟨#[68, 83]⟩ 68 68 rfl true _ (by decide) rfl).mono ?_); rintro e w3 ⟨rfl, rfl⟩) | ((with_reducible refine wl_id ?_); refine H.out.store D LD.out _ _ rfl rfl rfl rfl ?_; intro W L2 hL hW; have e2 := chain_step hL E.out; clear hL E q0 q1 q2 q3 q4 q5; have E := Lib.hid e2; clear e2; clear H; have H := Lib.hid hW; clear hW; obtain ⟨q0, q1, q2, q3, q4, q5⟩ := H.out.cells; rw [HOP.out] at q0; rw [ED.out] at q1; rw [ES.out] at q2) | ((with_reducible refine wl_id ?_); refine H.out.store S LS.out _ _ rfl rfl rfl rfl ?_; intro W L2 hL hW; have e2 := chain_step hL E.out; clear hL E q0 q1 q2 q3 q4 q5; have E := Lib.hid e2; clear e2; clear H; have H := Lib.hid hW; clear hW; obtain ⟨q0, q1, q2, q3, q4, q5⟩ := H.out.cells; rw [HOP.out] at q0; rw [ED.out] at q1; rw [ES.out] at q2) | ((with_reducible refine wl_id ?_); refine H.out.store 2 (by decide) _ _ rfl rfl rfl rfl ?_; intro W L2 hL hW; have e2 := chain_step hL E.out; clear hL E q0 q1 q2 q3 q4 q5; have E := Lib.hid e2; clear e2; clear H; have H := Lib.hid hW; clear hW; obtain ⟨q0, q1, q2, q3, q4, q5⟩ := H.out.cells; rw [HOP.out] at q0; rw [ED.out] at q1; rw [ES.out] at q2) | ((with_reducible refine wl_id ?_); refine H.out.store 4 (by decide) _ _ rfl rfl rfl rfl ?_; intro W L2 hL hW; have e2 := chain_step hL E.out; clear hL E q0 q1 q2 q3 q4 q5; have E := Lib.hid e2; clear e2; clear H; have H := Lib.hid hW; clear hW; obtain ⟨q0, q1, q2, q3, q4, q5⟩ := H.out.cells; rw [HOP.out] at q0; rw [ED.out] at q1; rw [ES.out] at q2) | ((with_reducible refine wl_id ?_); refine H.out.load _ rfl rfl rfl ?_) | (go_at_call 40; refine (rising_any _ H.out.len _).mono ?_; rintro e w4 ⟨v4, rfl, hI, hb4⟩; have HI := Lib.hid hI; have HB4 := Lib.hid (H.out.below.trans (hb4.mono H.out.below.size)); have HZ := Lib.hid H.out.below.size; clear hI hb4))
  go_ret
  refine ⟨_, rfl, ?_, HB4.out⟩
  have h9 := HI.out.mono (G := fun k => w.heap.size ≤ k ∧ k < w4.heap.size) fun k hk => ⟨Nat.le_trans HZ.out hk.1, hk.2⟩
  have e9 : readsL [68, 83] i = ((L16).set S true).set D true := by simp only [readsL, HOP.out, ED.out, ES.out]; rfl
  rw [e9, ← E.out]
  exact h9
set_option maxRecDepth 100000 in
set_option maxHeartbeats 3200000 in
theorem Reads_7 (i : Ins) (hop : i.op = 7) (hc : chkP i = true) (w : World) :
    Calls Tryz.prog 17 #[.agg (insRow i).toArray] w fun e w' => ∃ v, e = .returned v ∧ IntsAt w' (fun k => w.heap.size ≤ k ∧ k < w'.heap.size) v (risingF (readsL [68, 83] i)) ∧ Below w.heap.size w w' := by
  obtain ⟨_, _, hd1, hs1, ht1, _⟩ := chk_parts hc
  have hpl := chk_place hc
  rw [hop] at hd1 hs1 ht1 hpl
  obtain ⟨D, hD, hDl⟩ := hasOk_yes hd1 (by rfl)
  obtain ⟨S, hS, hSl⟩ := hasOk_yes hs1 (by rfl)
  have lD0 : (0 : Int) ≤ (D : Int) := by omega
  have lD1 : (D : Int) < 16 := by omega
  have LD := Lib.hid hDl
  have lS0 : (0 : Int) ≤ (S : Int) := by omega
  have lS1 : (S : Int) < 16 := by omega
  have LS := Lib.hid hSl
  have hop' := hop
  have HOP := Lib.hid hop
  have HC := Lib.hid hc
  have ED := Lib.hid hD
  have ES := Lib.hid hS
  clear hop hc hd1 hs1 ht1 hpl hDl hSl
  have HCHK := Lib.hid (fun w => rCheck_any i w)
  obtain ⟨W1, hW1, hb1, hs1, hn1, _⟩ := boxed w (insRow i).toArray 29
  have k1 : W1.heap[w.heap.size]? = some (.cells (insRow i).toArray 29 (0, 0)) := by rw [hW1]; exact heap_alloc_new w _
  have HK1 := Lib.hid k1
  have HW1 := Lib.hid hW1
  have HB1 := Lib.hid hb1
  have HN1 := Lib.hid hn1
  have m1 : w.heap.size < W1.heap.size := by omega
  clear hW1 hb1 hs1 hn1 k1
  go_enter Tryz.func17, Tryz.ntmps17
  go_wp2_with (rw [← HW1.out]; refine wpList_load_row rfl 29 _ rfl w.heap.size rfl 29 (insRow i).toArray (0, 0) _ HK1.out Tryz.underlying29 rfl infoIns ?_)
  refine (HCHK.out W1).mono ?_
  rintro e w2 ⟨rfl, hb2⟩
  rw [HC.out]
  have HB2 := Lib.hid hb2
  unfold errOf
  have n0 := HN1.out 0
  have n1 := HN1.out 1
  have n2 := HN1.out 2
  have n3 := HN1.out 3
  have n4 := HN1.out 4
  have n5 := HN1.out 5
  have q0 := (hb2.cell (p := ⟨w.heap.size, 0, none⟩) m1).trans n0
  have q1 := (hb2.cell (p := ⟨w.heap.size, 1, none⟩) m1).trans n1
  have q2 := (hb2.cell (p := ⟨w.heap.size, 2, none⟩) m1).trans n2
  have q3 := (hb2.cell (p := ⟨w.heap.size, 3, none⟩) m1).trans n3
  have q4 := (hb2.cell (p := ⟨w.heap.size, 4, none⟩) m1).trans n4
  have q5 := (hb2.cell (p := ⟨w.heap.size, 5, none⟩) m1).trans n5
  clear n0 n1 n2 n3 n4 n5 hb2
  simp only [insRow, List.getElem?_toArray, List.getElem?_cons_zero, List.getElem?_cons_succ] at q0 q1 q2 q3 q4 q5
  rw [hop'] at q0
  rw [hD] at q1
  rw [hS] at q2
  have m2 : w.heap.size < w2.heap.size := Nat.lt_of_lt_of_le m1 HB2.out.size
  obtain ⟨L0, e0⟩ : ∃ q, q = L16 := ⟨_, rfl⟩
  have E := Lib.hid e0
  have H := Lib.hid (Bools.new w w2 w.heap.size i E.out (HB1.out.trans (HB2.out.mono HB1.out.size)) ((HB2.out.block _ m1).trans HK1.out) m2)
  clear e0
  clear hop' hD hS
  go_upto_region 5 with (((with_reducible refine (Form_7 _).mono ?_); rintro e w3 ⟨rfl, rfl⟩))
  go_wp2_with (first | ((with_reducible refine (Has_lit ⟨#[68, 83]⟩ 83 83 rfl true _ (by decide) rfl).mono ?_); rintro e w3 ⟨rfl, rfl⟩) | ((with_reducible refine (Has_lit ⟨#[68, 83]⟩ 84 84 rfl false _ (by decide) rfl).mono ?_); rintro e w3 ⟨rfl, rfl⟩) | ((with_reducible refine (Has_lit ⟨#[68, 83]⟩ 77 77 rfl false _ (by decide) rfl).mono ?_); rintro e w3 ⟨rfl, rfl⟩) | ((with_reducible refine (Has_lit ⟨#[68, 83]⟩ 68 68 rfl true _ (by decide) rfl).mono ?_); rintro e w3 ⟨rfl, rfl⟩) | ((with_reducible refine wl_id ?_); refine H.out.store D LD.out _ _ rfl rfl rfl rfl ?_; intro W L2 hL hW; have e2 := chain_step hL E.out; clear hL E q0 q1 q2 q3 q4 q5; have E := Lib.hid e2; clear e2; clear H; have H := Lib.hid hW; clear hW; obtain ⟨q0, q1, q2, q3, q4, q5⟩ := H.out.cells; rw [HOP.out] at q0; rw [ED.out] at q1; rw [ES.out] at q2) | ((with_reducible refine wl_id ?_); refine H.out.store S LS.out _ _ rfl rfl rfl rfl ?_; intro W L2 hL hW; have e2 := chain_step hL E.out; clear hL E q0 q1 q2 q3 q4 q5; have E := Lib.hid e2; clear e2; clear H; have H := Lib.hid hW; clear hW; obtain ⟨q0, q1, q2, q3, q4, q5⟩ := H.out.cells; rw [HOP.out] at q0; rw [ED.out] at q1; rw [ES.out] at q2) | ((with_reducible refine wl_id ?_); refine H.out.store 2 (by decide) _ _ rfl rfl rfl rfl ?_; intro W L2 hL hW; have e2 := chain_step hL E.out; clear hL E q0 q1 q2 q3 q4 q5; have E := Lib.hid e2; clear e2; clear H; have H := Lib.hid hW; clear hW; obtain ⟨q0, q1, q2, q3, q4, q5⟩ := H.out.cells; rw [HOP.out] at q0; rw [ED.out] at q1; rw [ES.out] at q2) | ((with_reducible refine wl_id ?_); refine H.out.store 4 (by decide) _ _ rfl rfl rfl rfl ?_; intro W L2 hL hW; have e2 := chain_step hL E.out; clear hL E q0 q1 q2 q3 q4 q5; have E := Lib.hid e2; clear e2; clear H; have H := Lib.hid hW; clear hW; obtain ⟨q0, q1, q2, q3, q4, q5⟩ := H.out.cells; rw [HOP.out] at q0; rw [ED.out] at q1; rw [ES.out] at q2) | ((with_reducible refine wl_id ?_); refine H.out.load _ rfl rfl rfl ?_) | (go_at_call 40; refine (rising_any _ H.out.len _).mono ?_; rintro e w4 ⟨v4, rfl, hI, hb4⟩; have HI := Lib.hid hI; have HB4 := Lib.hid (H.out.below.trans (hb4.mono H.out.below.size)); have HZ := Lib.hid H.out.below.size; clear hI hb4))
  go_ret
  refine ⟨_, rfl, ?_, HB4.out⟩
  have h9 := HI.out.mono (G := fun k => w.heap.size ≤ k ∧ k < w4.heap.size) fun k hk => ⟨Nat.le_trans HZ.out hk.1, hk.2⟩
  have e9 : readsL [68, 83] i = ((L16).set S true).set D true := by simp only [readsL, HOP.out, ED.out, ES.out]; rfl
  rw [e9, ← E.out]
  exact h9
set_option maxRecDepth 100000 in
set_option maxHeartbeats 3200000 in
theorem Reads_8 (i : Ins) (hop : i.op = 8) (hc : chkP i = true) (w : World) :
    Calls Tryz.prog 17 #[.agg (insRow i).toArray] w fun e w' => ∃ v, e = .returned v ∧ IntsAt w' (fun k => w.heap.size ≤ k ∧ k < w'.heap.size) v (risingF (readsL [68, 83] i)) ∧ Below w.heap.size w w' := by
  obtain ⟨_, _, hd1, hs1, ht1, _⟩ := chk_parts hc
  have hpl := chk_place hc
  rw [hop] at hd1 hs1 ht1 hpl
  obtain ⟨D, hD, hDl⟩ := hasOk_yes hd1 (by rfl)
  obtain ⟨S, hS, hSl⟩ := hasOk_yes hs1 (by rfl)
  have lD0 : (0 : Int) ≤ (D : Int) := by omega
  have lD1 : (D : Int) < 16 := by omega
  have LD := Lib.hid hDl
  have lS0 : (0 : Int) ≤ (S : Int) := by omega
  have lS1 : (S : Int) < 16 := by omega
  have LS := Lib.hid hSl
  have hop' := hop
  have HOP := Lib.hid hop
  have HC := Lib.hid hc
  have ED := Lib.hid hD
  have ES := Lib.hid hS
  clear hop hc hd1 hs1 ht1 hpl hDl hSl
  have HCHK := Lib.hid (fun w => rCheck_any i w)
  obtain ⟨W1, hW1, hb1, hs1, hn1, _⟩ := boxed w (insRow i).toArray 29
  have k1 : W1.heap[w.heap.size]? = some (.cells (insRow i).toArray 29 (0, 0)) := by rw [hW1]; exact heap_alloc_new w _
  have HK1 := Lib.hid k1
  have HW1 := Lib.hid hW1
  have HB1 := Lib.hid hb1
  have HN1 := Lib.hid hn1
  have m1 : w.heap.size < W1.heap.size := by omega
  clear hW1 hb1 hs1 hn1 k1
  go_enter Tryz.func17, Tryz.ntmps17
  go_wp2_with (rw [← HW1.out]; refine wpList_load_row rfl 29 _ rfl w.heap.size rfl 29 (insRow i).toArray (0, 0) _ HK1.out Tryz.underlying29 rfl infoIns ?_)
  refine (HCHK.out W1).mono ?_
  rintro e w2 ⟨rfl, hb2⟩
  rw [HC.out]
  have HB2 := Lib.hid hb2
  unfold errOf
  have n0 := HN1.out 0
  have n1 := HN1.out 1
  have n2 := HN1.out 2
  have n3 := HN1.out 3
  have n4 := HN1.out 4
  have n5 := HN1.out 5
  have q0 := (hb2.cell (p := ⟨w.heap.size, 0, none⟩) m1).trans n0
  have q1 := (hb2.cell (p := ⟨w.heap.size, 1, none⟩) m1).trans n1
  have q2 := (hb2.cell (p := ⟨w.heap.size, 2, none⟩) m1).trans n2
  have q3 := (hb2.cell (p := ⟨w.heap.size, 3, none⟩) m1).trans n3
  have q4 := (hb2.cell (p := ⟨w.heap.size, 4, none⟩) m1).trans n4
  have q5 := (hb2.cell (p := ⟨w.heap.size, 5, none⟩) m1).trans n5
  clear n0 n1 n2 n3 n4 n5 hb2
  simp only [insRow, List.getElem?_toArray, List.getElem?_cons_zero, List.getElem?_cons_succ] at q0 q1 q2 q3 q4 q5
  rw [hop'] at q0
  rw [hD] at q1
  rw [hS] at q2
  have m2 : w.heap.size < w2.heap.size := Nat.lt_of_lt_of_le m1 HB2.out.size
  obtain ⟨L0, e0⟩ : ∃ q, q = L16 := ⟨_, rfl⟩
  have E := Lib.hid e0
  have H := Lib.hid (Bools.new w w2 w.heap.size i E.out (HB1.out.trans (HB2.out.mono HB1.out.size)) ((HB2.out.block _ m1).trans HK1.out) m2)
  clear e0
  clear hop' hD hS
  go_upto_region 5 with (((with_reducible refine (Form_8 _).mono ?_); rintro e w3 ⟨rfl, rfl⟩))
  go_wp2_with (first | ((with_reducible refine (Has_lit ⟨#[68, 83]⟩ 83 83 rfl true _ (by decide) rfl).mono ?_); rintro e w3 ⟨rfl, rfl⟩) | ((with_reducible refine (Has_lit ⟨#[68, 83]⟩ 84 84 rfl false _ (by decide) rfl).mono ?_); rintro e w3 ⟨rfl, rfl⟩) | ((with_reducible refine (Has_lit ⟨#[68, 83]⟩ 77 77 rfl false _ (by decide) rfl).mono ?_); rintro e w3 ⟨rfl, rfl⟩) | ((with_reducible refine (Has_lit ⟨#[68, 83]⟩ 68 68 rfl true _ (by decide) rfl).mono ?_); rintro e w3 ⟨rfl, rfl⟩) | ((with_reducible refine wl_id ?_); refine H.out.store D LD.out _ _ rfl rfl rfl rfl ?_; intro W L2 hL hW; have e2 := chain_step hL E.out; clear hL E q0 q1 q2 q3 q4 q5; have E := Lib.hid e2; clear e2; clear H; have H := Lib.hid hW; clear hW; obtain ⟨q0, q1, q2, q3, q4, q5⟩ := H.out.cells; rw [HOP.out] at q0; rw [ED.out] at q1; rw [ES.out] at q2) | ((with_reducible refine wl_id ?_); refine H.out.store S LS.out _ _ rfl rfl rfl rfl ?_; intro W L2 hL hW; have e2 := chain_step hL E.out; clear hL E q0 q1 q2 q3 q4 q5; have E := Lib.hid e2; clear e2; clear H; have H := Lib.hid hW; clear hW; obtain ⟨q0, q1, q2, q3, q4, q5⟩ := H.out.cells; rw [HOP.out] at q0; rw [ED.out] at q1; rw [ES.out] at q2) | ((with_reducible refine wl_id ?_); refine H.out.store 2 (by decide) _ _ rfl rfl rfl rfl ?_; intro W L2 hL hW; have e2 := chain_step hL E.out; clear hL E q0 q1 q2 q3 q4 q5; have E := Lib.hid e2; clear e2; clear H; have H := Lib.hid hW; clear hW; obtain ⟨q0, q1, q2, q3, q4, q5⟩ := H.out.cells; rw [HOP.out] at q0; rw [ED.out] at q1; rw [ES.out] at q2) | ((with_reducible refine wl_id ?_); refine H.out.store 4 (by decide) _ _ rfl rfl rfl rfl ?_; intro W L2 hL hW; have e2 := chain_step hL E.out; clear hL E q0 q1 q2 q3 q4 q5; have E := Lib.hid e2; clear e2; clear H; have H := Lib.hid hW; clear hW; obtain ⟨q0, q1, q2, q3, q4, q5⟩ := H.out.cells; rw [HOP.out] at q0; rw [ED.out] at q1; rw [ES.out] at q2) | ((with_reducible refine wl_id ?_); refine H.out.load _ rfl rfl rfl ?_) | (go_at_call 40; refine (rising_any _ H.out.len _).mono ?_; rintro e w4 ⟨v4, rfl, hI, hb4⟩; have HI := Lib.hid hI; have HB4 := Lib.hid (H.out.below.trans (hb4.mono H.out.below.size)); have HZ := Lib.hid H.out.below.size; clear hI hb4))
  go_ret
  refine ⟨_, rfl, ?_, HB4.out⟩
  have h9 := HI.out.mono (G := fun k => w.heap.size ≤ k ∧ k < w4.heap.size) fun k hk => ⟨Nat.le_trans HZ.out hk.1, hk.2⟩
  have e9 : readsL [68, 83] i = ((L16).set S true).set D true := by simp only [readsL, HOP.out, ED.out, ES.out]; rfl
  rw [e9, ← E.out]
  exact h9
set_option maxRecDepth 100000 in
set_option maxHeartbeats 3200000 in
theorem Reads_9 (i : Ins) (hop : i.op = 9) (hc : chkP i = true) (w : World) :
    Calls Tryz.prog 17 #[.agg (insRow i).toArray] w fun e w' => ∃ v, e = .returned v ∧ IntsAt w' (fun k => w.heap.size ≤ k ∧ k < w'.heap.size) v (risingF (readsL [68, 83] i)) ∧ Below w.heap.size w w' := by
  obtain ⟨_, _, hd1, hs1, ht1, _⟩ := chk_parts hc
  have hpl := chk_place hc
  rw [hop] at hd1 hs1 ht1 hpl
  obtain ⟨D, hD, hDl⟩ := hasOk_yes hd1 (by rfl)
  obtain ⟨S, hS, hSl⟩ := hasOk_yes hs1 (by rfl)
  have lD0 : (0 : Int) ≤ (D : Int) := by omega
  have lD1 : (D : Int) < 16 := by omega
  have LD := Lib.hid hDl
  have lS0 : (0 : Int) ≤ (S : Int) := by omega
  have lS1 : (S : Int) < 16 := by omega
  have LS := Lib.hid hSl
  have hop' := hop
  have HOP := Lib.hid hop
  have HC := Lib.hid hc
  have ED := Lib.hid hD
  have ES := Lib.hid hS
  clear hop hc hd1 hs1 ht1 hpl hDl hSl
  have HCHK := Lib.hid (fun w => rCheck_any i w)
  obtain ⟨W1, hW1, hb1, hs1, hn1, _⟩ := boxed w (insRow i).toArray 29
  have k1 : W1.heap[w.heap.size]? = some (.cells (insRow i).toArray 29 (0, 0)) := by rw [hW1]; exact heap_alloc_new w _
  have HK1 := Lib.hid k1
  have HW1 := Lib.hid hW1
  have HB1 := Lib.hid hb1
  have HN1 := Lib.hid hn1
  have m1 : w.heap.size < W1.heap.size := by omega
  clear hW1 hb1 hs1 hn1 k1
  go_enter Tryz.func17, Tryz.ntmps17
  go_wp2_with (rw [← HW1.out]; refine wpList_load_row rfl 29 _ rfl w.heap.size rfl 29 (insRow i).toArray (0, 0) _ HK1.out Tryz.underlying29 rfl infoIns ?_)
  refine (HCHK.out W1).mono ?_
  rintro e w2 ⟨rfl, hb2⟩
  rw [HC.out]
  have HB2 := Lib.hid hb2
  unfold errOf
  have n0 := HN1.out 0
  have n1 := HN1.out 1
  have n2 := HN1.out 2
  have n3 := HN1.out 3
  have n4 := HN1.out 4
  have n5 := HN1.out 5
  have q0 := (hb2.cell (p := ⟨w.heap.size, 0, none⟩) m1).trans n0
  have q1 := (hb2.cell (p := ⟨w.heap.size, 1, none⟩) m1).trans n1
  have q2 := (hb2.cell (p := ⟨w.heap.size, 2, none⟩) m1).trans n2
  have q3 := (hb2.cell (p := ⟨w.heap.size, 3, none⟩) m1).trans n3
  have q4 := (hb2.cell (p := ⟨w.heap.size, 4, none⟩) m1).trans n4
  have q5 := (hb2.cell (p := ⟨w.heap.size, 5, none⟩) m1).trans n5
  clear n0 n1 n2 n3 n4 n5 hb2
  simp only [insRow, List.getElem?_toArray, List.getElem?_cons_zero, List.getElem?_cons_succ] at q0 q1 q2 q3 q4 q5
  rw [hop'] at q0
  rw [hD] at q1
  rw [hS] at q2
  have m2 : w.heap.size < w2.heap.size := Nat.lt_of_lt_of_le m1 HB2.out.size
  obtain ⟨L0, e0⟩ : ∃ q, q = L16 := ⟨_, rfl⟩
  have E := Lib.hid e0
  have H := Lib.hid (Bools.new w w2 w.heap.size i E.out (HB1.out.trans (HB2.out.mono HB1.out.size)) ((HB2.out.block _ m1).trans HK1.out) m2)
  clear e0
  clear hop' hD hS
  go_upto_region 5 with (((with_reducible refine (Form_9 _).mono ?_); rintro e w3 ⟨rfl, rfl⟩))
  go_wp2_with (first | ((with_reducible refine (Has_lit ⟨#[68, 83]⟩ 83 83 rfl true _ (by decide) rfl).mono ?_); rintro e w3 ⟨rfl, rfl⟩) | ((with_reducible refine (Has_lit ⟨#[68, 83]⟩ 84 84 rfl false _ (by decide) rfl).mono ?_); rintro e w3 ⟨rfl, rfl⟩) | ((with_reducible refine (Has_lit ⟨#[68, 83]⟩ 77 77 rfl false _ (by decide) rfl).mono ?_); rintro e w3 ⟨rfl, rfl⟩) | ((with_reducible refine (Has_lit ⟨#[68, 83]⟩ 68 68 rfl true _ (by decide) rfl).mono ?_); rintro e w3 ⟨rfl, rfl⟩) | ((with_reducible refine wl_id ?_); refine H.out.store D LD.out _ _ rfl rfl rfl rfl ?_; intro W L2 hL hW; have e2 := chain_step hL E.out; clear hL E q0 q1 q2 q3 q4 q5; have E := Lib.hid e2; clear e2; clear H; have H := Lib.hid hW; clear hW; obtain ⟨q0, q1, q2, q3, q4, q5⟩ := H.out.cells; rw [HOP.out] at q0; rw [ED.out] at q1; rw [ES.out] at q2) | ((with_reducible refine wl_id ?_); refine H.out.store S LS.out _ _ rfl rfl rfl rfl ?_; intro W L2 hL hW; have e2 := chain_step hL E.out; clear hL E q0 q1 q2 q3 q4 q5; have E := Lib.hid e2; clear e2; clear H; have H := Lib.hid hW; clear hW; obtain ⟨q0, q1, q2, q3, q4, q5⟩ := H.out.cells; rw [HOP.out] at q0; rw [ED.out] at q1; rw [ES.out] at q2) | ((with_reducible refine wl_id ?_); refine H.out.store 2 (by decide) _ _ rfl rfl rfl rfl ?_; intro W L2 hL hW; have e2 := chain_step hL E.out; clear hL E q0 q1 q2 q3 q4 q5; have E := Lib.hid e2; clear e2; clear H; have H := Lib.hid hW; clear hW; obtain ⟨q0, q1, q2, q3, q4, q5⟩ := H.out.cells; rw [HOP.out] at q0; rw [ED.out] at q1; rw [ES.out] at q2) | ((with_reducible refine wl_id ?_); refine H.out.store 4 (by decide) _ _ rfl rfl rfl rfl ?_; intro W L2 hL hW; have e2 := chain_step hL E.out; clear hL E q0 q1 q2 q3 q4 q5; have E := Lib.hid e2; clear e2; clear H; have H := Lib.hid hW; clear hW; obtain ⟨q0, q1, q2, q3, q4, q5⟩ := H.out.cells; rw [HOP.out] at q0; rw [ED.out] at q1; rw [ES.out] at q2) | ((with_reducible refine wl_id ?_); refine H.out.load _ rfl rfl rfl ?_) | (go_at_call 40; refine (rising_any _ H.out.len _).mono ?_; rintro e w4 ⟨v4, rfl, hI, hb4⟩; have HI := Lib.hid hI; have HB4 := Lib.hid (H.out.below.trans (hb4.mono H.out.below.size)); have HZ := Lib.hid H.out.below.size; clear hI hb4))
  go_ret
  refine ⟨_, rfl, ?_, HB4.out⟩
  have h9 := HI.out.mono (G := fun k => w.heap.size ≤ k ∧ k < w4.heap.size) fun k hk => ⟨Nat.le_trans HZ.out hk.1, hk.2⟩
  have e9 : readsL [68, 83] i = ((L16).set S true).set D true := by simp only [readsL, HOP.out, ED.out, ES.out]; rfl
  rw [e9, ← E.out]
  exact h9
set_option maxRecDepth 100000 in
set_option maxHeartbeats 3200000 in
theorem Reads_10 (i : Ins) (hop : i.op = 10) (hc : chkP i = true) (w : World) :
    Calls Tryz.prog 17 #[.agg (insRow i).toArray] w fun e w' => ∃ v, e = .returned v ∧ IntsAt w' (fun k => w.heap.size ≤ k ∧ k < w'.heap.size) v (risingF (readsL [68, 83] i)) ∧ Below w.heap.size w w' := by
  obtain ⟨_, _, hd1, hs1, ht1, _⟩ := chk_parts hc
  have hpl := chk_place hc
  rw [hop] at hd1 hs1 ht1 hpl
  obtain ⟨D, hD, hDl⟩ := hasOk_yes hd1 (by rfl)
  obtain ⟨S, hS, hSl⟩ := hasOk_yes hs1 (by rfl)
  have lD0 : (0 : Int) ≤ (D : Int) := by omega
  have lD1 : (D : Int) < 16 := by omega
  have LD := Lib.hid hDl
  have lS0 : (0 : Int) ≤ (S : Int) := by omega
  have lS1 : (S : Int) < 16 := by omega
  have LS := Lib.hid hSl
  have hop' := hop
  have HOP := Lib.hid hop
  have HC := Lib.hid hc
  have ED := Lib.hid hD
  have ES := Lib.hid hS
  clear hop hc hd1 hs1 ht1 hpl hDl hSl
  have HCHK := Lib.hid (fun w => rCheck_any i w)
  obtain ⟨W1, hW1, hb1, hs1, hn1, _⟩ := boxed w (insRow i).toArray 29
  have k1 : W1.heap[w.heap.size]? = some (.cells (insRow i).toArray 29 (0, 0)) := by rw [hW1]; exact heap_alloc_new w _
  have HK1 := Lib.hid k1
  have HW1 := Lib.hid hW1
  have HB1 := Lib.hid hb1
  have HN1 := Lib.hid hn1
  have m1 : w.heap.size < W1.heap.size := by omega
  clear hW1 hb1 hs1 hn1 k1
  go_enter Tryz.func17, Tryz.ntmps17
  go_wp2_with (rw [← HW1.out]; refine wpList_load_row rfl 29 _ rfl w.heap.size rfl 29 (insRow i).toArray (0, 0) _ HK1.out Tryz.underlying29 rfl infoIns ?_)
  refine (HCHK.out W1).mono ?_
  rintro e w2 ⟨rfl, hb2⟩
  rw [HC.out]
  have HB2 := Lib.hid hb2
  unfold errOf
  have n0 := HN1.out 0
  have n1 := HN1.out 1
  have n2 := HN1.out 2
  have n3 := HN1.out 3
  have n4 := HN1.out 4
  have n5 := HN1.out 5
  have q0 := (hb2.cell (p := ⟨w.heap.size, 0, none⟩) m1).trans n0
  have q1 := (hb2.cell (p := ⟨w.heap.size, 1, none⟩) m1).trans n1
  have q2 := (hb2.cell (p := ⟨w.heap.size, 2, none⟩) m1).trans n2
  have q3 := (hb2.cell (p := ⟨w.heap.size, 3, none⟩) m1).trans n3
  have q4 := (hb2.cell (p := ⟨w.heap.size, 4, none⟩) m1).trans n4
  have q5 := (hb2.cell (p := ⟨w.heap.size, 5, none⟩) m1).trans n5
  clear n0 n1 n2 n3 n4 n5 hb2
  simp only [insRow, List.getElem?_toArray, List.getElem?_cons_zero, List.getElem?_cons_succ] at q0 q1 q2 q3 q4 q5
  rw [hop'] at q0
  rw [hD] at q1
  rw [hS] at q2
  have m2 : w.heap.size < w2.heap.size := Nat.lt_of_lt_of_le m1 HB2.out.size
  obtain ⟨L0, e0⟩ : ∃ q, q = L16 := ⟨_, rfl⟩
  have E := Lib.hid e0
  have H := Lib.hid (Bools.new w w2 w.heap.size i E.out (HB1.out.trans (HB2.out.mono HB1.out.size)) ((HB2.out.block _ m1).trans HK1.out) m2)
  clear e0
  clear hop' hD hS
  go_upto_region 5 with (((with_reducible refine (Form_10 _).mono ?_); rintro e w3 ⟨rfl, rfl⟩))
  go_wp2_with (first | ((with_reducible refine (Has_lit ⟨#[68, 83]⟩ 83 83 rfl true _ (by decide) rfl).mono ?_); rintro e w3 ⟨rfl, rfl⟩) | ((with_reducible refine (Has_lit ⟨#[68, 83]⟩ 84 84 rfl false _ (by decide) rfl).mono ?_); rintro e w3 ⟨rfl, rfl⟩) | ((with_reducible refine (Has_lit ⟨#[68, 83]⟩ 77 77 rfl false _ (by decide) rfl).mono ?_); rintro e w3 ⟨rfl, rfl⟩) | ((with_reducible refine (Has_lit ⟨#[68, 83]⟩ 68 68 rfl true _ (by decide) rfl).mono ?_); rintro e w3 ⟨rfl, rfl⟩) | ((with_reducible refine wl_id ?_); refine H.out.store D LD.out _ _ rfl rfl rfl rfl ?_; intro W L2 hL hW; have e2 := chain_step hL E.out; clear hL E q0 q1 q2 q3 q4 q5; have E := Lib.hid e2; clear e2; clear H; have H := Lib.hid hW; clear hW; obtain ⟨q0, q1, q2, q3, q4, q5⟩ := H.out.cells; rw [HOP.out] at q0; rw [ED.out] at q1; rw [ES.out] at q2) | ((with_reducible refine wl_id ?_); refine H.out.store S LS.out _ _ rfl rfl rfl rfl ?_; intro W L2 hL hW; have e2 := chain_step hL E.out; clear hL E q0 q1 q2 q3 q4 q5; have E := Lib.hid e2; clear e2; clear H; have H := Lib.hid hW; clear hW; obtain ⟨q0, q1, q2, q3, q4, q5⟩ := H.out.cells; rw [HOP.out] at q0; rw [ED.out] at q1; rw [ES.out] at q2) | ((with_reducible refine wl_id ?_); refine H.out.store 2 (by decide) _ _ rfl rfl rfl rfl ?_; intro W L2 hL hW; have e2 := chain_step hL E.out; clear hL E q0 q1 q2 q3 q4 q5; have E := Lib.hid e2; clear e2; clear H; have H := Lib.hid hW; clear hW; obtain ⟨q0, q1, q2, q3, q4, q5⟩ := H.out.cells; rw [HOP.out] at q0; rw [ED.out] at q1; rw [ES.out] at q2) | ((with_reducible refine wl_id ?_); refine H.out.store 4 (by decide) _ _ rfl rfl rfl rfl ?_; intro W L2 hL hW; have e2 := chain_step hL E.out; clear hL E q0 q1 q2 q3 q4 q5; have E := Lib.hid e2; clear e2; clear H; have H := Lib.hid hW; clear hW; obtain ⟨q0, q1, q2, q3, q4, q5⟩ := H.out.cells; rw [HOP.out] at q0; rw [ED.out] at q1; rw [ES.out] at q2) | ((with_reducible refine wl_id ?_); refine H.out.load _ rfl rfl rfl ?_) | (go_at_call 40; refine (rising_any _ H.out.len _).mono ?_; rintro e w4 ⟨v4, rfl, hI, hb4⟩; have HI := Lib.hid hI; have HB4 := Lib.hid (H.out.below.trans (hb4.mono H.out.below.size)); have HZ := Lib.hid H.out.below.size; clear hI hb4))
  go_ret
  refine ⟨_, rfl, ?_, HB4.out⟩
  have h9 := HI.out.mono (G := fun k => w.heap.size ≤ k ∧ k < w4.heap.size) fun k hk => ⟨Nat.le_trans HZ.out hk.1, hk.2⟩
  have e9 : readsL [68, 83] i = ((L16).set S true).set D true := by simp only [readsL, HOP.out, ED.out, ES.out]; rfl
  rw [e9, ← E.out]
  exact h9
set_option maxRecDepth 100000 in
set_option maxHeartbeats 3200000 in
theorem Reads_11 (i : Ins) (hop : i.op = 11) (hc : chkP i = true) (w : World) :
    Calls Tryz.prog 17 #[.agg (insRow i).toArray] w fun e w' => ∃ v, e = .returned v ∧ IntsAt w' (fun k => w.heap.size ≤ k ∧ k < w'.heap.size) v (risingF (readsL [68, 83] i)) ∧ Below w.heap.size w w' := by
  obtain ⟨_, _, hd1, hs1, ht1, _⟩ := chk_parts hc
  have hpl := chk_place hc
  rw [hop] at hd1 hs1 ht1 hpl
  obtain ⟨D, hD, hDl⟩ := hasOk_yes hd1 (by rfl)
  obtain ⟨S, hS, hSl⟩ := hasOk_yes hs1 (by rfl)
  have lD0 : (0 : Int) ≤ (D : Int) := by omega
  have lD1 : (D : Int) < 16 := by omega
  have LD := Lib.hid hDl
  have lS0 : (0 : Int) ≤ (S : Int) := by omega
  have lS1 : (S : Int) < 16 := by omega
  have LS := Lib.hid hSl
  have hop' := hop
  have HOP := Lib.hid hop
  have HC := Lib.hid hc
  have ED := Lib.hid hD
  have ES := Lib.hid hS
  clear hop hc hd1 hs1 ht1 hpl hDl hSl
  have HCHK := Lib.hid (fun w => rCheck_any i w)
  obtain ⟨W1, hW1, hb1, hs1, hn1, _⟩ := boxed w (insRow i).toArray 29
  have k1 : W1.heap[w.heap.size]? = some (.cells (insRow i).toArray 29 (0, 0)) := by rw [hW1]; exact heap_alloc_new w _
  have HK1 := Lib.hid k1
  have HW1 := Lib.hid hW1
  have HB1 := Lib.hid hb1
  have HN1 := Lib.hid hn1
  have m1 : w.heap.size < W1.heap.size := by omega
  clear hW1 hb1 hs1 hn1 k1
  go_enter Tryz.func17, Tryz.ntmps17
  go_wp2_with (rw [← HW1.out]; refine wpList_load_row rfl 29 _ rfl w.heap.size rfl 29 (insRow i).toArray (0, 0) _ HK1.out Tryz.underlying29 rfl infoIns ?_)
  refine (HCHK.out W1).mono ?_
  rintro e w2 ⟨rfl, hb2⟩
  rw [HC.out]
  have HB2 := Lib.hid hb2
  unfold errOf
  have n0 := HN1.out 0
  have n1 := HN1.out 1
  have n2 := HN1.out 2
  have n3 := HN1.out 3
  have n4 := HN1.out 4
  have n5 := HN1.out 5
  have q0 := (hb2.cell (p := ⟨w.heap.size, 0, none⟩) m1).trans n0
  have q1 := (hb2.cell (p := ⟨w.heap.size, 1, none⟩) m1).trans n1
  have q2 := (hb2.cell (p := ⟨w.heap.size, 2, none⟩) m1).trans n2
  have q3 := (hb2.cell (p := ⟨w.heap.size, 3, none⟩) m1).trans n3
  have q4 := (hb2.cell (p := ⟨w.heap.size, 4, none⟩) m1).trans n4
  have q5 := (hb2.cell (p := ⟨w.heap.size, 5, none⟩) m1).trans n5
  clear n0 n1 n2 n3 n4 n5 hb2
  simp only [insRow, List.getElem?_toArray, List.getElem?_cons_zero, List.getElem?_cons_succ] at q0 q1 q2 q3 q4 q5
  rw [hop'] at q0
  rw [hD] at q1
  rw [hS] at q2
  have m2 : w.heap.size < w2.heap.size := Nat.lt_of_lt_of_le m1 HB2.out.size
  obtain ⟨L0, e0⟩ : ∃ q, q = L16 := ⟨_, rfl⟩
  have E := Lib.hid e0
  have H := Lib.hid (Bools.new w w2 w.heap.size i E.out (HB1.out.trans (HB2.out.mono HB1.out.size)) ((HB2.out.block _ m1).trans HK1.out) m2)
  clear e0
  clear hop' hD hS
  go_upto_region 5 with (((with_reducible refine (Form_11 _).mono ?_); rintro e w3 ⟨rfl, rfl⟩))
  go_wp2_with (first | ((with_reducible refine (Has_lit ⟨#[68, 83]⟩ 83 83 rfl true _ (by decide) rfl).mono ?_); rintro e w3 ⟨rfl, rfl⟩) | ((with_reducible refine (Has_lit ⟨#[68, 83]⟩ 84 84 rfl false _ (by decide) rfl).mono ?_); rintro e w3 ⟨rfl, rfl⟩) | ((with_reducible refine (Has_lit ⟨#[68, 83]⟩ 77 77 rfl false _ (by decide) rfl).mono ?_); rintro e w3 ⟨rfl, rfl⟩) | ((with_reducible refine (Has_lit ⟨#[68, 83]⟩ 68 68 rfl true _ (by decide) rfl).mono ?_); rintro e w3 ⟨rfl, rfl⟩) | ((with_reducible refine wl_id ?_); refine H.out.store D LD.out _ _ rfl rfl rfl rfl ?_; intro W L2 hL hW; have e2 := chain_step hL E.out; clear hL E q0 q1 q2 q3 q4 q5; have E := Lib.hid e2; clear e2; clear H; have H := Lib.hid hW; clear hW; obtain ⟨q0, q1, q2, q3, q4, q5⟩ := H.out.cells; rw [HOP.out] at q0; rw [ED.out] at q1; rw [ES.out] at q2) | ((with_reducible refine wl_id ?_); refine H.out.store S LS.out _ _ rfl rfl rfl rfl ?_; intro W L2 hL hW; have e2 := chain_step hL E.out; clear hL E q0 q1 q2 q3 q4 q5; have E := Lib.hid e2; clear e2; clear H; have H := Lib.hid hW; clear hW; obtain ⟨q0, q1, q2, q3, q4, q5⟩ := H.out.cells; rw [HOP.out] at q0; rw [ED.out] at q1; rw [ES.out] at q2) | ((with_reducible refine wl_id ?_); refine H.out.store 2 (by decide) _ _ rfl rfl rfl rfl ?_; intro W L2 hL hW; have e2 := chain_step hL E.out; clear hL E q0 q1 q2 q3 q4 q5; have E := Lib.hid e2; clear e2; clear H; have H := Lib.hid hW; clear hW; obtain ⟨q0, q1, q2, q3, q4, q5⟩ := H.out.cells; rw [HOP.out] at q0; rw [ED.out] at q1; rw [ES.out] at q2) | ((with_reducible refine wl_id ?_); refine H.out.store 4 (by decide) _ _ rfl rfl rfl rfl ?_; intro W L2 hL hW; have e2 := chain_step hL E.out; clear hL E q0 q1 q2 q3 q4 q5; have E := Lib.hid e2; clear e2; clear H; have H := Lib.hid hW; clear hW; obtain ⟨q0, q1, q2, q3, q4, q5⟩ := H.out.cells; rw [HOP.out] at q0; rw [ED.out] at q1; rw [ES.out] at q2) | ((with_reducible refine wl_id ?_); refine H.out.load _ rfl rfl rfl ?_) | (go_at_call 40; refine (rising_any _ H.out.len _).mono ?_; rintro e w4 ⟨v4, rfl, hI, hb4⟩; have HI := Lib.hid hI; have HB4 := Lib.hid (H.out.below.trans (hb4.mono H.out.below.size)); have HZ := Lib.hid H.out.below.size; clear hI hb4))
  go_ret
  refine ⟨_, rfl, ?_, HB4.out⟩
  have h9 := HI.out.mono (G := fun k => w.heap.size ≤ k ∧ k < w4.heap.size) fun k hk => ⟨Nat.le_trans HZ.out hk.1, hk.2⟩
  have e9 : readsL [68, 83] i = ((L16).set S true).set D true := by simp only [readsL, HOP.out, ED.out, ES.out]; rfl
  rw [e9, ← E.out]
  exact h9
set_option maxRecDepth 100000 in
set_option maxHeartbeats 3200000 in
theorem Reads_12 (i : Ins) (hop : i.op = 12) (hc : chkP i = true) (w : World) :
    Calls Tryz.prog 17 #[.agg (insRow i).toArray] w fun e w' => ∃ v, e = .returned v ∧ IntsAt w' (fun k => w.heap.size ≤ k ∧ k < w'.heap.size) v (risingF (readsL [68, 83] i)) ∧ Below w.heap.size w w' := by
  obtain ⟨_, _, hd1, hs1, ht1, _⟩ := chk_parts hc
  have hpl := chk_place hc
  rw [hop] at hd1 hs1 ht1 hpl
  obtain ⟨D, hD, hDl⟩ := hasOk_yes hd1 (by rfl)
  obtain ⟨S, hS, hSl⟩ := hasOk_yes hs1 (by rfl)
  have lD0 : (0 : Int) ≤ (D : Int) := by omega
  have lD1 : (D : Int) < 16 := by omega
  have LD := Lib.hid hDl
  have lS0 : (0 : Int) ≤ (S : Int) := by omega
  have lS1 : (S : Int) < 16 := by omega
  have LS := Lib.hid hSl
  have hop' := hop
  have HOP := Lib.hid hop
  have HC := Lib.hid hc
  have ED := Lib.hid hD
  have ES := Lib.hid hS
  clear hop hc hd1 hs1 ht1 hpl hDl hSl
  have HCHK := Lib.hid (fun w => rCheck_any i w)
  obtain ⟨W1, hW1, hb1, hs1, hn1, _⟩ := boxed w (insRow i).toArray 29
  have k1 : W1.heap[w.heap.size]? = some (.cells (insRow i).toArray 29 (0, 0)) := by rw [hW1]; exact heap_alloc_new w _
  have HK1 := Lib.hid k1
  have HW1 := Lib.hid hW1
  have HB1 := Lib.hid hb1
  have HN1 := Lib.hid hn1
  have m1 : w.heap.size < W1.heap.size := by omega
  clear hW1 hb1 hs1 hn1 k1
  go_enter Tryz.func17, Tryz.ntmps17
  go_wp2_with (rw [← HW1.out]; refine wpList_load_row rfl 29 _ rfl w.heap.size rfl 29 (insRow i).toArray (0, 0) _ HK1.out Tryz.underlying29 rfl infoIns ?_)
  refine (HCHK.out W1).mono ?_
  rintro e w2 ⟨rfl, hb2⟩
  rw [HC.out]
  have HB2 := Lib.hid hb2
  unfold errOf
  have n0 := HN1.out 0
  have n1 := HN1.out 1
  have n2 := HN1.out 2
  have n3 := HN1.out 3
  have n4 := HN1.out 4
  have n5 := HN1.out 5
  have q0 := (hb2.cell (p := ⟨w.heap.size, 0, none⟩) m1).trans n0
  have q1 := (hb2.cell (p := ⟨w.heap.size, 1, none⟩) m1).trans n1
  have q2 := (hb2.cell (p := ⟨w.heap.size, 2, none⟩) m1).trans n2
  have q3 := (hb2.cell (p := ⟨w.heap.size, 3, none⟩) m1).trans n3
  have q4 := (hb2.cell (p := ⟨w.heap.size, 4, none⟩) m1).trans n4
  have q5 := (hb2.cell (p := ⟨w.heap.size, 5, none⟩) m1).trans n5
  clear n0 n1 n2 n3 n4 n5 hb2
  simp only [insRow, List.getElem?_toArray, List.getElem?_cons_zero, List.getElem?_cons_succ] at q0 q1 q2 q3 q4 q5
  rw [hop'] at q0
  rw [hD] at q1
  rw [hS] at q2
  have m2 : w.heap.size < w2.heap.size := Nat.lt_of_lt_of_le m1 HB2.out.size
  obtain ⟨L0, e0⟩ : ∃ q, q = L16 := ⟨_, rfl⟩
  have E := Lib.hid e0
  have H := Lib.hid (Bools.new w w2 w.heap.size i E.out (HB1.out.trans (HB2.out.mono HB1.out.size)) ((HB2.out.block _ m1).trans HK1.out) m2)
  clear e0
  clear hop' hD hS
  go_upto_region 5 with (((with_reducible refine (Form_12 _).mono ?_); rintro e w3 ⟨rfl, rfl⟩))
  go_wp2_with (first | ((with_reducible refine (Has_lit ⟨#[68, 83]⟩ 83 83 rfl true _ (by decide) rfl).mono ?_); rintro e w3 ⟨rfl, rfl⟩) | ((with_reducible refine (Has_lit ⟨#[68, 83]⟩ 84 84 rfl false _ (by decide) rfl).mono ?_); rintro e w3 ⟨rfl, rfl⟩) | ((with_reducible refine (Has_lit ⟨#[68, 83]⟩ 77 77 rfl false _ (by decide) rfl).mono ?_); rintro e w3 ⟨rfl, rfl⟩) | ((with_reducible refine (Has_lit ⟨#[68, 83]⟩ 68 68 rfl true _ (by decide) rfl).mono ?_); rintro e w3 ⟨rfl, rfl⟩) | ((with_reducible refine wl_id ?_); refine H.out.store D LD.out _ _ rfl rfl rfl rfl ?_; intro W L2 hL hW; have e2 := chain_step hL E.out; clear hL E q0 q1 q2 q3 q4 q5; have E := Lib.hid e2; clear e2; clear H; have H := Lib.hid hW; clear hW; obtain ⟨q0, q1, q2, q3, q4, q5⟩ := H.out.cells; rw [HOP.out] at q0; rw [ED.out] at q1; rw [ES.out] at q2) | ((with_reducible refine wl_id ?_); refine H.out.store S LS.out _ _ rfl rfl rfl rfl ?_; intro W L2 hL hW; have e2 := chain_step hL E.out; clear hL E q0 q1 q2 q3 q4 q5; have E := Lib.hid e2; clear e2; clear H; have H := Lib.hid hW; clear hW; obtain ⟨q0, q1, q2, q3, q4, q5⟩ := H.out.cells; rw [HOP.out] at q0; rw [ED.out] at q1; rw [ES.out] at q2) | ((with_reducible refine wl_id ?_); refine H.out.store 2 (by decide) _ _ rfl rfl rfl rfl ?_; intro W L2 hL hW; have e2 := chain_step hL E.out; clear hL E q0 q1 q2 q3 q4 q5; have E := Lib.hid e2; clear e2; clear H; have H := Lib.hid hW; clear hW; obtain ⟨q0, q1, q2, q3, q4, q5⟩ := H.out.cells; rw [HOP.out] at q0; rw [ED.out] at q1; rw [ES.out] at q2) | ((with_reducible refine wl_id ?_); refine H.out.store 4 (by decide) _ _ rfl rfl rfl rfl ?_; intro W L2 hL hW; have e2 := chain_step hL E.out; clear hL E q0 q1 q2 q3 q4 q5; have E := Lib.hid e2; clear e2; clear H; have H := Lib.hid hW; clear hW; obtain ⟨q0, q1, q2, q3, q4, q5⟩ := H.out.cells; rw [HOP.out] at q0; rw [ED.out] at q1; rw [ES.out] at q2) | ((with_reducible refine wl_id ?_); refine H.out.load _ rfl rfl rfl ?_) | (go_at_call 40; refine (rising_any _ H.out.len _).mono ?_; rintro e w4 ⟨v4, rfl, hI, hb4⟩; have HI := Lib.hid hI; have HB4 := Lib.hid (H.out.below.trans (hb4.mono H.out.below.size)); have HZ := Lib.hid H.out.below.size; clear hI hb4))
  go_ret
  refine ⟨_, rfl, ?_, HB4.out⟩
  have h9 := HI.out.mono (G := fun k => w.heap.size ≤ k ∧ k < w4.heap.size) fun k hk => ⟨Nat.le_trans HZ.out hk.1, hk.2⟩
  have e9 : readsL [68, 83] i = ((L16).set S true).set D true := by simp only [readsL, HOP.out, ED.out, ES.out]; rfl
  rw [e9, ← E.out]
  exact h9
set_option maxRecDepth 100000 in
set_option maxHeartbeats 3200000 in
theorem Reads_13 (i : Ins) (hop : i.op = 13) (hc : chkP i = true) (w : World) :
    Calls Tryz.prog 17 #[.agg (insRow i).toArray] w fun e w' => ∃ v, e = .returned v ∧ IntsAt w' (fun k => w.heap.size ≤ k ∧ k < w'.heap.size) v (risingF (readsL [68, 83] i)) ∧ Below w.heap.size w w' := by
  obtain ⟨_, _, hd1, hs1, ht1, _⟩ := chk_parts hc
  have hpl := chk_place hc
  rw [hop] at hd1 hs1 ht1 hpl
  obtain ⟨D, hD, hDl⟩ := hasOk_yes hd1 (by rfl)
  obtain ⟨S, hS, hSl⟩ := hasOk_yes hs1 (by rfl)
  have lD0 : (0 : Int) ≤ (D : Int) := by omega
  have lD1 : (D : Int) < 16 := by omega
  have LD := Lib.hid hDl
  have lS0 : (0 : Int) ≤ (S : Int) := by omega
  have lS1 : (S : Int) < 16 := by omega
  have LS := Lib.hid hSl
  have hop' := hop
  have HOP := Lib.hid hop
  have HC := Lib.hid hc
  have ED := Lib.hid hD
  have ES := Lib.hid hS
  clear hop hc hd1 hs1 ht1 hpl hDl hSl
  have HCHK := Lib.hid (fun w => rCheck_any i w)
  obtain ⟨W1, hW1, hb1, hs1, hn1, _⟩ := boxed w (insRow i).toArray 29
  have k1 : W1.heap[w.heap.size]? = some (.cells (insRow i).toArray 29 (0, 0)) := by rw [hW1]; exact heap_alloc_new w _
  have HK1 := Lib.hid k1
  have HW1 := Lib.hid hW1
  have HB1 := Lib.hid hb1
  have HN1 := Lib.hid hn1
  have m1 : w.heap.size < W1.heap.size := by omega
  clear hW1 hb1 hs1 hn1 k1
  go_enter Tryz.func17, Tryz.ntmps17
  go_wp2_with (rw [← HW1.out]; refine wpList_load_row rfl 29 _ rfl w.heap.size rfl 29 (insRow i).toArray (0, 0) _ HK1.out Tryz.underlying29 rfl infoIns ?_)
  refine (HCHK.out W1).mono ?_
  rintro e w2 ⟨rfl, hb2⟩
  rw [HC.out]
  have HB2 := Lib.hid hb2
  unfold errOf
  have n0 := HN1.out 0
  have n1 := HN1.out 1
  have n2 := HN1.out 2
  have n3 := HN1.out 3
  have n4 := HN1.out 4
  have n5 := HN1.out 5
  have q0 := (hb2.cell (p := ⟨w.heap.size, 0, none⟩) m1).trans n0
  have q1 := (hb2.cell (p := ⟨w.heap.size, 1, none⟩) m1).trans n1
  have q2 := (hb2.cell (p := ⟨w.heap.size, 2, none⟩) m1).trans n2
  have q3 := (hb2.cell (p := ⟨w.heap.size, 3, none⟩) m1).trans n3
  have q4 := (hb2.cell (p := ⟨w.heap.size, 4, none⟩) m1).trans n4
  have q5 := (hb2.cell (p := ⟨w.heap.size, 5, none⟩) m1).trans n5
  clear n0 n1 n2 n3 n4 n5 hb2
  simp only [insRow, List.getElem?_toArray, List.getElem?_cons_zero, List.getElem?_cons_succ] at q0 q1 q2 q3 q4 q5
  rw [hop'] at q0
  rw [hD] at q1
  rw [hS] at q2
  have m2 : w.heap.size < w2.heap.size := Nat.lt_of_lt_of_le m1 HB2.out.size
  obtain ⟨L0, e0⟩ : ∃ q, q = L16 := ⟨_, rfl⟩
  have E := Lib.hid e0
  have H := Lib.hid (Bools.new w w2 w.heap.size i E.out (HB1.out.trans (HB2.out.mono HB1.out.size)) ((HB2.out.block _ m1).trans HK1.out) m2)
  clear e0
  clear hop' hD hS
  go_upto_region 5 with (((with_reducible refine (Form_13 _).mono ?_); rintro e w3 ⟨rfl, rfl⟩))
  go_wp2_with (first | ((with_reducible refine (Has_lit ⟨#[68, 83]⟩ 83 83 rfl true _ (by decide) rfl).mono ?_); rintro e w3 ⟨rfl, rfl⟩) | ((with_reducible refine (Has_lit ⟨#[68, 83]⟩ 84 84 rfl false _ (by decide) rfl).mono ?_); rintro e w3 ⟨rfl, rfl⟩) | ((with_reducible refine (Has_lit ⟨#[68, 83]⟩ 77 77 rfl false _ (by decide) rfl).mono ?_); rintro e w3 ⟨rfl, rfl⟩) | ((with_reducible refine (Has_lit ⟨#[68, 83]⟩ 68 68 rfl true _ (by decide) rfl).mono ?_); rintro e w3 ⟨rfl, rfl⟩) | ((with_reducible refine wl_id ?_); refine H.out.store D LD.out _ _ rfl rfl rfl rfl ?_; intro W L2 hL hW; have e2 := chain_step hL E.out; clear hL E q0 q1 q2 q3 q4 q5; have E := Lib.hid e2; clear e2; clear H; have H := Lib.hid hW; clear hW; obtain ⟨q0, q1, q2, q3, q4, q5⟩ := H.out.cells; rw [HOP.out] at q0; rw [ED.out] at q1; rw [ES.out] at q2) | ((with_reducible refine wl_id ?_); refine H.out.store S LS.out _ _ rfl rfl rfl rfl ?_; intro W L2 hL hW; have e2 := chain_step hL E.out; clear hL E q0 q1 q2 q3 q4 q5; have E := Lib.hid e2; clear e2; clear H; have H := Lib.hid hW; clear hW; obtain ⟨q0, q1, q2, q3, q4, q5⟩ := H.out.cells; rw [HOP.out] at q0; rw [ED.out] at q1; rw [ES.out] at q2) | ((with_reducible refine wl_id ?_); refine H.out.store 2 (by decide) _ _ rfl rfl rfl rfl ?_; intro W L2 hL hW; have e2 := chain_step hL E.out; clear hL E q0 q1 q2 q3 q4 q5; have E := Lib.hid e2; clear e2; clear H; have H := Lib.hid hW; clear hW; obtain ⟨q0, q1, q2, q3, q4, q5⟩ := H.out.cells; rw [HOP.out] at q0; rw [ED.out] at q1; rw [ES.out] at q2) | ((with_reducible refine wl_id ?_); refine H.out.store 4 (by decide) _ _ rfl rfl rfl rfl ?_; intro W L2 hL hW; have e2 := chain_step hL E.out; clear hL E q0 q1 q2 q3 q4 q5; have E := Lib.hid e2; clear e2; clear H; have H := Lib.hid hW; clear hW; obtain ⟨q0, q1, q2, q3, q4, q5⟩ := H.out.cells; rw [HOP.out] at q0; rw [ED.out] at q1; rw [ES.out] at q2) | ((with_reducible refine wl_id ?_); refine H.out.load _ rfl rfl rfl ?_) | (go_at_call 40; refine (rising_any _ H.out.len _).mono ?_; rintro e w4 ⟨v4, rfl, hI, hb4⟩; have HI := Lib.hid hI; have HB4 := Lib.hid (H.out.below.trans (hb4.mono H.out.below.size)); have HZ := Lib.hid H.out.below.size; clear hI hb4))
  go_ret
  refine ⟨_, rfl, ?_, HB4.out⟩
  have h9 := HI.out.mono (G := fun k => w.heap.size ≤ k ∧ k < w4.heap.size) fun k hk => ⟨Nat.le_trans HZ.out hk.1, hk.2⟩
  have e9 : readsL [68, 83] i = ((L16).set S true).set D true := by simp only [readsL, HOP.out, ED.out, ES.out]; rfl
  rw [e9, ← E.out]
  exact h9
set_option maxRecDepth 100000 in
set_option maxHeartbeats 3200000 in
theorem Reads_14 (i : Ins) (hop : i.op = 14) (hc : chkP i = true) (w : World) :
    Calls Tryz.prog 17 #[.agg (insRow i).toArray] w fun e w' => ∃ v, e = .returned v ∧ IntsAt w' (fun k => w.heap.size ≤ k ∧ k < w'.heap.size) v (risingF (readsL [68, 83] i)) ∧ Below w.heap.size w w' := by
  obtain ⟨_, _, hd1, hs1, ht1, _⟩ := chk_parts hc
  have hpl := chk_place hc
  rw [hop] at hd1 hs1 ht1 hpl
  obtain ⟨D, hD, hDl⟩ := hasOk_yes hd1 (by rfl)
  obtain ⟨S, hS, hSl⟩ := hasOk_yes hs1 (by rfl)
  have lD0 : (0 : Int) ≤ (D : Int) := by omega
  have lD1 : (D : Int) < 16 := by omega
  have LD := Lib.hid hDl
  have lS0 : (0 : Int) ≤ (S : Int) := by omega
  have lS1 : (S : Int) < 16 := by omega
  have LS := Lib.hid hSl
  have hop' := hop
  have HOP := Lib.hid hop
  have HC := Lib.hid hc
  have ED := Lib.hid hD
  have ES := Lib.hid hS
  clear hop hc hd1 hs1 ht1 hpl hDl hSl
  have HCHK := Lib.hid (fun w => rCheck_any i w)
  obtain ⟨W1, hW1, hb1, hs1, hn1, _⟩ := boxed w (insRow i).toArray 29
  have k1 : W1.heap[w.heap.size]? = some (.cells (insRow i).toArray 29 (0, 0)) := by rw [hW1]; exact heap_alloc_new w _
  have HK1 := Lib.hid k1
  have HW1 := Lib.hid hW1
  have HB1 := Lib.hid hb1
  have HN1 := Lib.hid hn1
  have m1 : w.heap.size < W1.heap.size := by omega
  clear hW1 hb1 hs1 hn1 k1
  go_enter Tryz.func17, Tryz.ntmps17
  go_wp2_with (rw [← HW1.out]; refine wpList_load_row rfl 29 _ rfl w.heap.size rfl 29 (insRow i).toArray (0, 0) _ HK1.out Tryz.underlying29 rfl infoIns ?_)
  refine (HCHK.out W1).mono ?_
  rintro e w2 ⟨rfl, hb2⟩
  rw [HC.out]
  have HB2 := Lib.hid hb2
  unfold errOf
  have n0 := HN1.out 0
  have n1 := HN1.out 1
  have n2 := HN1.out 2
  have n3 := HN1.out 3
  have n4 := HN1.out 4
  have n5 := HN1.out 5
  have q0 := (hb2.cell (p := ⟨w.heap.size, 0, none⟩) m1).trans n0
  have q1 := (hb2.cell (p := ⟨w.heap.size, 1, none⟩) m1).trans n1
  have q2 := (hb2.cell (p := ⟨w.heap.size, 2, none⟩) m1).trans n2
  have q3 := (hb2.cell (p := ⟨w.heap.size, 3, none⟩) m1).trans n3
  have q4 := (hb2.cell (p := ⟨w.heap.size, 4, none⟩) m1).trans n4
  have q5 := (hb2.cell (p := ⟨w.heap.size, 5, none⟩) m1).trans n5
  clear n0 n1 n2 n3 n4 n5 hb2
  simp only [insRow, List.getElem?_toArray, List.getElem?_cons_zero, List.getElem?_cons_succ] at q0 q1 q2 q3 q4 q5
  rw [hop'] at q0
  rw [hD] at q1
  rw [hS] at q2
  have m2 : w.heap.size < w2.heap.size := Nat.lt_of_lt_of_le m1 HB2.out.size
  obtain ⟨L0, e0⟩ : ∃ q, q = L16 := ⟨_, rfl⟩
  have E := Lib.hid e0
  have H := Lib.hid (Bools.new w w2 w.heap.size i E.out (HB1.out.trans (HB2.out.mono HB1.out.size)) ((HB2.out.block _ m1).trans HK1.out) m2)
  clear e0
  clear hop' hD hS
  go_upto_region 5 with (((with_reducible refine (Form_14 _).mono ?_); rintro e w3 ⟨rfl, rfl⟩))
  go_wp2_with (first | ((with_reducible refine (Has_lit ⟨#[68, 83]⟩ 83 83 rfl true _ (by decide) rfl).mono ?_); rintro e w3 ⟨rfl, rfl⟩) | ((with_reducible refine (Has_lit ⟨#[68, 83]⟩ 84 84 rfl false _ (by decide) rfl).mono ?_); rintro e w3 ⟨rfl, rfl⟩) | ((with_reducible refine (Has_lit ⟨#[68, 83]⟩ 77 77 rfl false _ (by decide) rfl).mono ?_); rintro e w3 ⟨rfl, rfl⟩) | ((with_reducible refine (Has_lit ⟨#[68, 83]⟩ 68 68 rfl true _ (by decide) rfl).mono ?_); rintro e w3 ⟨rfl, rfl⟩) | ((with_reducible refine wl_id ?_); refine H.out.store D LD.out _ _ rfl rfl rfl rfl ?_; intro W L2 hL hW; have e2 := chain_step hL E.out; clear hL E q0 q1 q2 q3 q4 q5; have E := Lib.hid e2; clear e2; clear H; have H := Lib.hid hW; clear hW; obtain ⟨q0, q1, q2, q3, q4, q5⟩ := H.out.cells; rw [HOP.out] at q0; rw [ED.out] at q1; rw [ES.out] at q2) | ((with_reducible refine wl_id ?_); refine H.out.store S LS.out _ _ rfl rfl rfl rfl ?_; intro W L2 hL hW; have e2 := chain_step hL E.out; clear hL E q0 q1 q2 q3 q4 q5; have E := Lib.hid e2; clear e2; clear H; have H := Lib.hid hW; clear hW; obtain ⟨q0, q1, q2, q3, q4, q5⟩ := H.out.cells; rw [HOP.out] at q0; rw [ED.out] at q1; rw [ES.out] at q2) | ((with_reducible refine wl_id ?_); refine H.out.store 2 (by decide) _ _ rfl rfl rfl rfl ?_; intro W L2 hL hW; have e2 := chain_step hL E.out; clear hL E q0 q1 q2 q3 q4 q5; have E := Lib.hid e2; clear e2; clear H; have H := Lib.hid hW; clear hW; obtain ⟨q0, q1, q2, q3, q4, q5⟩ := H.out.cells; rw [HOP.out] at q0; rw [ED.out] at q1; rw [ES.out] at q2) | ((with_reducible refine wl_id ?_); refine H.out.store 4 (by decide) _ _ rfl rfl rfl rfl ?_; intro W L2 hL hW; have e2 := chain_step hL E.out; clear hL E q0 q1 q2 q3 q4 q5; have E := Lib.hid e2; clear e2; clear H; have H := Lib.hid hW; clear hW; obtain ⟨q0, q1, q2, q3, q4, q5⟩ := H.out.cells; rw [HOP.out] at q0; rw [ED.out] at q1; rw [ES.out] at q2) | ((with_reducible refine wl_id ?_); refine H.out.load _ rfl rfl rfl ?_) | (go_at_call 40; refine (rising_any _ H.out.len _).mono ?_; rintro e w4 ⟨v4, rfl, hI, hb4⟩; have HI := Lib.hid hI; have HB4 := Lib.hid (H.out.below.trans (hb4.mono H.out.below.size)); have HZ := Lib.hid H.out.below.size; clear hI hb4))
  go_ret
  refine ⟨_, rfl, ?_, HB4.out⟩
  have h9 := HI.out.mono (G := fun k => w.heap.size ≤ k ∧ k < w4.heap.size) fun k hk => ⟨Nat.le_trans HZ.out hk.1, hk.2⟩
  have e9 : readsL [68, 83] i = ((L16).set S true).set D true := by simp only [readsL, HOP.out, ED.out, ES.out]; rfl
  rw [e9, ← E.out]
  exact h9
set_option maxRecDepth 100000 in
set_option maxHeartbeats 3200000 in
theorem Reads_15 (i : Ins) (hop : i.op = 15) (hc : chkP i = true) (w : World) :
    Calls Tryz.prog 17 #[.agg (insRow i).toArray] w fun e w' => ∃ v, e = .returned v ∧ IntsAt w' (fun k => w.heap.size ≤ k ∧ k < w'.heap.size) v (risingF (readsL [68, 105] i)) ∧ Below w.heap.size w w' := by
  obtain ⟨_, _, hd1, hs1, ht1, _⟩ := chk_parts hc
  have hpl := chk_place hc
  rw [hop] at hd1 hs1 ht1 hpl
  obtain ⟨D, hD, hDl⟩ := hasOk_yes hd1 (by rfl)
  have lD0 : (0 : Int) ≤ (D : Int) := by omega
  have lD1 : (D : Int) < 16 := by omega
  have LD := Lib.hid hDl
  have hop' := hop
  have HOP := Lib.hid hop
  have HC := Lib.hid hc
  have ED := Lib.hid hD
  clear hop hc hd1 hs1 ht1 hpl hDl
  have HCHK := Lib.hid (fun w => rCheck_any i w)
  obtain ⟨W1, hW1, hb1, hs1, hn1, _⟩ := boxed w (insRow i).toArray 29
  have k1 : W1.heap[w.heap.size]? = some (.cells (insRow i).toArray 29 (0, 0)) := by rw [hW1]; exact heap_alloc_new w _
  have HK1 := Lib.hid k1
  have HW1 := Lib.hid hW1
  have HB1 := Lib.hid hb1
  have HN1 := Lib.hid hn1
  have m1 : w.heap.size < W1.heap.size := by omega
  clear hW1 hb1 hs1 hn1 k1
  go_enter Tryz.func17, Tryz.ntmps17
  go_wp2_with (rw [← HW1.out]; refine wpList_load_row rfl 29 _ rfl w.heap.size rfl 29 (insRow i).toArray (0, 0) _ HK1.out Tryz.underlying29 rfl infoIns ?_)
  refine (HCHK.out W1).mono ?_
  rintro e w2 ⟨rfl, hb2⟩
  rw [HC.out]
  have HB2 := Lib.hid hb2
  unfold errOf
  have n0 := HN1.out 0
  have n1 := HN1.out 1
  have n2 := HN1.out 2
  have n3 := HN1.out 3
  have n4 := HN1.out 4
  have n5 := HN1.out 5
  have q0 := (hb2.cell (p := ⟨w.heap.size, 0, none⟩) m1).trans n0
  have q1 := (hb2.cell (p := ⟨w.heap.size, 1, none⟩) m1).trans n1
  have q2 := (hb2.cell (p := ⟨w.heap.size, 2, none⟩) m1).trans n2
  have q3 := (hb2.cell (p := ⟨w.heap.size, 3, none⟩) m1).trans n3
  have q4 := (hb2.cell (p := ⟨w.heap.size, 4, none⟩) m1).trans n4
  have q5 := (hb2.cell (p := ⟨w.heap.size, 5, none⟩) m1).trans n5
  clear n0 n1 n2 n3 n4 n5 hb2
  simp only [insRow, List.getElem?_toArray, List.getElem?_cons_zero, List.getElem?_cons_succ] at q0 q1 q2 q3 q4 q5
  rw [hop'] at q0
  rw [hD] at q1
  have m2 : w.heap.size < w2.heap.size := Nat.lt_of_lt_of_le m1 HB2.out.size
  obtain ⟨L0, e0⟩ : ∃ q, q = L16 := ⟨_, rfl⟩
  have E := Lib.hid e0
  have H := Lib.hid (Bools.new w w2 w.heap.size i E.out (HB1.out.trans (HB2.out.mono HB1.out.size)) ((HB2.out.block _ m1).trans HK1.out) m2)
  clear e0
  clear hop' hD
  go_upto_region 5 with (((with_reducible refine (Form_15 _).mono ?_); rintro e w3 ⟨rfl, rfl⟩))
  go_wp2_with (first | ((with_reducible refine (Has_lit ⟨#[68, 105]⟩ 83 83 rfl false _ (by decide) rfl).mono ?_); rintro e w3 ⟨rfl, rfl⟩) | ((with_reducible refine (Has_lit ⟨#[68, 105]⟩ 84 84 rfl false _ (by decide) rfl).mono ?_); rintro e w3 ⟨rfl, rfl⟩) | ((with_reducible refine (Has_lit ⟨#[68, 105]⟩ 77 77 rfl false _ (by decide) rfl).mono ?_); rintro e w3 ⟨rfl, rfl⟩) | ((with_reducible refine (Has_lit ⟨#[68, 105]⟩ 68 68 rfl true _ (by decide) rfl).mono ?_); rintro e w3 ⟨rfl, rfl⟩) | ((with_reducible refine wl_id ?_); refine H.out.store D LD.out _ _ rfl rfl rfl rfl ?_; intro W L2 hL hW; have e2 := chain_step hL E.out; clear hL E q0 q1 q2 q3 q4 q5; have E := Lib.hid e2; clear e2; clear H; have H := Lib.hid hW; clear hW; obtain ⟨q0, q1, q2, q3, q4, q5⟩ := H.out.cells; rw [HOP.out] at q0; rw [ED.out] at q1) | ((with_reducible refine wl_id ?_); refine H.out.store 2 (by decide) _ _ rfl rfl rfl rfl ?_; intro W L2 hL hW; have e2 := chain_step hL E.out; clear hL E q0 q1 q2 q3 q4 q5; have E := Lib.hid e2; clear e2; clear H; have H := Lib.hid hW; clear hW; obtain ⟨q0, q1, q2, q3, q4, q5⟩ := H.out.cells; rw [HOP.out] at q0; rw [ED.out] at q1) | ((with_reducible refine wl_id ?_); refine H.out.store 4 (by decide) _ _ rfl rfl rfl rfl ?_; intro W L2 hL hW; have e2 := chain_step hL E.out; clear hL E q0 q1 q2 q3 q4 q5; have E := Lib.hid e2; clear e2; clear H; have H := Lib.hid hW; clear hW; obtain ⟨q0, q1, q2, q3, q4, q5⟩ := H.out.cells; rw [HOP.out] at q0; rw [ED.out] at q1) | ((with_reducible refine wl_id ?_); refine H.out.load _ rfl rfl rfl ?_) | (go_at_call 40; refine (rising_any _ H.out.len _).mono ?_; rintro e w4 ⟨v4, rfl, hI, hb4⟩; have HI := Lib.hid hI; have HB4 := Lib.hid (H.out.below.trans (hb4.mono H.out.below.size)); have HZ := Lib.hid H.out.below.size; clear hI hb4))
  go_ret
  refine ⟨_, rfl, ?_, HB4.out⟩
  have h9 := HI.out.mono (G := fun k => w.heap.size ≤ k ∧ k < w4.heap.size) fun k hk => ⟨Nat.le_trans HZ.out hk.1, hk.2⟩
  have e9 : readsL [68, 105] i = (L16).set D true := by simp only [readsL, HOP.out, ED.out]; rfl
  rw [e9, ← E.out]
  exact h9
set_option maxRecDepth 100000 in
set_option maxHeartbeats 3200000 in
theorem Reads_16 (i : Ins) (hop : i.op = 16) (hc : chkP i = true) (w : World) :
    Calls Tryz.prog 17 #[.agg (insRow i).toArray] w fun e w' => ∃ v, e = .returned v ∧ IntsAt w' (fun k => w.heap.size ≤ k ∧ k < w'.heap.size) v (risingF (readsL [68, 105] i)) ∧ Below w.heap.size w w' := by
  obtain ⟨_, _, hd1, hs1, ht1, _⟩ := chk_parts hc
  have hpl := chk_place hc
  rw [hop] at hd1 hs1 ht1 hpl
  obtain ⟨D, hD, hDl⟩ := hasOk_yes hd1 (by rfl)
  have lD0 : (0 : Int) ≤ (D : Int) := by omega
  have lD1 : (D : Int) < 16 := by omega
  have LD := Lib.hid hDl
  have hop' := hop
  have HOP := Lib.hid hop
  have HC := Lib.hid hc
  have ED := Lib.hid hD
  clear hop hc hd1 hs1 ht1 hpl hDl
  have HCHK := Lib.hid (fun w => rCheck_any i w)
  obtain ⟨W1, hW1, hb1, hs1, hn1, _⟩ := boxed w (insRow i).toArray 29
  have k1 : W1.heap[w.heap.size]? = some (.cells (insRow i).toArray 29 (0, 0)) := by rw [hW1]; exact heap_alloc_new w _
  have HK1 := Lib.hid k1
  have HW1 := Lib.hid hW1
  have HB1 := Lib.hid hb1
  have HN1 := Lib.hid hn1
  have m1 : w.heap.size < W1.heap.size := by omega
  clear hW1 hb1 hs1 hn1 k1
  go_enter Tryz.func17, Tryz.ntmps17
  go_wp2_with (rw [← HW1.out]; refine wpList_load_row rfl 29 _ rfl w.heap.size rfl 29 (insRow i).toArray (0, 0) _ HK1.out Tryz.underlying29 rfl infoIns ?_)
  refine (HCHK.out W1).mono ?_
  rintro e w2 ⟨rfl, hb2⟩
  rw [HC.out]
  have HB2 := Lib.hid hb2
  unfold errOf
  have n0 := HN1.out 0
  have n1 := HN1.out 1
  have n2 := HN1.out 2
  have n3 := HN1.out 3
  have n4 := HN1.out 4
  have n5 := HN1.out 5
  have q0 := (hb2.cell (p := ⟨w.heap.size, 0, none⟩) m1).trans n0
  have q1 := (hb2.cell (p := ⟨w.heap.size, 1, none⟩) m1).trans n1
  have q2 := (hb2.cell (p := ⟨w.heap.size, 2, none⟩) m1).trans n2
  have q3 := (hb2.cell (p := ⟨w.heap.size, 3, none⟩) m1).trans n3
  have q4 := (hb2.cell (p := ⟨w.heap.size, 4, none⟩) m1).trans n4
  have q5 := (hb2.cell (p := ⟨w.heap.size, 5, none⟩) m1).trans n5
  clear n0 n1 n2 n3 n4 n5 hb2
  simp only [insRow, List.getElem?_toArray, List.getElem?_cons_zero, List.getElem?_cons_succ] at q0 q1 q2 q3 q4 q5
  rw [hop'] at q0
  rw [hD] at q1
  have m2 : w.heap.size < w2.heap.size := Nat.lt_of_lt_of_le m1 HB2.out.size
  obtain ⟨L0, e0⟩ : ∃ q, q = L16 := ⟨_, rfl⟩
  have E := Lib.hid e0
  have H := Lib.hid (Bools.new w w2 w.heap.size i E.out (HB1.out.trans (HB2.out.mono HB1.out.size)) ((HB2.out.block _ m1).trans HK1.out) m2)
  clear e0
  clear hop' hD
  go_upto_region 5 with (((with_reducible refine (Form_16 _).mono ?_); rintro e w3 ⟨rfl, rfl⟩))
  go_wp2_with (first | ((with_reducible refine (Has_lit ⟨#[68, 105]⟩ 83 83 rfl false _ (by decide) rfl).mono ?_); rintro e w3 ⟨rfl, rfl⟩) | ((with_reducible refine (Has_lit ⟨#[68, 105]⟩ 84 84 rfl false _ (by decide) rfl).mono ?_); rintro e w3 ⟨rfl, rfl⟩) | ((with_reducible refine (Has_lit ⟨#[68, 105]⟩ 77 77 rfl false _ (by decide) rfl).mono ?_); rintro e w3 ⟨rfl, rfl⟩) | ((with_reducible refine (Has_lit ⟨#[68, 105]⟩ 68 68 rfl true _ (by decide) rfl).mono ?_); rintro e w3 ⟨rfl, rfl⟩) | ((with_reducible refine wl_id ?_); refine H.out.store D LD.out _ _ rfl rfl rfl rfl ?_; intro W L2 hL hW; have e2 := chain_step hL E.out; clear hL E q0 q1 q2 q3 q4 q5; have E := Lib.hid e2; clear e2; clear H; have H := Lib.hid hW; clear hW; obtain ⟨q0, q1, q2, q3, q4, q5⟩ := H.out.cells; rw [HOP.out] at q0; rw [ED.out] at q1) | ((with_reducible refine wl_id ?_); refine H.out.store 2 (by decide) _ _ rfl rfl rfl rfl ?_; intro W L2 hL hW; have e2 := chain_step hL E.out; clear hL E q0 q1 q2 q3 q4 q5; have E := Lib.hid e2; clear e2; clear H; have H := Lib.hid hW; clear hW; obtain ⟨q0, q1, q2, q3, q4, q5⟩ := H.out.cells; rw [HOP.out] at q0; rw [ED.out] at q1) | ((with_reducible refine wl_id ?_); refine H.out.store 4 (by decide) _ _ rfl rfl rfl rfl ?_; intro W L2 hL hW; have e2 := chain_step hL E.out; clear hL E q0 q1 q2 q3 q4 q5; have E := Lib.hid e2; clear e2; clear H; have H := Lib.hid hW; clear hW; obtain ⟨q0, q1, q2, q3, q4, q5⟩ := H.out.cells; rw [HOP.out] at q0; rw [ED.out] at q1) | ((with_reducible refine wl_id ?_); refine H.out.load _ rfl rfl rfl ?_) | (go_at_call 40; refine (rising_any _ H.out.len _).mono ?_; rintro e w4 ⟨v4, rfl, hI, hb4⟩; have HI := Lib.hid hI; have HB4 := Lib.hid (H.out.below.trans (hb4.mono H.out.below.size)); have HZ := Lib.hid H.out.below.size; clear hI hb4))
  go_ret
  refine ⟨_, rfl, ?_, HB4.out⟩
  have h9 := HI.out.mono (G := fun k => w.heap.size ≤ k ∧ k < w4.heap.size) fun k hk => ⟨Nat.le_trans HZ.out hk.1, hk.2⟩
  have e9 : readsL [68, 105] i = (L16).set D true := by simp only [readsL, HOP.out, ED.out]; rfl
  rw [e9, ← E.out]
  exact h9
set_option maxRecDepth 100000 in
set_option maxHeartbeats 3200000 in
theorem Reads_17 (i : Ins) (hop : i.op = 17) (hc : chkP i = true) (w : World) :
    Calls Tryz.prog 17 #[.agg (insRow i).toArray] w fun e w' => ∃ v, e = .returned v ∧ IntsAt w' (fun k => w.heap.size ≤ k ∧ k < w'.heap.size) v (risingF (readsL [68, 105] i)) ∧ Below w.heap.size w w' := by
  obtain ⟨_, _, hd1, hs1, ht1, _⟩ := chk_parts hc
  have hpl := chk_place hc
  rw [hop] at hd1 hs1 ht1 hpl
  obtain ⟨D, hD, hDl⟩ := hasOk_yes hd1 (by rfl)
  have lD0 : (0 : Int) ≤ (D : Int) := by omega
  have lD1 : (D : Int) < 16 := by omega
  have LD := Lib.hid hDl
  have hop' := hop
  have HOP := Lib.hid hop
  have HC := Lib.hid hc
  have ED := Lib.hid hD
  clear hop hc hd1 hs1 ht1 hpl hDl
  have HCHK := Lib.hid (fun w => rCheck_any i w)
  obtain ⟨W1, hW1, hb1, hs1, hn1, _⟩ := boxed w (insRow i).toArray 29
  have k1 : W1.heap[w.heap.size]? = some (.cells (insRow i).toArray 29 (0, 0)) := by rw [hW1]; exact heap_alloc_new w _
  have HK1 := Lib.hid k1
  have HW1 := Lib.hid hW1
  have HB1 := Lib.hid hb1
  have HN1 := Lib.hid hn1
  have m1 : w.heap.size < W1.heap.size := by omega
  clear hW1 hb1 hs1 hn1 k1
  go_enter Tryz.func17, Tryz.ntmps17
  go_wp2_with (rw [← HW1.out]; refine wpList_load_row rfl 29 _ rfl w.heap.size rfl 29 (insRow i).toArray (0, 0) _ HK1.out Tryz.underlying29 rfl infoIns ?_)
  refine (HCHK.out W1).mono ?_
  rintro e w2 ⟨rfl, hb2⟩
  rw [HC.out]
  have HB2 := Lib.hid hb2
  unfold errOf
  have n0 := HN1.out 0
  have n1 := HN1.out 1
  have n2 := HN1.out 2
  have n3 := HN1.out 3
  have n4 := HN1.out 4
  have n5 := HN1.out 5
  have q0 := (hb2.cell (p := ⟨w.heap.size, 0, none⟩) m1).trans n0
  have q1 := (hb2.cell (p := ⟨w.heap.size, 1, none⟩) m1).trans n1
  have q2 := (hb2.cell (p := ⟨w.heap.size, 2, none⟩) m1).trans n2
  have q3 := (hb2.cell (p := ⟨w.heap.size, 3, none⟩) m1).trans n3
  have q4 := (hb2.cell (p := ⟨w.heap.size, 4, none⟩) m1).trans n4
  have q5 := (hb2.cell (p := ⟨w.heap.size, 5, none⟩) m1).trans n5
  clear n0 n1 n2 n3 n4 n5 hb2
  simp only [insRow, List.getElem?_toArray, List.getElem?_cons_zero, List.getElem?_cons_succ] at q0 q1 q2 q3 q4 q5
  rw [hop'] at q0
  rw [hD] at q1
  have m2 : w.heap.size < w2.heap.size := Nat.lt_of_lt_of_le m1 HB2.out.size
  obtain ⟨L0, e0⟩ : ∃ q, q = L16 := ⟨_, rfl⟩
  have E := Lib.hid e0
  have H := Lib.hid (Bools.new w w2 w.heap.size i E.out (HB1.out.trans (HB2.out.mono HB1.out.size)) ((HB2.out.block _ m1).trans HK1.out) m2)
  clear e0
  clear hop' hD
  go_upto_region 5 with (((with_reducible refine (Form_17 _).mono ?_); rintro e w3 ⟨rfl, rfl⟩))
  go_wp2_with (first | ((with_reducible refine (Has_lit ⟨#[68, 105]⟩ 83 83 rfl false _ (by decide) rfl).mono ?_); rintro e w3 ⟨rfl, rfl⟩) | ((with_reducible refine (Has_lit ⟨#[68, 105]⟩ 84 84 rfl false _ (by decide) rfl).mono ?_); rintro e w3 ⟨rfl, rfl⟩) | ((with_reducible refine (Has_lit ⟨#[68, 105]⟩ 77 77 rfl false _ (by decide) rfl).mono ?_); rintro e w3 ⟨rfl, rfl⟩) | ((with_reducible refine (Has_lit ⟨#[68, 105]⟩ 68 68 rfl true _ (by decide) rfl).mono ?_); rintro e w3 ⟨rfl, rfl⟩) | ((with_reducible refine wl_id ?_); refine H.out.store D LD.out _ _ rfl rfl rfl rfl ?_; intro W L2 hL hW; have e2 := chain_step hL E.out; clear hL E q0 q1 q2 q3 q4 q5; have E := Lib.hid e2; clear e2; clear H; have H := Lib.hid hW; clear hW; obtain ⟨q0, q1, q2, q3, q4, q5⟩ := H.out.cells; rw [HOP.out] at q0; rw [ED.out] at q1) | ((with_reducible refine wl_id ?_); refine H.out.store 2 (by decide) _ _ rfl rfl rfl rfl ?_; intro W L2 hL hW; have e2 := chain_step hL E.out; clear hL E q0 q1 q2 q3 q4 q5; have E := Lib.hid e2; clear e2; clear H; have H := Lib.hid hW; clear hW; obtain ⟨q0, q1, q2, q3, q4, q5⟩ := H.out.cells; rw [HOP.out] at q0; rw [ED.out] at q1) | ((with_reducible refine wl_id ?_); refine H.out.store 4 (by decide) _ _ rfl rfl rfl rfl ?_; intro W L2 hL hW; have e2 := chain_step hL E.out; clear hL E q0 q1 q2 q3 q4 q5; have E := Lib.hid e2; clear e2; clear H; have H := Lib.hid hW; clear hW; obtain ⟨q0, q1, q2, q3, q4, q5⟩ := H.out.cells; rw [HOP.out] at q0; rw [ED.out] at q1) | ((with_reducible refine wl_id ?_); refine H.out.load _ rfl rfl rfl ?_) | (go_at_call 40; refine (rising_any _ H.out.len _).mono ?_; rintro e w4 ⟨v4, rfl, hI, hb4⟩; have HI := Lib.hid hI; have HB4 := Lib.hid (H.out.below.trans (hb4.mono H.out.below.size)); have HZ := Lib.hid H.out.below.size; clear hI hb4))
  go_ret
  refine ⟨_, rfl, ?_, HB4.out⟩
  have h9 := HI.out.mono (G := fun k => w.heap.size ≤ k ∧ k < w4.heap.size) fun k hk => ⟨Nat.le_trans HZ.out hk.1, hk.2⟩
  have e9 : readsL [68, 105] i = (L16).set D true := by simp only [readsL, HOP.out, ED.out]; rfl
  rw [e9, ← E.out]
  exact h9
set_option maxRecDepth 100000 in
set_option maxHeartbeats 3200000 in
theorem Reads_18 (i : Ins) (hop : i.op = 18) (hc : chkP i = true) (w : World) :
    Calls Tryz.prog 17 #[.agg (insRow i).toArray] w fun e w' => ∃ v, e = .returned v ∧ IntsAt w' (fun k => w.heap.size ≤ k ∧ k < w'.heap.size) v (risingF (readsL [68, 105] i)) ∧ Below w.heap.size w w' := by
  obtain ⟨_, _, hd1, hs1, ht1, _⟩ := chk_parts hc
  have hpl := chk_place hc
  rw [hop] at hd1 hs1 ht1 hpl
  obtain ⟨D, hD, hDl⟩ := hasOk_yes hd1 (by rfl)
  have lD0 : (0 : Int) ≤ (D : Int) := by omega
  have lD1 : (D : Int) < 16 := by omega
  have LD := Lib.hid hDl
  have hop' := hop
  have HOP := Lib.hid hop
  have HC := Lib.hid hc
  have ED := Lib.hid hD
  clear hop hc hd1 hs1 ht1 hpl hDl
  have HCHK := Lib.hid (fun w => rCheck_any i w)
  obtain ⟨W1, hW1, hb1, hs1, hn1, _⟩ := boxed w (insRow i).toArray 29
  have k1 : W1.heap[w.heap.size]? = some (.cells (insRow i).toArray 29 (0, 0)) := by rw [hW1]; exact heap_alloc_new w _
  have HK1 := Lib.hid k1
  have HW1 := Lib.hid hW1
  have HB1 := Lib.hid hb1
  have HN1 := Lib.hid hn1
  have m1 : w.heap.size < W1.heap.size := by omega
  clear hW1 hb1 hs1 hn1 k1
  go_enter Tryz.func17, Tryz.ntmps17
  go_wp2_with (rw [← HW1.out]; refine wpList_load_row rfl 29 _ rfl w.heap.size rfl 29 (insRow i).toArray (0, 0) _ HK1.out Tryz.underlying29 rfl infoIns ?_)
  refine (HCHK.out W1).mono ?_
  rintro e w2 ⟨rfl, hb2⟩
  rw [HC.out]
  have HB2 := Lib.hid hb2
  unfold errOf
  have n0 := HN1.out 0
  have n1 := HN1.out 1
  have n2 := HN1.out 2
  have n3 := HN1.out 3
  have n4 := HN1.out 4
  have n5 := HN1.out 5
  have q0 := (hb2.cell (p := ⟨w.heap.size, 0, none⟩) m1).trans n0
  have q1 := (hb2.cell (p := ⟨w.heap.size, 1, none⟩) m1).trans n1
  have q2 := (hb2.cell (p := ⟨w.heap.size, 2, none⟩) m1).trans n2
  have q3 := (hb2.cell (p := ⟨w.heap.size, 3, none⟩) m1).trans n3
  have q4 := (hb2.cell (p := ⟨w.heap.size, 4, none⟩) m1).trans n4
  have q5 := (hb2.cell (p := ⟨w.heap.size, 5, none⟩) m1).trans n5
  clear n0 n1 n2 n3 n4 n5 hb2
  simp only [insRow, List.getElem?_toArray, List.getElem?_cons_zero, List.getElem?_cons_succ] at q0 q1 q2 q3 q4 q5
  rw [hop'] at q0
  rw [hD] at q1
  have m2 : w.heap.size < w2.heap.size := Nat.lt_of_lt_of_le m1 HB2.out.size
  obtain ⟨L0, e0⟩ : ∃ q, q = L16 := ⟨_, rfl⟩
  have E := Lib.hid e0
  have H := Lib.hid (Bools.new w w2 w.heap.size i E.out (HB1.out.trans (HB2.out.mono HB1.out.size)) ((HB2.out.block _ m1).trans HK1.out) m2)
  clear e0
  clear hop' hD
  go_upto_region 5 with (((with_reducible refine (Form_18 _).mono ?_); rintro e w3 ⟨rfl, rfl⟩))
  go_wp2_with (first | ((with_reducible refine (Has_lit ⟨#[68, 105]⟩ 83 83 rfl false _ (by decide) rfl).mono ?_); rintro e w3 ⟨rfl, rfl⟩) | ((with_reducible refine (Has_lit ⟨#[68, 105]⟩ 84 84 rfl false _ (by decide) rfl).mono ?_); rintro e w3 ⟨rfl, rfl⟩) | ((with_reducible refine (Has_lit ⟨#[68, 105]⟩ 77 77 rfl false _ (by decide) rfl).mono ?_); rintro e w3 ⟨rfl, rfl⟩) | ((with_reducible refine (Has_lit ⟨#[68, 105]⟩ 68 68 rfl true _ (by decide) rfl).mono ?_); rintro e w3 ⟨rfl, rfl⟩) | ((with_reducible refine wl_id ?_); refine H.out.store D LD.out _ _ rfl rfl rfl rfl ?_; intro W L2 hL hW; have e2 := chain_step hL E.out; clear hL E q0 q1 q2 q3 q4 q5; have E := Lib.hid e2; clear e2; clear H; have H := Lib.hid hW; clear hW; obtain ⟨q0, q1, q2, q3, q4, q5⟩ := H.out.cells; rw [HOP.out] at q0; rw [ED.out] at q1) | ((with_reducible refine wl_id ?_); refine H.out.store 2 (by decide) _ _ rfl rfl rfl rfl ?_; intro W L2 hL hW; have e2 := chain_step hL E.out; clear hL E q0 q1 q2 q3 q4 q5; have E := Lib.hid e2; clear e2; clear H; have H := Lib.hid hW; clear hW; obtain ⟨q0, q1, q2, q3, q4, q5⟩ := H.out.cells; rw [HOP.out] at q0; rw [ED.out] at q1) | ((with_reducible refine wl_id ?_); refine H.out.store 4 (by decide) _ _ rfl rfl rfl rfl ?_; intro W L2 hL hW; have e2 := chain_step hL E.out; clear hL E q0 q1 q2 q3 q4 q5; have E := Lib.hid e2; clear e2; clear H; have H := Lib.hid hW; clear hW; obtain ⟨q0, q1, q2, q3, q4, q5⟩ := H.out.cells; rw [HOP.out] at q0; rw [ED.out] at q1) | ((with_reducible refine wl_id ?_); refine H.out.load _ rfl rfl rfl ?_) | (go_at_call 40; refine (rising_any _ H.out.len _).mono ?_; rintro e w4 ⟨v4, rfl, hI, hb4⟩; have HI := Lib.hid hI; have HB4 := Lib.hid (H.out.below.trans (hb4.mono H.out.below.size)); have HZ := Lib.hid H.out.below.size; clear hI hb4))
  go_ret
  refine ⟨_, rfl, ?_, HB4.out⟩
  have h9 := HI.out.mono (G := fun k => w.heap.size ≤ k ∧ k < w4.heap.size) fun k hk => ⟨Nat.le_trans HZ.out hk.1, hk.2⟩
  have e9 : readsL [68, 105] i = (L16).set D true := by simp only [readsL, HOP.out, ED.out]; rfl
  rw [e9, ← E.out]
  exact h9
set_option maxRecDepth 100000 in
set_option maxHeartbeats 3200000 in
theorem Reads_19 (i : Ins) (hop : i.op = 19) (hc : chkP i = true) (w : World) :
    Calls Tryz.prog 17 #[.agg (insRow i).toArray] w fun e w' => ∃ v, e = .returned v ∧ IntsAt w' (fun k => w.heap.size ≤ k ∧ k < w'.heap.size) v (risingF (readsL [68, 83, 84] i)) ∧ Below w.heap.size w w' := by
  obtain ⟨_, _, hd1, hs1, ht1, _⟩ := chk_parts hc
  have hpl := chk_place hc
  rw [hop] at hd1 hs1 ht1 hpl
  obtain ⟨T, hT, hTl⟩ := hasOk_yes ht1 (by rfl)
  have lT0 : (0 : Int) ≤ (T : Int) := by omega
  have lT1 : (T : Int) < 16 := by omega
  have LT := Lib.hid hTl
  have hop' := hop
  have HOP := Lib.hid hop
  have HC := Lib.hid hc
  have ET := Lib.hid hT
  clear hop hc hd1 hs1 ht1 hpl hTl
  have HCHK := Lib.hid (fun w => rCheck_any i w)
  obtain ⟨W1, hW1, hb1, hs1, hn1, _⟩ := boxed w (insRow i).toArray 29
  have k1 : W1.heap[w.heap.size]? = some (.cells (insRow i).toArray 29 (0, 0)) := by rw [hW1]; exact heap_alloc_new w _
  have HK1 := Lib.hid k1
  have HW1 := Lib.hid hW1
  have HB1 := Lib.hid hb1
  have HN1 := Lib.hid hn1
  have m1 : w.heap.size < W1.heap.size := by omega
  clear hW1 hb1 hs1 hn1 k1
  go_enter Tryz.func17, Tryz.ntmps17
  go_wp2_with (rw [← HW1.out]; refine wpList_load_row rfl 29 _ rfl w.heap.size rfl 29 (insRow i).toArray (0, 0) _ HK1.out Tryz.underlying29 rfl infoIns ?_)
  refine (HCHK.out W1).mono ?_
  rintro e w2 ⟨rfl, hb2⟩
  rw [HC.out]
  have HB2 := Lib.hid hb2
  unfold errOf
  have n0 := HN1.out 0
  have n1 := HN1.out 1
  have n2 := HN1.out 2
  have n3 := HN1.out 3
  have n4 := HN1.out 4
  have n5 := HN1.out 5
  have q0 := (hb2.cell (p := ⟨w.heap.size, 0, none⟩) m1).trans n0
  have q1 := (hb2.cell (p := ⟨w.heap.size, 1, none⟩) m1).trans n1
  have q2 := (hb2.cell (p := ⟨w.heap.size, 2, none⟩) m1).trans n2
  have q3 := (hb2.cell (p := ⟨w.heap.size, 3, none⟩) m1).trans n3
  have q4 := (hb2.cell (p := ⟨w.heap.size, 4, none⟩) m1).trans n4
  have q5 := (hb2.cell (p := ⟨w.heap.size, 5, none⟩) m1).trans n5
  clear n0 n1 n2 n3 n4 n5 hb2
  simp only [insRow, List.getElem?_toArray, List.getElem?_cons_zero, List.getElem?_cons_succ] at q0 q1 q2 q3 q4 q5
  rw [hop'] at q0
  rw [hT] at q3
  have m2 : w.heap.size < w2.heap.size := Nat.lt_of_lt_of_le m1 HB2.out.size
  obtain ⟨L0, e0⟩ : ∃ q, q = L16 := ⟨_, rfl⟩
  have E := Lib.hid e0
  have H := Lib.hid (Bools.new w w2 w.heap.size i E.out (HB1.out.trans (HB2.out.mono HB1.out.size)) ((HB2.out.block _ m1).trans HK1.out) m2)
  clear e0
  clear hop' hT
  go_upto_region 5 with (((with_reducible refine (Form_19 _).mono ?_); rintro e w3 ⟨rfl, rfl⟩))
  go_wp2_with (first | ((with_reducible refine (Has_lit ⟨#[68, 83, 84]⟩ 83 83 rfl true _ (by decide) rfl).mono ?_); rintro e w3 ⟨rfl, rfl⟩) | ((with_reducible refine (Has_lit ⟨#[68, 83, 84]⟩ 84 84 rfl true _ (by decide) rfl).mono ?_); rintro e w3 ⟨rfl, rfl⟩) | ((with_reducible refine (Has_lit ⟨#[68, 83, 84]⟩ 77 77 rfl false _ (by decide) rfl).mono ?_); rintro e w3 ⟨rfl, rfl⟩) | ((with_reducible refine (Has_lit ⟨#[68, 83, 84]⟩ 68 68 rfl true _ (by decide) rfl).mono ?_); rintro e w3 ⟨rfl, rfl⟩) | ((with_reducible refine wl_id ?_); refine H.out.store T LT.out _ _ rfl rfl rfl rfl ?_; intro W L2 hL hW; have e2 := chain_step hL E.out; clear hL E q0 q1 q2 q3 q4 q5; have E := Lib.hid e2; clear e2; clear H; have H := Lib.hid hW; clear hW; obtain ⟨q0, q1, q2, q3, q4, q5⟩ := H.out.cells; rw [HOP.out] at q0; rw [ET.out] at q3) | ((with_reducible refine wl_id ?_); refine H.out.store 2 (by decide) _ _ rfl rfl rfl rfl ?_; intro W L2 hL hW; have e2 := chain_step hL E.out; clear hL E q0 q1 q2 q3 q4 q5; have E := Lib.hid e2; clear e2; clear H; have H := Lib.hid hW; clear hW; obtain ⟨q0, q1, q2, q3, q4, q5⟩ := H.out.cells; rw [HOP.out] at q0; rw [ET.out] at q3) | ((with_reducible refine wl_id ?_); refine H.out.store 4 (by decide) _ _ rfl rfl rfl rfl ?_; intro W L2 hL hW; have e2 := chain_step hL E.out; clear hL E q0 q1 q2 q3 q4 q5; have E := Lib.hid e2; clear e2; clear H; have H := Lib.hid hW; clear hW; obtain ⟨q0, q1, q2, q3, q4, q5⟩ := H.out.cells; rw [HOP.out] at q0; rw [ET.out] at q3) | ((with_reducible refine wl_id ?_); refine H.out.load _ rfl rfl rfl ?_) | (go_at_call 40; refine (rising_any _ H.out.len _).mono ?_; rintro e w4 ⟨v4, rfl, hI, hb4⟩; have HI := Lib.hid hI; have HB4 := Lib.hid (H.out.below.trans (hb4.mono H.out.below.size)); have HZ := Lib.hid H.out.below.size; clear hI hb4))
  go_ret
  refine ⟨_, rfl, ?_, HB4.out⟩
  have h9 := HI.out.mono (G := fun k => w.heap.size ≤ k ∧ k < w4.heap.size) fun k hk => ⟨Nat.le_trans HZ.out hk.1, hk.2⟩
  have e9 : readsL [68, 83, 84] i = ((L16).set T true).set 2 true := by simp only [readsL, HOP.out, ET.out]; rfl
  rw [e9, ← E.out]
  exact h9
set_option maxRecDepth 100000 in
set_option maxHeartbeats 3200000 in
theorem Reads_20 (i : Ins) (hop : i.op = 20) (hc : chkP i = true) (w : World) :
    Calls Tryz.prog 17 #[.agg (insRow i).toArray] w fun e w' => ∃ v, e = .returned v ∧ IntsAt w' (fun k => w.heap.size ≤ k ∧ k < w'.heap.size) v (risingF (readsL [68, 83] i)) ∧ Below w.heap.size w w' := by
  obtain ⟨_, _, hd1, hs1, ht1, _⟩ := chk_parts hc
  have hpl := chk_place hc
  rw [hop] at hd1 hs1 ht1 hpl
  obtain ⟨D, hD, hDl⟩ := hasOk_yes hd1 (by rfl)
  obtain ⟨S, hS, hSl⟩ := hasOk_yes hs1 (by rfl)
  have lD0 : (0 : Int) ≤ (D : Int) := by omega
  have lD1 : (D : Int) < 16 := by omega
  have LD := Lib.hid hDl
  have lS0 : (0 : Int) ≤ (S : Int) := by omega
  have lS1 : (S : Int) < 16 := by omega
  have LS := Lib.hid hSl
  have hop' := hop
  have HOP := Lib.hid hop
  have HC := Lib.hid hc
  have ED := Lib.hid hD
  have ES := Lib.hid hS
  clear hop hc hd1 hs1 ht1 hpl hDl hSl
  have HCHK := Lib.hid (fun w => rCheck_any i w)
  obtain ⟨W1, hW1, hb1, hs1, hn1, _⟩ := boxed w (insRow i).toArray 29
  have k1 : W1.heap[w.heap.size]? = some (.cells (insRow i).toArray 29 (0, 0)) := by rw [hW1]; exact heap_alloc_new w _
  have HK1 := Lib.hid k1
  have HW1 := Lib.hid hW1
  have HB1 := Lib.hid hb1
  have HN1 := Lib.hid hn1
  have m1 : w.heap.size < W1.heap.size := by omega
  clear hW1 hb1 hs1 hn1 k1
  go_enter Tryz.func17, Tryz.ntmps17
  go_wp2_with (rw [← HW1.out]; refine wpList_load_row rfl 29 _ rfl w.heap.size rfl 29 (insRow i).toArray (0, 0) _ HK1.out Tryz.underlying29 rfl infoIns ?_)
  refine (HCHK.out W1).mono ?_
  rintro e w2 ⟨rfl, hb2⟩
  rw [HC.out]
  have HB2 := Lib.hid hb2
  unfold errOf
  have n0 := HN1.out 0
  have n1 := HN1.out 1
  have n2 := HN1.out 2
  have n3 := HN1.out 3
  have n4 := HN1.out 4
  have n5 := HN1.out 5
  have q0 := (hb2.cell (p := ⟨w.heap.size, 0, none⟩) m1).trans n0
  have q1 := (hb2.cell (p := ⟨w.heap.size, 1, none⟩) m1).trans n1
  have q2 := (hb2.cell (p := ⟨w.heap.size, 2, none⟩) m1).trans n2
  have q3 := (hb2.cell (p := ⟨w.heap.size, 3, none⟩) m1).trans n3
  have q4 := (hb2.cell (p := ⟨w.heap.size, 4, none⟩) m1).trans n4
  have q5 := (hb2.cell (p := ⟨w.heap.size, 5, none⟩) m1).trans n5
  clear n0 n1 n2 n3 n4 n5 hb2
  simp only [insRow, List.getElem?_toArray, List.getElem?_cons_zero, List.getElem?_cons_succ] at q0 q1 q2 q3 q4 q5
  rw [hop'] at q0
  rw [hD] at q1
  rw [hS] at q2
  have m2 : w.heap.size < w2.heap.size := Nat.lt_of_lt_of_le m1 HB2.out.size
  obtain ⟨L0, e0⟩ : ∃ q, q = L16 := ⟨_, rfl⟩
  have E := Lib.hid e0
  have H := Lib.hid (Bools.new w w2 w.heap.size i E.out (HB1.out.trans (HB2.out.mono HB1.out.size)) ((HB2.out.block _ m1).trans HK1.out) m2)
  clear e0
  clear hop' hD hS
  go_upto_region 5 with (((with_reducible refine (Form_20 _).mono ?_); rintro e w3 ⟨rfl, rfl⟩))
  go_wp2_with (first | ((with_reducible refine (Has_lit ⟨#[68, 83]⟩ 83 83 rfl true _ (by decide) rfl).mono ?_); rintro e w3 ⟨rfl, rfl⟩) | ((with_reducible refine (Has_lit ⟨#[68, 83]⟩ 84 84 rfl false _ (by decide) rfl).mono ?_); rintro e w3 ⟨rfl, rfl⟩) | ((with_reducible refine (Has_lit ⟨#[68, 83]⟩ 77 77 rfl false _ (by decide) rfl).mono ?_); rintro e w3 ⟨rfl, rfl⟩) | ((with_reducible refine (Has_lit ⟨#[68, 83]⟩ 68 68 rfl true _ (by decide) rfl).mono ?_); rintro e w3 ⟨rfl, rfl⟩) | ((with_reducible refine wl_id ?_); refine H.out.store D LD.out _ _ rfl rfl rfl rfl ?_; intro W L2 hL hW; have e2 := chain_step hL E.out; clear hL E q0 q1 q2 q3 q4 q5; have E := Lib.hid e2; clear e2; clear H; have H := Lib.hid hW; clear hW; obtain ⟨q0, q1, q2, q3, q4, q5⟩ := H.out.cells; rw [HOP.out] at q0; rw [ED.out] at q1; rw [ES.out] at q2) | ((with_reducible refine wl_id ?_); refine H.out.store S LS.out _ _ rfl rfl rfl rfl ?_; intro W L2 hL hW; have e2 := chain_step hL E.out; clear hL E q0 q1 q2 q3 q4 q5; have E := Lib.hid e2; clear e2; clear H; have H := Lib.hid hW; clear hW; obtain ⟨q0, q1, q2, q3, q4, q5⟩ := H.out.cells; rw [HOP.out] at q0; rw [ED.out] at q1; rw [ES.out] at q2) | ((with_reducible refine wl_id ?_); refine H.out.store 2 (by decide) _ _ rfl rfl rfl rfl ?_; intro W L2 hL hW; have e2 := chain_step hL E.out; clear hL E q0 q1 q2 q3 q4 q5; have E := Lib.hid e2; clear e2; clear H; have H := Lib.hid hW; clear hW; obtain ⟨q0, q1, q2, q3, q4, q5⟩ := H.out.cells; rw [HOP.out] at q0; rw [ED.out] at q1; rw [ES.out] at q2) | ((with_reducible refine wl_id ?_); refine H.out.store 4 (by decide) _ _ rfl rfl rfl rfl ?_; intro W L2 hL hW; have e2 := chain_step hL E.out; clear hL E q0 q1 q2 q3 q4 q5; have E := Lib.hid e2; clear e2; clear H; have H := Lib.hid hW; clear hW; obtain ⟨q0, q1, q2, q3, q4, q5⟩ := H.out.cells; rw [HOP.out] at q0; rw [ED.out] at q1; rw [ES.out] at q2) | ((with_reducible refine wl_id ?_); refine H.out.load _ rfl rfl rfl ?_) | (go_at_call 40; refine (rising_any _ H.out.len _).mono ?_; rintro e w4 ⟨v4, rfl, hI, hb4⟩; have HI := Lib.hid hI; have HB4 := Lib.hid (H.out.below.trans (hb4.mono H.out.below.size)); have HZ := Lib.hid H.out.below.size; clear hI hb4))
  go_ret
  refine ⟨_, rfl, ?_, HB4.out⟩
  have h9 := HI.out.mono (G := fun k => w.heap.size ≤ k ∧ k < w4.heap.size) fun k hk => ⟨Nat.le_trans HZ.out hk.1, hk.2⟩
  have e9 : readsL [68, 83] i = ((L16).set S true).set D true := by simp only [readsL, HOP.out, ED.out, ES.out]; rfl
  rw [e9, ← E.out]
  exact h9
set_option maxRecDepth 100000 in
set_option maxHeartbeats 3200000 in
theorem Reads_21 (i : Ins) (hop : i.op = 21) (hc : chkP i = true) (w : World) :
    Calls Tryz.prog 17 #[.agg (insRow i).toArray] w fun e w' => ∃ v, e = .returned v ∧ IntsAt w' (fun k => w.heap.size ≤ k ∧ k < w'.heap.size) v (risingF (readsL [68, 83] i)) ∧ Below w.heap.size w w' := by
  obtain ⟨_, _, hd1, hs1, ht1, _⟩ := chk_parts hc
  have hpl := chk_place hc
  rw [hop] at hd1 hs1 ht1 hpl
  obtain ⟨D, hD, hDl⟩ := hasOk_yes hd1 (by rfl)
  obtain ⟨S, hS, hSl⟩ := hasOk_yes hs1 (by rfl)
  have lD0 : (0 : Int) ≤ (D : Int) := by omega
  have lD1 : (D : Int) < 16 := by omega
  have LD := Lib.hid hDl
  have lS0 : (0 : Int) ≤ (S : Int) := by omega
  have lS1 : (S : Int) < 16 := by omega
  have LS := Lib.hid hSl
  have hop' := hop
  have HOP := Lib.hid hop
  have HC := Lib.hid hc
  have ED := Lib.hid hD
  have ES := Lib.hid hS
  clear hop hc hd1 hs1 ht1 hpl hDl hSl
  have HCHK := Lib.hid (fun w => rCheck_any i w)
  obtain ⟨W1, hW1, hb1, hs1, hn1, _⟩ := boxed w (insRow i).toArray 29
  have k1 : W1.heap[w.heap.size]? = some (.cells (insRow i).toArray 29 (0, 0)) := by rw [hW1]; exact heap_alloc_new w _
  have HK1 := Lib.hid k1
  have HW1 := Lib.hid hW1
  have HB1 := Lib.hid hb1
  have HN1 := Lib.hid hn1
  have m1 : w.heap.size < W1.heap.size := by omega
  clear hW1 hb1 hs1 hn1 k1
  go_enter Tryz.func17, Tryz.ntmps17
  go_wp2_with (rw [← HW1.out]; refine wpList_load_row rfl 29 _ rfl w.heap.size rfl 29 (insRow i).toArray (0, 0) _ HK1.out Tryz.underlying29 rfl infoIns ?_)
  refine (HCHK.out W1).mono ?_
  rintro e w2 ⟨rfl, hb2⟩
  rw [HC.out]
  have HB2 := Lib.hid hb2
  unfold errOf
  have n0 := HN1.out 0
  have n1 := HN1.out 1
  have n2 := HN1.out 2
  have n3 := HN1.out 3
  have n4 := HN1.out 4
  have n5 := HN1.out 5
  have q0 := (hb2.cell (p := ⟨w.heap.size, 0, none⟩) m1).trans n0
  have q1 := (hb2.cell (p := ⟨w.heap.size, 1, none⟩) m1).trans n1
  have q2 := (hb2.cell (p := ⟨w.heap.size, 2, none⟩) m1).trans n2
  have q3 := (hb2.cell (p := ⟨w.heap.size, 3, none⟩) m1).trans n3
  have q4 := (hb2.cell (p := ⟨w.heap.size, 4, none⟩) m1).trans n4
  have q5 := (hb2.cell (p := ⟨w.heap.size, 5, none⟩) m1).trans n5
  clear n0 n1 n2 n3 n4 n5 hb2
  simp only [insRow, List.getElem?_toArray, List.getElem?_cons_zero, List.getElem?_cons_succ] at q0 q1 q2 q3 q4 q5
  rw [hop'] at q0
  rw [hD] at q1
  rw [hS] at q2
  have m2 : w.heap.size < w2.heap.size := Nat.lt_of_lt_of_le m1 HB2.out.size
  obtain ⟨L0, e0⟩ : ∃ q, q = L16 := ⟨_, rfl⟩
  have E := Lib.hid e0
  have H := Lib.hid (Bools.new w w2 w.heap.size i E.out (HB1.out.trans (HB2.out.mono HB1.out.size)) ((HB2.out.block _ m1).trans HK1.out) m2)
  clear e0
  clear hop' hD hS
  go_upto_region 5 with (((with_reducible refine (Form_21 _).mono ?_); rintro e w3 ⟨rfl, rfl⟩))
  go_wp2_with (first | ((with_reducible refine (Has_lit ⟨#[68, 83]⟩ 83 83 rfl true _ (by decide) rfl).mono ?_); rintro e w3 ⟨rfl, rfl⟩) | ((with_reducible refine (Has_lit ⟨#[68, 83]⟩ 84 84 rfl false _ (by decide) rfl).mono ?_); rintro e w3 ⟨rfl, rfl⟩) | ((with_reducible refine (Has_lit ⟨#[68, 83]⟩ 77 77 rfl false _ (by decide) rfl).mono ?_); rintro e w3 ⟨rfl, rfl⟩) | ((with_reducible refine (Has_lit ⟨#[68, 83]⟩ 68 68 rfl true _ (by decide) rfl).mono ?_); rintro e w3 ⟨rfl, rfl⟩) | ((with_reducible refine wl_id ?_); refine H.out.store D LD.out _ _ rfl rfl rfl rfl ?_; intro W L2 hL hW; have e2 := chain_step hL E.out; clear hL E q0 q1 q2 q3 q4 q5; have E := Lib.hid e2; clear e2; clear H; have H := Lib.hid hW; clear hW; obtain ⟨q0, q1, q2, q3, q4, q5⟩ := H.out.cells; rw [HOP.out] at q0; rw [ED.out] at q1; rw [ES.out] at q2) | ((with_reducible refine wl_id ?_); refine H.out.store S LS.out _ _ rfl rfl rfl rfl ?_; intro W L2 hL hW; have e2 := chain_step hL E.out; clear hL E q0 q1 q2 q3 q4 q5; have E := Lib.hid e2; clear e2; clear H; have H := Lib.hid hW; clear hW; obtain ⟨q0, q1, q2, q3, q4, q5⟩ := H.out.cells; rw [HOP.out] at q0; rw [ED.out] at q1; rw [ES.out] at q2) | ((with_reducible refine wl_id ?_); refine H.out.store 2 (by decide) _ _ rfl rfl rfl rfl ?_; intro W L2 hL hW; have e2 := chain_step hL E.out; clear hL E q0 q1 q2 q3 q4 q5; have E := Lib.hid e2; clear e2; clear H; have H := Lib.hid hW; clear hW; obtain ⟨q0, q1, q2, q3, q4, q5⟩ := H.out.cells; rw [HOP.out] at q0; rw [ED.out] at q1; rw [ES.out] at q2) | ((with_reducible refine wl_id ?_); refine H.out.store 4 (by decide) _ _ rfl rfl rfl rfl ?_; intro W L2 hL hW; have e2 := chain_step hL E.out; clear hL E q0 q1 q2 q3 q4 q5; have E := Lib.hid e2; clear e2; clear H; have H := Lib.hid hW; clear hW; obtain ⟨q0, q1, q2, q3, q4, q5⟩ := H.out.cells; rw [HOP.out] at q0; rw [ED.out] at q1; rw [ES.out] at q2) | ((with_reducible refine wl_id ?_); refine H.out.load _ rfl rfl rfl ?_) | (go_at_call 40; refine (rising_any _ H.out.len _).mono ?_; rintro e w4 ⟨v4, rfl, hI, hb4⟩; have HI := Lib.hid hI; have HB4 := Lib.hid (H.out.below.trans (hb4.mono H.out.below.size)); have HZ := Lib.hid H.out.below.size; clear hI hb4))
  go_ret
  refine ⟨_, rfl, ?_, HB4.out⟩
  have h9 := HI.out.mono (G := fun k => w.heap.size ≤ k ∧ k < w4.heap.size) fun k hk => ⟨Nat.le_trans HZ.out hk.1, hk.2⟩
  have e9 : readsL [68, 83] i = ((L16).set S true).set D true := by simp only [readsL, HOP.out, ED.out, ES.out]; rfl
  rw [e9, ← E.out]
  exact h9
set_option maxRecDepth 100000 in
set_option maxHeartbeats 3200000 in
theorem Reads_22 (i : Ins) (hop : i.op = 22) (hc : chkP i = true) (w : World) :
    Calls Tryz.prog 17 #[.agg (insRow i).toArray] w fun e w' => ∃ v, e = .returned v ∧ IntsAt w' (fun k => w.heap.size ≤ k ∧ k < w'.heap.size) v (risingF (readsL [68] i)) ∧ Below w.heap.size w w' := by
  obtain ⟨_, _, hd1, hs1, ht1, _⟩ := chk_parts hc
  have hpl := chk_place hc
  rw [hop] at hd1 hs1 ht1 hpl
  obtain ⟨D, hD, hDl⟩ := hasOk_yes hd1 (by rfl)
  have lD0 : (0 : Int) ≤ (D : Int) := by omega
  have lD1 : (D : Int) < 16 := by omega
  have LD := Lib.hid hDl
  have hop' := hop
  have HOP := Lib.hid hop
  have HC := Lib.hid hc
  have ED := Lib.hid hD
  clear hop hc hd1 hs1 ht1 hpl hDl
  have HCHK := Lib.hid (fun w => rCheck_any i w)
  obtain ⟨W1, hW1, hb1, hs1, hn1, _⟩ := boxed w (insRow i).toArray 29
  have k1 : W1.heap[w.heap.size]? = some (.cells (insRow i).toArray 29 (0, 0)) := by rw [hW1]; exact heap_alloc_new w _
  have HK1 := Lib.hid k1
  have HW1 := Lib.hid hW1
  have HB1 := Lib.hid hb1
  have HN1 := Lib.hid hn1
  have m1 : w.heap.size < W1.heap.size := by omega
  clear hW1 hb1 hs1 hn1 k1
  go_enter Tryz.func17, Tryz.ntmps17
  go_wp2_with (rw [← HW1.out]; refine wpList_load_row rfl 29 _ rfl w.heap.size rfl 29 (insRow i).toArray (0, 0) _ HK1.out Tryz.underlying29 rfl infoIns ?_)
  refine (HCHK.out W1).mono ?_
  rintro e w2 ⟨rfl, hb2⟩
  rw [HC.out]
  have HB2 := Lib.hid hb2
  unfold errOf
  have n0 := HN1.out 0
  have n1 := HN1.out 1
  have n2 := HN1.out 2
  have n3 := HN1.out 3
  have n4 := HN1.out 4
  have n5 := HN1.out 5
  have q0 := (hb2.cell (p := ⟨w.heap.size, 0, none⟩) m1).trans n0
  have q1 := (hb2.cell (p := ⟨w.heap.size, 1, none⟩) m1).trans n1
  have q2 := (hb2.cell (p := ⟨w.heap.size, 2, none⟩) m1).trans n2
  have q3 := (hb2.cell (p := ⟨w.heap.size, 3, none⟩) m1).trans n3
  have q4 := (hb2.cell (p := ⟨w.heap.size, 4, none⟩) m1).trans n4
  have q5 := (hb2.cell (p := ⟨w.heap.size, 5, none⟩) m1).trans n5
  clear n0 n1 n2 n3 n4 n5 hb2
  simp only [insRow, List.getElem?_toArray, List.getElem?_cons_zero, List.getElem?_cons_succ] at q0 q1 q2 q3 q4 q5
  rw [hop'] at q0
  rw [hD] at q1
  have m2 : w.heap.size < w2.heap.size := Nat.lt_of_lt_of_le m1 HB2.out.size
  obtain ⟨L0, e0⟩ : ∃ q, q = L16 := ⟨_, rfl⟩
  have E := Lib.hid e0
  have H := Lib.hid (Bools.new w w2 w.heap.size i E.out (HB1.out.trans (HB2.out.mono HB1.out.size)) ((HB2.out.block _ m1).trans HK1.out) m2)
  clear e0
  clear hop' hD
  go_upto_region 5 with (((with_reducible refine (Form_22 _).mono ?_); rintro e w3 ⟨rfl, rfl⟩))
  go_wp2_with (first | ((with_reducible refine (Has_lit ⟨#[68]⟩ 83 83 rfl false _ (by decide) rfl).mono ?_); rintro e w3 ⟨rfl, rfl⟩) | ((with_reducible refine (Has_lit ⟨#[68]⟩ 84 84 rfl false _ (by decide) rfl).mono ?_); rintro e w3 ⟨rfl, rfl⟩) | ((with_reducible refine (Has_lit ⟨#[68]⟩ 77 77 rfl false _ (by decide) rfl).mono ?_); rintro e w3 ⟨rfl, rfl⟩) | ((with_reducible refine (Has_lit ⟨#[68]⟩ 68 68 rfl true _ (by decide) rfl).mono ?_); rintro e w3 ⟨rfl, rfl⟩) | ((with_reducible refine wl_id ?_); refine H.out.store D LD.out _ _ rfl rfl rfl rfl ?_; intro W L2 hL hW; have e2 := chain_step hL E.out; clear hL E q0 q1 q2 q3 q4 q5; have E := Lib.hid e2; clear e2; clear H; have H := Lib.hid hW; clear hW; obtain ⟨q0, q1, q2, q3, q4, q5⟩ := H.out.cells; rw [HOP.out] at q0; rw [ED.out] at q1) | ((with_reducible refine wl_id ?_); refine H.out.store 2 (by decide) _ _ rfl rfl rfl rfl ?_; intro W L2 hL hW; have e2 := chain_step hL E.out; clear hL E q0 q1 q2 q3 q4 q5; have E := Lib.hid e2; clear e2; clear H; have H := Lib.hid hW; clear hW; obtain ⟨q0, q1, q2, q3, q4, q5⟩ := H.out.cells; rw [HOP.out] at q0; rw [ED.out] at q1) | ((with_reducible refine wl_id ?_); refine H.out.store 4 (by decide) _ _ rfl rfl rfl rfl ?_; intro W L2 hL hW; have e2 := chain_step hL E.out; clear hL E q0 q1 q2 q3 q4 q5; have E := Lib.hid e2; clear e2; clear H; have H := Lib.hid hW; clear hW; obtain ⟨q0, q1, q2, q3, q4, q5⟩ := H.out.cells; rw [HOP.out] at q0; rw [ED.out] at q1) | ((with_reducible refine wl_id ?_); refine H.out.load _ rfl rfl rfl ?_) | (go_at_call 40; refine (rising_any _ H.out.len _).mono ?_; rintro e w4 ⟨v4, rfl, hI, hb4⟩; have HI := Lib.hid hI; have HB4 := Lib.hid (H.out.below.trans (hb4.mono H.out.below.size)); have HZ := Lib.hid H.out.below.size; clear hI hb4))
  go_ret
  refine ⟨_, rfl, ?_, HB4.out⟩
  have h9 := HI.out.mono (G := fun k => w.heap.size ≤ k ∧ k < w4.heap.size) fun k hk => ⟨Nat.le_trans HZ.out hk.1, hk.2⟩
  have e9 : readsL [68] i = (L16).set D true := by simp only [readsL, HOP.out, ED.out]; rfl
  rw [e9, ← E.out]
  exact h9
set_option maxRecDepth 100000 in
set_option maxHeartbeats 3200000 in
theorem Reads_23 (i : Ins) (hop : i.op = 23) (hc : chkP i = true) (w : World) :
    Calls Tryz.prog 17 #[.agg (insRow i).toArray] w fun e w' => ∃ v, e = .returned v ∧ IntsAt w' (fun k => w.heap.size ≤ k ∧ k < w'.heap.size) v (risingF (readsL [68] i)) ∧ Below w.heap.size w w' := by
  obtain ⟨_, _, hd1, hs1, ht1, _⟩ := chk_parts hc
  have hpl := chk_place hc
  rw [hop] at hd1 hs1 ht1 hpl
  obtain ⟨D, hD, hDl⟩ := hasOk_yes hd1 (by rfl)
  have lD0 : (0 : Int) ≤ (D : Int) := by omega
  have lD1 : (D : Int) < 16 := by omega
  have LD := Lib.hid hDl
  have hop' := hop
  have HOP := Lib.hid hop
  have HC := Lib.hid hc
  have ED := Lib.hid hD
  clear hop hc hd1 hs1 ht1 hpl hDl
  have HCHK := Lib.hid (fun w => rCheck_any i w)
  obtain ⟨W1, hW1, hb1, hs1, hn1, _⟩ := boxed w (insRow i).toArray 29
  have k1 : W1.heap[w.heap.size]? = some (.cells (insRow i).toArray 29 (0, 0)) := by rw [hW1]; exact heap_alloc_new w _
  have HK1 := Lib.hid k1
  have HW1 := Lib.hid hW1
  have HB1 := Lib.hid hb1
  have HN1 := Lib.hid hn1
  have m1 : w.heap.size < W1.heap.size := by omega
  clear hW1 hb1 hs1 hn1 k1
  go_enter Tryz.func17, Tryz.ntmps17
  go_wp2_with (rw [← HW1.out]; refine wpList_load_row rfl 29 _ rfl w.heap.size rfl 29 (insRow i).toArray (0, 0) _ HK1.out Tryz.underlying29 rfl infoIns ?_)
  refine (HCHK.out W1).mono ?_
  rintro e w2 ⟨rfl, hb2⟩
  rw [HC.out]
  have HB2 := Lib.hid hb2
  unfold errOf
  have n0 := HN1.out 0
  have n1 := HN1.out 1
  have n2 := HN1.out 2
  have n3 := HN1.out 3
  have n4 := HN1.out 4
  have n5 := HN1.out 5
  have q0 := (hb2.cell (p := ⟨w.heap.size, 0, none⟩) m1).trans n0
  have q1 := (hb2.cell (p := ⟨w.heap.size, 1, none⟩) m1).trans n1
  have q2 := (hb2.cell (p := ⟨w.heap.size, 2, none⟩) m1).trans n2
  have q3 := (hb2.cell (p := ⟨w.heap.size, 3, none⟩) m1).trans n3
  have q4 := (hb2.cell (p := ⟨w.heap.size, 4, none⟩) m1).trans n4
  have q5 := (hb2.cell (p := ⟨w.heap.size, 5, none⟩) m1).trans n5
  clear n0 n1 n2 n3 n4 n5 hb2
  simp only [insRow, List.getElem?_toArray, List.getElem?_cons_zero, List.getElem?_cons_succ] at q0 q1 q2 q3 q4 q5
  rw [hop'] at q0
  rw [hD] at q1
  have m2 : w.heap.size < w2.heap.size := Nat.lt_of_lt_of_le m1 HB2.out.size
  obtain ⟨L0, e0⟩ : ∃ q, q = L16 := ⟨_, rfl⟩
  have E := Lib.hid e0
  have H := Lib.hid (Bools.new w w2 w.heap.size i E.out (HB1.out.trans (HB2.out.mono HB1.out.size)) ((HB2.out.block _ m1).trans HK1.out) m2)
  clear e0
  clear hop' hD
  go_upto_region 5 with (((with_reducible refine (Form_23 _).mono ?_); rintro e w3 ⟨rfl, rfl⟩))
  go_wp2_with (first | ((with_reducible refine (Has_lit ⟨#[68]⟩ 83 83 rfl false _ (by decide) rfl).mono ?_); rintro e w3 ⟨rfl, rfl⟩) | ((with_reducible refine (Has_lit ⟨#[68]⟩ 84 84 rfl false _ (by decide) rfl).mono ?_); rintro e w3 ⟨rfl, rfl⟩) | ((with_reducible refine (Has_lit ⟨#[68]⟩ 77 77 rfl false _ (by decide) rfl).mono ?_); rintro e w3 ⟨rfl, rfl⟩) | ((with_reducible refine (Has_lit ⟨#[68]⟩ 68 68 rfl true _ (by decide) rfl).mono ?_); rintro e w3 ⟨rfl, rfl⟩) | ((with_reducible refine wl_id ?_); refine H.out.store D LD.out _ _ rfl rfl rfl rfl ?_; intro W L2 hL hW; have e2 := chain_step hL E.out; clear hL E q0 q1 q2 q3 q4 q5; have E := Lib.hid e2; clear e2; clear H; have H := Lib.hid hW; clear hW; obtain ⟨q0, q1, q2, q3, q4, q5⟩ := H.out.cells; rw [HOP.out] at q0; rw [ED.out] at q1) | ((with_reducible refine wl_id ?_); refine H.out.store 2 (by decide) _ _ rfl rfl rfl rfl ?_; intro W L2 hL hW; have e2 := chain_step hL E.out; clear hL E q0 q1 q2 q3 q4 q5; have E := Lib.hid e2; clear e2; clear H; have H := Lib.hid hW; clear hW; obtain ⟨q0, q1, q2, q3, q4, q5⟩ := H.out.cells; rw [HOP.out] at q0; rw [ED.out] at q1) | ((with_reducible refine wl_id ?_); refine H.out.store 4 (by decide) _ _ rfl rfl rfl rfl ?_; intro W L2 hL hW; have e2 := chain_step hL E.out; clear hL E q0 q1 q2 q3 q4 q5; have E := Lib.hid e2; clear e2; clear H; have H := Lib.hid hW; clear hW; obtain ⟨q0, q1, q2, q3, q4, q5⟩ := H.out.cells; rw [HOP.out] at q0; rw [ED.out] at q1) | ((with_reducible refine wl_id ?_); refine H.out.load _ rfl rfl rfl ?_) | (go_at_call 40; refine (rising_any _ H.out.len _).mono ?_; rintro e w4 ⟨v4, rfl, hI, hb4⟩; have HI := Lib.hid hI; have HB4 := Lib.hid (H.out.below.trans (hb4.mono H.out.below.size)); have HZ := Lib.hid H.out.below.size; clear hI hb4))
  go_ret
  refine ⟨_, rfl, ?_, HB4.out⟩
  have h9 := HI.out.mono (G := fun k => w.heap.size ≤ k ∧ k < w4.heap.size) fun k hk => ⟨Nat.le_trans HZ.out hk.1, hk.2⟩
  have e9 : readsL [68] i = (L16).set D true := by simp only [readsL, HOP.out, ED.out]; rfl
  rw [e9, ← E.out]
  exact h9
set_option maxRecDepth 100000 in
set_option maxHeartbeats 3200000 in
theorem Reads_24 (i : Ins) (hop : i.op = 24) (hc : chkP i = true) (w : World) :
    Calls Tryz.prog 17 #[.agg (insRow i).toArray] w fun e w' => ∃ v, e = .returned v ∧ IntsAt w' (fun k => w.heap.size ≤ k ∧ k < w'.heap.size) v (risingF (readsL [68, 98] i)) ∧ Below w.heap.size w w' := by
  obtain ⟨_, _, hd1, hs1, ht1, _⟩ := chk_parts hc
  have hpl := chk_place hc
  rw [hop] at hd1 hs1 ht1 hpl
  obtain ⟨D, hD, hDl⟩ := hasOk_yes hd1 (by rfl)
  have lD0 : (0 : Int) ≤ (D : Int) := by omega
  have lD1 : (D : Int) < 16 := by omega
  have LD := Lib.hid hDl
  have hop' := hop
  have HOP := Lib.hid hop
  have HC := Lib.hid hc
  have ED := Lib.hid hD
  clear hop hc hd1 hs1 ht1 hpl hDl
  have HCHK := Lib.hid (fun w => rCheck_any i w)
  obtain ⟨W1, hW1, hb1, hs1, hn1, _⟩ := boxed w (insRow i).toArray 29
  have k1 : W1.heap[w.heap.size]? = some (.cells (insRow i).toArray 29 (0, 0)) := by rw [hW1]; exact heap_alloc_new w _
  have HK1 := Lib.hid k1
  have HW1 := Lib.hid hW1
  have HB1 := Lib.hid hb1
  have HN1 := Lib.hid hn1
  have m1 : w.heap.size < W1.heap.size := by omega
  clear hW1 hb1 hs1 hn1 k1
  go_enter Tryz.func17, Tryz.ntmps17
  go_wp2_with (rw [← HW1.out]; refine wpList_load_row rfl 29 _ rfl w.heap.size rfl 29 (insRow i).toArray (0, 0) _ HK1.out Tryz.underlying29 rfl infoIns ?_)
  refine (HCHK.out W1).mono ?_
  rintro e w2 ⟨rfl, hb2⟩
  rw [HC.out]
  have HB2 := Lib.hid hb2
  unfold errOf
  have n0 := HN1.out 0
  have n1 := HN1.out 1
  have n2 := HN1.out 2
  have n3 := HN1.out 3
  have n4 := HN1.out 4
  have n5 := HN1.out 5
  have q0 := (hb2.cell (p := ⟨w.heap.size, 0, none⟩) m1).trans n0
  have q1 := (hb2.cell (p := ⟨w.heap.size, 1, none⟩) m1).trans n1
  have q2 := (hb2.cell (p := ⟨w.heap.size, 2, none⟩) m1).trans n2
  have q3 := (hb2.cell (p := ⟨w.heap.size, 3, none⟩) m1).trans n3
  have q4 := (hb2.cell (p := ⟨w.heap.size, 4, none⟩) m1).trans n4
  have q5 := (hb2.cell (p := ⟨w.heap.size, 5, none⟩) m1).trans n5
  clear n0 n1 n2 n3 n4 n5 hb2
  simp only [insRow, List.getElem?_toArray, List.getElem?_cons_zero, List.getElem?_cons_succ] at q0 q1 q2 q3 q4 q5
  rw [hop'] at q0
  rw [hD] at q1
  have m2 : w.heap.size < w2.heap.size := Nat.lt_of_lt_of_le m1 HB2.out.size
  obtain ⟨L0, e0⟩ : ∃ q, q = L16 := ⟨_, rfl⟩
  have E := Lib.hid e0
  have H := Lib.hid (Bools.new w w2 w.heap.size i E.out (HB1.out.trans (HB2.out.mono HB1.out.size)) ((HB2.out.block _ m1).trans HK1.out) m2)
  clear e0
  clear hop' hD
  go_upto_region 5 with (((with_reducible refine (Form_24 _).mono ?_); rintro e w3 ⟨rfl, rfl⟩))
  go_wp2_with (first | ((with_reducible refine (Has_lit ⟨#[68, 98]⟩ 83 83 rfl false _ (by decide) rfl).mono ?_); rintro e w3 ⟨rfl, rfl⟩) | ((with_reducible refine (Has_lit ⟨#[68, 98]⟩ 84 84 rfl false _ (by decide) rfl).mono ?_); rintro e w3 ⟨rfl, rfl⟩) | ((with_reducible refine (Has_lit ⟨#[68, 98]⟩ 77 77 rfl false _ (by decide) rfl).mono ?_); rintro e w3 ⟨rfl, rfl⟩) | ((with_reducible refine (Has_lit ⟨#[68, 98]⟩ 68 68 rfl true _ (by decide) rfl).mono ?_); rintro e w3 ⟨rfl, rfl⟩) | ((with_reducible refine wl_id ?_); refine H.out.store D LD.out _ _ rfl rfl rfl rfl ?_; intro W L2 hL hW; have e2 := chain_step hL E.out; clear hL E q0 q1 q2 q3 q4 q5; have E := Lib.hid e2; clear e2; clear H; have H := Lib.hid hW; clear hW; obtain ⟨q0, q1, q2, q3, q4, q5⟩ := H.out.cells; rw [HOP.out] at q0; rw [ED.out] at q1) | ((with_reducible refine wl_id ?_); refine H.out.store 2 (by decide) _ _ rfl rfl rfl rfl ?_; intro W L2 hL hW; have e2 := chain_step hL E.out; clear hL E q0 q1 q2 q3 q4 q5; have E := Lib.hid e2; clear e2; clear H; have H := Lib.hid hW; clear hW; obtain ⟨q0, q1, q2, q3, q4, q5⟩ := H.out.cells; rw [HOP.out] at q0; rw [ED.out] at q1) | ((with_reducible refine wl_id ?_); refine H.out.store 4 (by decide) _ _ rfl rfl rfl rfl ?_; intro W L2 hL hW; have e2 := chain_step hL E.out; clear hL E q0 q1 q2 q3 q4 q5; have E := Lib.hid e2; clear e2; clear H; have H := Lib.hid hW; clear hW; obtain ⟨q0, q1, q2, q3, q4, q5⟩ := H.out.cells; rw [HOP.out] at q0; rw [ED.out] at q1) | ((with_reducible refine wl_id ?_); refine H.out.load _ rfl rfl rfl ?_) | (go_at_call 40; refine (rising_any _ H.out.len _).mono ?_; rintro e w4 ⟨v4, rfl, hI, hb4⟩; have HI := Lib.hid hI; have HB4 := Lib.hid (H.out.below.trans (hb4.mono H.out.below.size)); have HZ := Lib.hid H.out.below.size; clear hI hb4))
  go_ret
  refine ⟨_, rfl, ?_, HB4.out⟩
  have h9 := HI.out.mono (G := fun k => w.heap.size ≤ k ∧ k < w4.heap.size) fun k hk => ⟨Nat.le_trans HZ.out hk.1, hk.2⟩
  have e9 : readsL [68, 98] i = (L16).set D true := by simp only [readsL, HOP.out, ED.out]; rfl
  rw [e9, ← E.out]
  exact h9
set_option maxRecDepth 100000 in
set_option maxHeartbeats 3200000 in
theorem Reads_25 (i : Ins) (hop : i.op = 25) (hc : chkP i = true) (w : World) :
    Calls Tryz.prog 17 #[.agg (insRow i).toArray] w fun e w' => ∃ v, e = .returned v ∧ IntsAt w' (fun k => w.heap.size ≤ k ∧ k < w'.heap.size) v (risingF (readsL [68, 98] i)) ∧ Below w.heap.size w w' := by
  obtain ⟨_, _, hd1, hs1, ht1, _⟩ := chk_parts hc
  have hpl := chk_place hc
  rw [hop] at hd1 hs1 ht1 hpl
  obtain ⟨D, hD, hDl⟩ := hasOk_yes hd1 (by rfl)
  have lD0 : (0 : Int) ≤ (D : Int) := by omega
  have lD1 : (D : Int) < 16 := by omega
  have LD := Lib.hid hDl
  have hop' := hop
  have HOP := Lib.hid hop
  have HC := Lib.hid hc
  have ED := Lib.hid hD
  clear hop hc hd1 hs1 ht1 hpl hDl
  have HCHK := Lib.hid (fun w => rCheck_any i w)
  obtain ⟨W1, hW1, hb1, hs1, hn1, _⟩ := boxed w (insRow i).toArray 29
  have k1 : W1.heap[w.heap.size]? = some (.cells (insRow i).toArray 29 (0, 0)) := by rw [hW1]; exact heap_alloc_new w _
  have HK1 := Lib.hid k1
  have HW1 := Lib.hid hW1
  have HB1 := Lib.hid hb1
  have HN1 := Lib.hid hn1
  have m1 : w.heap.size < W1.heap.size := by omega
  clear hW1 hb1 hs1 hn1 k1
  go_enter Tryz.func17, Tryz.ntmps17
  go_wp2_with (rw [← HW1.out]; refine wpList_load_row rfl 29 _ rfl w.heap.size rfl 29 (insRow i).toArray (0, 0) _ HK1.out Tryz.underlying29 rfl infoIns ?_)
  refine (HCHK.out W1).mono ?_
  rintro e w2 ⟨rfl, hb2⟩
  rw [HC.out]
  have HB2 := Lib.hid hb2
  unfold errOf
  have n0 := HN1.out 0
  have n1 := HN1.out 1
  have n2 := HN1.out 2
  have n3 := HN1.out 3
  have n4 := HN1.out 4
  have n5 := HN1.out 5
  have q0 := (hb2.cell (p := ⟨w.heap.size, 0, none⟩) m1).trans n0
  have q1 := (hb2.cell (p := ⟨w.heap.size, 1, none⟩) m1).trans n1
  have q2 := (hb2.cell (p := ⟨w.heap.size, 2, none⟩) m1).trans n2
  have q3 := (hb2.cell (p := ⟨w.heap.size, 3, none⟩) m1).trans n3
  have q4 := (hb2.cell (p := ⟨w.heap.size, 4, none⟩) m1).trans n4
  have q5 := (hb2.cell (p := ⟨w.heap.size, 5, none⟩) m1).trans n5
  clear n0 n1 n2 n3 n4 n5 hb2
  simp only [insRow, List.getElem?_toArray, List.getElem?_cons_zero, List.getElem?_cons_succ] at q0 q1 q2 q3 q4 q5
  rw [hop'] at q0
  rw [hD] at q1
  have m2 : w.heap.size < w2.heap.size := Nat.lt_of_lt_of_le m1 HB2.out.size
  obtain ⟨L0, e0⟩ : ∃ q, q = L16 := ⟨_, rfl⟩
  have E := Lib.hid e0
  have H := Lib.hid (Bools.new w w2 w.heap.size i E.out (HB1.out.trans (HB2.out.mono HB1.out.size)) ((HB2.out.block _ m1).trans HK1.out) m2)
  clear e0
  clear hop' hD
  go_upto_region 5 with (((with_reducible refine (Form_25 _).mono ?_); rintro e w3 ⟨rfl, rfl⟩))
  go_wp2_with (first | ((with_reducible refine (Has_lit ⟨#[68, 98]⟩ 83 83 rfl false _ (by decide) rfl).mono ?_); rintro e w3 ⟨rfl, rfl⟩) | ((with_reducible refine (Has_lit ⟨#[68, 98]⟩ 84 84 rfl false _ (by decide) rfl).mono ?_); rintro e w3 ⟨rfl, rfl⟩) | ((with_reducible refine (Has_lit ⟨#[68, 98]⟩ 77 77 rfl false _ (by decide) rfl).mono ?_); rintro e w3 ⟨rfl, rfl⟩) | ((with_reducible refine (Has_lit ⟨#[68, 98]⟩ 68 68 rfl true _ (by decide) rfl).mono ?_); rintro e w3 ⟨rfl, rfl⟩) | ((with_reducible refine wl_id ?_); refine H.out.store D LD.out _ _ rfl rfl rfl rfl ?_; intro W L2 hL hW; have e2 := chain_step hL E.out; clear hL E q0 q1 q2 q3 q4 q5; have E := Lib.hid e2; clear e2; clear H; have H := Lib.hid hW; clear hW; obtain ⟨q0, q1, q2, q3, q4, q5⟩ := H.out.cells; rw [HOP.out] at q0; rw [ED.out] at q1) | ((with_reducible refine wl_id ?_); refine H.out.store 2 (by decide) _ _ rfl rfl rfl rfl ?_; intro W L2 hL hW; have e2 := chain_step hL E.out; clear hL E q0 q1 q2 q3 q4 q5; have E := Lib.hid e2; clear e2; clear H; have H := Lib.hid hW; clear hW; obtain ⟨q0, q1, q2, q3, q4, q5⟩ := H.out.cells; rw [HOP.out] at q0; rw [ED.out] at q1) | ((with_reducible refine wl_id ?_); refine H.out.store 4 (by decide) _ _ rfl rfl rfl rfl ?_; intro W L2 hL hW; have e2 := chain_step hL E.out; clear hL E q0 q1 q2 q3 q4 q5; have E := Lib.hid e2; clear e2; clear H; have H := Lib.hid hW; clear hW; obtain ⟨q0, q1, q2, q3, q4, q5⟩ := H.out.cells; rw [HOP.out] at q0; rw [ED.out] at q1) | ((with_reducible refine wl_id ?_); refine H.out.load _ rfl rfl rfl ?_) | (go_at_call 40; refine (rising_any _ H.out.len _).mono ?_; rintro e w4 ⟨v4, rfl, hI, hb4⟩; have HI := Lib.hid hI; have HB4 := Lib.hid (H.out.below.trans (hb4.mono H.out.below.size)); have HZ := Lib.hid H.out.below.size; clear hI hb4))
  go_ret
  refine ⟨_, rfl, ?_, HB4.out⟩
  have h9 := HI.out.mono (G := fun k => w.heap.size ≤ k ∧ k < w4.heap.size) fun k hk => ⟨Nat.le_trans HZ.out hk.1, hk.2⟩
  have e9 : readsL [68, 98] i = (L16).set D true := by simp only [readsL, HOP.out, ED.out]; rfl
  rw [e9, ← E.out]
  exact h9
set_option maxRecDepth 100000 in
set_option maxHeartbeats 3200000 in
theorem Reads_26 (i : Ins) (hop : i.op = 26) (hc : chkP i = true) (w : World) :
    Calls Tryz.prog 17 #[.agg (insRow i).toArray] w fun e w' => ∃ v, e = .returned v ∧ IntsAt w' (fun k => w.heap.size ≤ k ∧ k < w'.heap.size) v (risingF (readsL [68, 83] i)) ∧ Below w.heap.size w w' := by
  obtain ⟨_, _, hd1, hs1, ht1, _⟩ := chk_parts hc
  have hpl := chk_place hc
  rw [hop] at hd1 hs1 ht1 hpl
  obtain ⟨D, hD, hDl⟩ := hasOk_yes hd1 (by rfl)
  obtain ⟨S, hS, hSl⟩ := hasOk_yes hs1 (by rfl)
  have lD0 : (0 : Int) ≤ (D : Int) := by omega
  have lD1 : (D : Int) < 16 := by omega
  have LD := Lib.hid hDl
  have lS0 : (0 : Int) ≤ (S : Int) := by omega
  have lS1 : (S : Int) < 16 := by omega
  have LS := Lib.hid hSl
  have hop' := hop
  have HOP := Lib.hid hop
  have HC := Lib.hid hc
  have ED := Lib.hid hD
  have ES := Lib.hid hS
  clear hop hc hd1 hs1 ht1 hpl hDl hSl
  have HCHK := Lib.hid (fun w => rCheck_any i w)
  obtain ⟨W1, hW1, hb1, hs1, hn1, _⟩ := boxed w (insRow i).toArray 29
  have k1 : W1.heap[w.heap.size]? = some (.cells (insRow i).toArray 29 (0, 0)) := by rw [hW1]; exact heap_alloc_new w _
  have HK1 := Lib.hid k1
  have HW1 := Lib.hid hW1
  have HB1 := Lib.hid hb1
  have HN1 := Lib.hid hn1
  have m1 : w.heap.size < W1.heap.size := by omega
  clear hW1 hb1 hs1 hn1 k1
  go_enter Tryz.func17, Tryz.ntmps17
  go_wp2_with (rw [← HW1.out]; refine wpList_load_row rfl 29 _ rfl w.heap.size rfl 29 (insRow i).toArray (0, 0) _ HK1.out Tryz.underlying29 rfl infoIns ?_)
  refine (HCHK.out W1).mono ?_
  rintro e w2 ⟨rfl, hb2⟩
  rw [HC.out]
  have HB2 := Lib.hid hb2
  unfold errOf
  have n0 := HN1.out 0
  have n1 := HN1.out 1
  have n2 := HN1.out 2
  have n3 := HN1.out 3
  have n4 := HN1.out 4
  have n5 := HN1.out 5
  have q0 := (hb2.cell (p := ⟨w.heap.size, 0, none⟩) m1).trans n0
  have q1 := (hb2.cell (p := ⟨w.heap.size, 1, none⟩) m1).trans n1
  have q2 := (hb2.cell (p := ⟨w.heap.size, 2, none⟩) m1).trans n2
  have q3 := (hb2.cell (p := ⟨w.heap.size, 3, none⟩) m1).trans n3
  have q4 := (hb2.cell (p := ⟨w.heap.size, 4, none⟩) m1).trans n4
  have q5 := (hb2.cell (p := ⟨w.heap.size, 5, none⟩) m1).trans n5
  clear n0 n1 n2 n3 n4 n5 hb2
  simp only [insRow, List.getElem?_toArray, List.getElem?_cons_zero, List.getElem?_cons_succ] at q0 q1 q2 q3 q4 q5
  rw [hop'] at q0
  rw [hD] at q1
  rw [hS] at q2
  have m2 : w.heap.size < w2.heap.size := Nat.lt_of_lt_of_le m1 HB2.out.size
  obtain ⟨L0, e0⟩ : ∃ q, q = L16 := ⟨_, rfl⟩
  have E := Lib.hid e0
  have H := Lib.hid (Bools.new w w2 w.heap.size i E.out (HB1.out.trans (HB2.out.mono HB1.out.size)) ((HB2.out.block _ m1).trans HK1.out) m2)
  clear e0
  clear hop' hD hS
  go_upto_region 5 with (((with_reducible refine (Form_26 _).mono ?_); rintro e w3 ⟨rfl, rfl⟩))
  go_wp2_with (first | ((with_reducible refine (Has_lit ⟨#[68, 83]⟩ 83 83 rfl true _ (by decide) rfl).mono ?_); rintro e w3 ⟨rfl, rfl⟩) | ((with_reducible refine (Has_lit ⟨#[68, 83]⟩ 84 84 rfl false _ (by decide) rfl).mono ?_); rintro e w3 ⟨rfl, rfl⟩) | ((with_reducible refine (Has_lit ⟨#[68, 83]⟩ 77 77 rfl false _ (by decide) rfl).mono ?_); rintro e w3 ⟨rfl, rfl⟩) | ((with_reducible refine (Has_lit ⟨#[68, 83]⟩ 68 68 rfl true _ (by decide) rfl).mono ?_); rintro e w3 ⟨rfl, rfl⟩) | ((with_reducible refine wl_id ?_); refine H.out.store D LD.out _ _ rfl rfl rfl rfl ?_; intro W L2 hL hW; have e2 := chain_step hL E.out; clear hL E q0 q1 q2 q3 q4 q5; have E := Lib.hid e2; clear e2; clear H; have H := Lib.hid hW; clear hW; obtain ⟨q0, q1, q2, q3, q4, q5⟩ := H.out.cells; rw [HOP.out] at q0; rw [ED.out] at q1; rw [ES.out] at q2) | ((with_reducible refine wl_id ?_); refine H.out.store S LS.out _ _ rfl rfl rfl rfl ?_; intro W L2 hL hW; have e2 := chain_step hL E.out; clear hL E q0 q1 q2 q3 q4 q5; have E := Lib.hid e2; clear e2; clear H; have H := Lib.hid hW; clear hW; obtain ⟨q0, q1, q2, q3, q4, q5⟩ := H.out.cells; rw [HOP.out] at q0; rw [ED.out] at q1; rw [ES.out] at q2) | ((with_reducible refine wl_id ?_); refine H.out.store 2 (by decide) _ _ rfl rfl rfl rfl ?_; intro W L2 hL hW; have e2 := chain_step hL E.out; clear hL E q0 q1 q2 q3 q4 q5; have E := Lib.hid e2; clear e2; clear H; have H := Lib.hid hW; clear hW; obtain ⟨q0, q1, q2, q3, q4, q5⟩ := H.out.cells; rw [HOP.out] at q0; rw [ED.out] at q1; rw [ES.out] at q2) | ((with_reducible refine wl_id ?_); refine H.out.store 4 (by decide) _ _ rfl rfl rfl rfl ?_; intro W L2 hL hW; have e2 := chain_step hL E.out; clear hL E q0 q1 q2 q3 q4 q5; have E := Lib.hid e2; clear e2; clear H; have H := Lib.hid hW; clear hW; obtain ⟨q0, q1, q2, q3, q4, q5⟩ := H.out.cells; rw [HOP.out] at q0; rw [ED.out] at q1; rw [ES.out] at q2) | ((with_reducible refine wl_id ?_); refine H.out.load _ rfl rfl rfl ?_) | (go_at_call 40; refine (rising_any _ H.out.len _).mono ?_; rintro e w4 ⟨v4, rfl, hI, hb4⟩; have HI := Lib.hid hI; have HB4 := Lib.hid (H.out.below.trans (hb4.mono H.out.below.size)); have HZ := Lib.hid H.out.below.size; clear hI hb4))
  go_ret
  refine ⟨_, rfl, ?_, HB4.out⟩
  have h9 := HI.out.mono (G := fun k => w.heap.size ≤ k ∧ k < w4.heap.size) fun k hk => ⟨Nat.le_trans HZ.out hk.1, hk.2⟩
  have e9 : readsL [68, 83] i = ((L16).set S true).set D true := by simp only [readsL, HOP.out, ED.out, ES.out]; rfl
  rw [e9, ← E.out]
  exact h9
set_option maxRecDepth 100000 in
set_option maxHeartbeats 3200000 in
theorem Reads_27 (i : Ins) (hop : i.op = 27) (hc : chkP i = true) (w : World) :
    Calls Tryz.prog 17 #[.agg (insRow i).toArray] w fun e w' => ∃ v, e = .returned v ∧ IntsAt w' (fun k => w.heap.size ≤ k ∧ k < w'.heap.size) v (risingF (readsL [68, 83] i)) ∧ Below w.heap.size w w' := by
  obtain ⟨_, _, hd1, hs1, ht1, _⟩ := chk_parts hc
  have hpl := chk_place hc
  rw [hop] at hd1 hs1 ht1 hpl
  obtain ⟨D, hD, hDl⟩ := hasOk_yes hd1 (by rfl)
  obtain ⟨S, hS, hSl⟩ := hasOk_yes hs1 (by rfl)
  have lD0 : (0 : Int) ≤ (D : Int) := by omega
  have lD1 : (D : Int) < 16 := by omega
  have LD := Lib.hid hDl
  have lS0 : (0 : Int) ≤ (S : Int) := by omega
  have lS1 : (S : Int) < 16 := by omega
  have LS := Lib.hid hSl
  have hop' := hop
  have HOP := Lib.hid hop
  have HC := Lib.hid hc
  have ED := Lib.hid hD
  have ES := Lib.hid hS
  clear hop hc hd1 hs1 ht1 hpl hDl hSl
  have HCHK := Lib.hid (fun w => rCheck_any i w)
  obtain ⟨W1, hW1, hb1, hs1, hn1, _⟩ := boxed w (insRow i).toArray 29
  have k1 : W1.heap[w.heap.size]? = some (.cells (insRow i).toArray 29 (0, 0)) := by rw [hW1]; exact heap_alloc_new w _
  have HK1 := Lib.hid k1
  have HW1 := Lib.hid hW1
  have HB1 := Lib.hid hb1
  have HN1 := Lib.hid hn1
  have m1 : w.heap.size < W1.heap.size := by omega
  clear hW1 hb1 hs1 hn1 k1
  go_enter Tryz.func17, Tryz.ntmps17
  go_wp2_with (rw [← HW1.out]; refine wpList_load_row rfl 29 _ rfl w.heap.size rfl 29 (insRow i).toArray (0, 0) _ HK1.out Tryz.underlying29 rfl infoIns ?_)
  refine (HCHK.out W1).mono ?_
  rintro e w2 ⟨rfl, hb2⟩
  rw [HC.out]
  have HB2 := Lib.hid hb2
  unfold errOf
  have n0 := HN1.out 0
  have n1 := HN1.out 1
  have n2 := HN1.out 2
  have n3 := HN1.out 3
  have n4 := HN1.out 4
  have n5 := HN1.out 5
  have q0 := (hb2.cell (p := ⟨w.heap.size, 0, none⟩) m1).trans n0
  have q1 := (hb2.cell (p := ⟨w.heap.size, 1, none⟩) m1).trans n1
  have q2 := (hb2.cell (p := ⟨w.heap.size, 2, none⟩) m1).trans n2
  have q3 := (hb2.cell (p := ⟨w.heap.size, 3, none⟩) m1).trans n3
  have q4 := (hb2.cell (p := ⟨w.heap.size, 4, none⟩) m1).trans n4
  have q5 := (hb2.cell (p := ⟨w.heap.size, 5, none⟩) m1).trans n5
  clear n0 n1 n2 n3 n4 n5 hb2
  simp only [insRow, List.getElem?_toArray, List.getElem?_cons_zero, List.getElem?_cons_succ] at q0 q1 q2 q3 q4 q5
  rw [hop'] at q0
  rw [hD] at q1
  rw [hS] at q2
  have m2 : w.heap.size < w2.heap.size := Nat.lt_of_lt_of_le m1 HB2.out.size
  obtain ⟨L0, e0⟩ : ∃ q, q = L16 := ⟨_, rfl⟩
  have E := Lib.hid e0
  have H := Lib.hid (Bools.new w w2 w.heap.size i E.out (HB1.out.trans (HB2.out.mono HB1.out.size)) ((HB2.out.block _ m1).trans HK1.out) m2)
  clear e0
  clear hop' hD hS
  go_upto_region 5 with (((with_reducible refine (Form_27 _).mono ?_); rintro e w3 ⟨rfl, rfl⟩))
  go_wp2_with (first | ((with_reducible refine (Has_lit ⟨#[68, 83]⟩ 83 83 rfl true _ (by decide) rfl).mono ?_); rintro e w3 ⟨rfl, rfl⟩) | ((with_reducible refine (Has_lit ⟨#[68, 83]⟩ 84 84 rfl false _ (by decide) rfl).mono ?_); rintro e w3 ⟨rfl, rfl⟩) | ((with_reducible refine (Has_lit ⟨#[68, 83]⟩ 77 77 rfl false _ (by decide) rfl).mono ?_); rintro e w3 ⟨rfl, rfl⟩) | ((with_reducible refine (Has_lit ⟨#[68, 83]⟩ 68 68 rfl true _ (by decide) rfl).mono ?_); rintro e w3 ⟨rfl, rfl⟩) | ((with_reducible refine wl_id ?_); refine H.out.store D LD.out _ _ rfl rfl rfl rfl ?_; intro W L2 hL hW; have e2 := chain_step hL E.out; clear hL E q0 q1 q2 q3 q4 q5; have E := Lib.hid e2; clear e2; clear H; have H := Lib.hid hW; clear hW; obtain ⟨q0, q1, q2, q3, q4, q5⟩ := H.out.cells; rw [HOP.out] at q0; rw [ED.out] at q1; rw [ES.out] at q2) | ((with_reducible refine wl_id ?_); refine H.out.store S LS.out _ _ rfl rfl rfl rfl ?_; intro W L2 hL hW; have e2 := chain_step hL E.out; clear hL E q0 q1 q2 q3 q4 q5; have E := Lib.hid e2; clear e2; clear H; have H := Lib.hid hW; clear hW; obtain ⟨q0, q1, q2, q3, q4, q5⟩ := H.out.cells; rw [HOP.out] at q0; rw [ED.out] at q1; rw [ES.out] at q2) | ((with_reducible refine wl_id ?_); refine H.out.store 2 (by decide) _ _ rfl rfl rfl rfl ?_; intro W L2 hL hW; have e2 := chain_step hL E.out; clear hL E q0 q1 q2 q3 q4 q5; have E := Lib.hid e2; clear e2; clear H; have H := Lib.hid hW; clear hW; obtain ⟨q0, q1, q2, q3, q4, q5⟩ := H.out.cells; rw [HOP.out] at q0; rw [ED.out] at q1; rw [ES.out] at q2) | ((with_reducible refine wl_id ?_); refine H.out.store 4 (by decide) _ _ rfl rfl rfl rfl ?_; intro W L2 hL hW; have e2 := chain_step hL E.out; clear hL E q0 q1 q2 q3 q4 q5; have E := Lib.hid e2; clear e2; clear H; have H := Lib.hid hW; clear hW; obtain ⟨q0, q1, q2, q3, q4, q5⟩ := H.out.cells; rw [HOP.out] at q0; rw [ED.out] at q1; rw [ES.out] at q2) | ((with_reducible refine wl_id ?_); refine H.out.load _ rfl rfl rfl ?_) | (go_at_call 40; refine (rising_any _ H.out.len _).mono ?_; rintro e w4 ⟨v4, rfl, hI, hb4⟩; have HI := Lib.hid hI; have HB4 := Lib.hid (H.out.below.trans (hb4.mono H.out.below.size)); have HZ := Lib.hid H.out.below.size; clear hI hb4))
  go_ret
  refine ⟨_, rfl, ?_, HB4.out⟩
  have h9 := HI.out.mono (G := fun k => w.heap.size ≤ k ∧ k < w4.heap.size) fun k hk => ⟨Nat.le_trans HZ.out hk.1, hk.2⟩
  have e9 : readsL [68, 83] i = ((L16).set S true).set D true := by simp only [readsL, HOP.out, ED.out, ES.out]; rfl
  rw [e9, ← E.out]
  exact h9
set_option maxRecDepth 100000 in
set_option maxHeartbeats 3200000 in
theorem Reads_28 (i : Ins) (hop : i.op = 28) (hc : chkP i = true) (w : World) :
    Calls Tryz.prog 17 #[.agg (insRow i).toArray] w fun e w' => ∃ v, e = .returned v ∧ IntsAt w' (fun k => w.heap.size ≤ k ∧ k < w'.heap.size) v (risingF (readsL [83] i)) ∧ Below w.heap.size w w' := by
  obtain ⟨_, _, hd1, hs1, ht1, _⟩ := chk_parts hc
  have hpl := chk_place hc
  rw [hop] at hd1 hs1 ht1 hpl
  obtain ⟨S, hS, hSl⟩ := hasOk_yes hs1 (by rfl)
  have lS0 : (0 : Int) ≤ (S : Int) := by omega
  have lS1 : (S : Int) < 16 := by omega
  have LS := Lib.hid hSl
  have hop' := hop
  have HOP := Lib.hid hop
  have HC := Lib.hid hc
  have ES := Lib.hid hS
  clear hop hc hd1 hs1 ht1 hpl hSl
  have HCHK := Lib.hid (fun w => rCheck_any i w)
  obtain ⟨W1, hW1, hb1, hs1, hn1, _⟩ := boxed w (insRow i).toArray 29
  have k1 : W1.heap[w.heap.size]? = some (.cells (insRow i).toArray 29 (0, 0)) := by rw [hW1]; exact heap_alloc_new w _
  have HK1 := Lib.hid k1
  have HW1 := Lib.hid hW1
  have HB1 := Lib.hid hb1
  have HN1 := Lib.hid hn1
  have m1 : w.heap.size < W1.heap.size := by omega
  clear hW1 hb1 hs1 hn1 k1
  go_enter Tryz.func17, Tryz.ntmps17
  go_wp2_with (rw [← HW1.out]; refine wpList_load_row rfl 29 _ rfl w.heap.size rfl 29 (insRow i).toArray (0, 0) _ HK1.out Tryz.underlying29 rfl infoIns ?_)
  refine (HCHK.out W1).mono ?_
  rintro e w2 ⟨rfl, hb2⟩
  rw [HC.out]
  have HB2 := Lib.hid hb2
  unfold errOf
  have n0 := HN1.out 0
  have n1 := HN1.out 1
  have n2 := HN1.out 2
  have n3 := HN1.out 3
  have n4 := HN1.out 4
  have n5 := HN1.out 5
  have q0 := (hb2.cell (p := ⟨w.heap.size, 0, none⟩) m1).trans n0
  have q1 := (hb2.cell (p := ⟨w.heap.size, 1, none⟩) m1).trans n1
  have q2 := (hb2.cell (p := ⟨w.heap.size, 2, none⟩) m1).trans n2
  have q3 := (hb2.cell (p := ⟨w.heap.size, 3, none⟩) m1).trans n3
  have q4 := (hb2.cell (p := ⟨w.heap.size, 4, none⟩) m1).trans n4
  have q5 := (hb2.cell (p := ⟨w.heap.size, 5, none⟩) m1).trans n5
  clear n0 n1 n2 n3 n4 n5 hb2
  simp only [insRow, List.getElem?_toArray, List.getElem?_cons_zero, List.getElem?_cons_succ] at q0 q1 q2 q3 q4 q5
  rw [hop'] at q0
  rw [hS] at q2
  have m2 : w.heap.size < w2.heap.size := Nat.lt_of_lt_of_le m1 HB2.out.size
  obtain ⟨L0, e0⟩ : ∃ q, q = L16 := ⟨_, rfl⟩
  have E := Lib.hid e0
  have H := Lib.hid (Bools.new w w2 w.heap.size i E.out (HB1.out.trans (HB2.out.mono HB1.out.size)) ((HB2.out.block _ m1).trans HK1.out) m2)
  clear e0
  clear hop' hS
  go_upto_region 5 with (((with_reducible refine (Form_28 _).mono ?_); rintro e w3 ⟨rfl, rfl⟩))
  go_wp2_with (first | ((with_reducible refine (Has_lit ⟨#[83]⟩ 83 83 rfl true _ (by decide) rfl).mono ?_); rintro e w3 ⟨rfl, rfl⟩) | ((with_reducible refine (Has_lit ⟨#[83]⟩ 84 84 rfl false _ (by decide) rfl).mono ?_); rintro e w3 ⟨rfl, rfl⟩) | ((with_reducible refine (Has_lit ⟨#[83]⟩ 77 77 rfl false _ (by decide) rfl).mono ?_); rintro e w3 ⟨rfl, rfl⟩) | ((with_reducible refine (Has_lit ⟨#[83]⟩ 68 68 rfl false _ (by decide) rfl).mono ?_); rintro e w3 ⟨rfl, rfl⟩) | ((with_reducible refine wl_id ?_); refine H.out.store S LS.out _ _ rfl rfl rfl rfl ?_; intro W L2 hL hW; have e2 := chain_step hL E.out; clear hL E q0 q1 q2 q3 q4 q5; have E := Lib.hid e2; clear e2; clear H; have H := Lib.hid hW; clear hW; obtain ⟨q0, q1, q2, q3, q4, q5⟩ := H.out.cells; rw [HOP.out] at q0; rw [ES.out] at q2) | ((with_reducible refine wl_id ?_); refine H.out.store 2 (by decide) _ _ rfl rfl rfl rfl ?_; intro W L2 hL hW; have e2 := chain_step hL E.out; clear hL E q0 q1 q2 q3 q4 q5; have E := Lib.hid e2; clear e2; clear H; have H := Lib.hid hW; clear hW; obtain ⟨q0, q1, q2, q3, q4, q5⟩ := H.out.cells; rw [HOP.out] at q0; rw [ES.out] at q2) | ((with_reducible refine wl_id ?_); refine H.out.store 4 (by decide) _ _ rfl rfl rfl rfl ?_; intro W L2 hL hW; have e2 := chain_step hL E.out; clear hL E q0 q1 q2 q3 q4 q5; have E := Lib.hid e2; clear e2; clear H; have H := Lib.hid hW; clear hW; obtain ⟨q0, q1, q2, q3, q4, q5⟩ := H.out.cells; rw [HOP.out] at q0; rw [ES.out] at q2) | ((with_reducible refine wl_id ?_); refine H.out.load _ rfl rfl rfl ?_) | (go_at_call 40; refine (rising_any _ H.out.len _).mono ?_; rintro e w4 ⟨v4, rfl, hI, hb4⟩; have HI := Lib.hid hI; have HB4 := Lib.hid (H.out.below.trans (hb4.mono H.out.below.size)); have HZ := Lib.hid H.out.below.size; clear hI hb4))
  go_ret
  refine ⟨_, rfl, ?_, HB4.out⟩
  have h9 := HI.out.mono (G := fun k => w.heap.size ≤ k ∧ k < w4.heap.size) fun k hk => ⟨Nat.le_trans HZ.out hk.1, hk.2⟩
  have e9 : readsL [83] i = ((L16).set S true).set 4 true := by simp only [readsL, HOP.out, ES.out]; rfl
  rw [e9, ← E.out]
  exact h9
set_option maxRecDepth 100000 in
set_option maxHeartbeats 3200000 in
theorem Reads_29 (i : Ins) (hop : i.op = 29) (hc : chkP i = true) (w : World) :
    Calls Tryz.prog 17 #[.agg (insRow i).toArray] w fun e w' => ∃ v, e = .returned v ∧ IntsAt w' (fun k => w.heap.size ≤ k ∧ k < w'.heap.size) v (risingF (readsL [68] i)) ∧ Below w.heap.size w w' := by
  obtain ⟨_, _, hd1, hs1, ht1, _⟩ := chk_parts hc
  have hpl := chk_place hc
  rw [hop] at hd1 hs1 ht1 hpl
  have hop' := hop
  have HOP := Lib.hid hop
  have HC := Lib.hid hc
  clear hop hc hd1 hs1 ht1 hpl
  have HCHK := Lib.hid (fun w => rCheck_any i w)
  obtain ⟨W1, hW1, hb1, hs1, hn1, _⟩ := boxed w (insRow i).toArray 29
  have k1 : W1.heap[w.heap.size]? = some (.cells (insRow i).toArray 29 (0, 0)) := by rw [hW1]; exact heap_alloc_new w _
  have HK1 := Lib.hid k1
  have HW1 := Lib.hid hW1
  have HB1 := Lib.hid hb1
  have HN1 := Lib.hid hn1
  have m1 : w.heap.size < W1.heap.size := by omega
  clear hW1 hb1 hs1 hn1 k1
  go_enter Tryz.func17, Tryz.ntmps17
  go_wp2_with (rw [← HW1.out]; refine wpList_load_row rfl 29 _ rfl w.heap.size rfl 29 (insRow i).toArray (0, 0) _ HK1.out Tryz.underlying29 rfl infoIns ?_)
  refine (HCHK.out W1).mono ?_
  rintro e w2 ⟨rfl, hb2⟩
  rw [HC.out]
  have HB2 := Lib.hid hb2
  unfold errOf
  have n0 := HN1.out 0
  have n1 := HN1.out 1
  have n2 := HN1.out 2
  have n3 := HN1.out 3
  have n4 := HN1.out 4
  have n5 := HN1.out 5
  have q0 := (hb2.cell (p := ⟨w.heap.size, 0, none⟩) m1).trans n0
  have q1 := (hb2.cell (p := ⟨w.heap.size, 1, none⟩) m1).trans n1
  have q2 := (hb2.cell (p := ⟨w.heap.size, 2, none⟩) m1).trans n2
  have q3 := (hb2.cell (p := ⟨w.heap.size, 3, none⟩) m1).trans n3
  have q4 := (hb2.cell (p := ⟨w.heap.size, 4, none⟩) m1).trans n4
  have q5 := (hb2.cell (p := ⟨w.heap.size, 5, none⟩) m1).trans n5
  clear n0 n1 n2 n3 n4 n5 hb2
  simp only [insRow, List.getElem?_toArray, List.getElem?_cons_zero, List.getElem?_cons_succ] at q0 q1 q2 q3 q4 q5
  rw [hop'] at q0
  have m2 : w.heap.size < w2.heap.size := Nat.lt_of_lt_of_le m1 HB2.out.size
  obtain ⟨L0, e0⟩ : ∃ q, q = L16 := ⟨_, rfl⟩
  have E := Lib.hid e0
  have H := Lib.hid (Bools.new w w2 w.heap.size i E.out (HB1.out.trans (HB2.out.mono HB1.out.size)) ((HB2.out.block _ m1).trans HK1.out) m2)
  clear e0
  clear hop'
  go_upto_region 5 with (((with_reducible refine (Form_29 _).mono ?_); rintro e w3 ⟨rfl, rfl⟩))
  go_wp2_with (first | ((with_reducible refine (Has_lit ⟨#[68]⟩ 83 83 rfl false _ (by decide) rfl).mono ?_); rintro e w3 ⟨rfl, rfl⟩) | ((with_reducible refine (Has_lit ⟨#[68]⟩ 84 84 rfl false _ (by decide) rfl).mono ?_); rintro e w3 ⟨rfl, rfl⟩) | ((with_reducible refine (Has_lit ⟨#[68]⟩ 77 77 rfl false _ (by decide) rfl).mono ?_); rintro e w3 ⟨rfl, rfl⟩) | ((with_reducible refine (Has_lit ⟨#[68]⟩ 68 68 rfl true _ (by decide) rfl).mono ?_); rintro e w3 ⟨rfl, rfl⟩) | ((with_reducible refine wl_id ?_); refine H.out.store 2 (by decide) _ _ rfl rfl rfl rfl ?_; intro W L2 hL hW; have e2 := chain_step hL E.out; clear hL E q0 q1 q2 q3 q4 q5; have E := Lib.hid e2; clear e2; clear H; have H := Lib.hid hW; clear hW; obtain ⟨q0, q1, q2, q3, q4, q5⟩ := H.out.cells; rw [HOP.out] at q0) | ((with_reducible refine wl_id ?_); refine H.out.store 4 (by decide) _ _ rfl rfl rfl rfl ?_; intro W L2 hL hW; have e2 := chain_step hL E.out; clear hL E q0 q1 q2 q3 q4 q5; have E := Lib.hid e2; clear e2; clear H; have H := Lib.hid hW; clear hW; obtain ⟨q0, q1, q2, q3, q4, q5⟩ := H.out.cells; rw [HOP.out] at q0) | ((with_reducible refine wl_id ?_); refine H.out.load _ rfl rfl rfl ?_) | (go_at_call 40; refine (rising_any _ H.out.len _).mono ?_; rintro e w4 ⟨v4, rfl, hI, hb4⟩; have HI := Lib.hid hI; have HB4 := Lib.hid (H.out.below.trans (hb4.mono H.out.below.size)); have HZ := Lib.hid H.out.below.size; clear hI hb4))
  go_ret
  refine ⟨_, rfl, ?_, HB4.out⟩
  have h9 := HI.out.mono (G := fun k => w.heap.size ≤ k ∧ k < w4.heap.size) fun k hk => ⟨Nat.le_trans HZ.out hk.1, hk.2⟩
  have e9 : readsL [68] i = (L16).set 4 true := by simp only [readsL, HOP.out]; rfl
  rw [e9, ← E.out]
  exact h9
set_option maxRecDepth 100000 in
set_option maxHeartbeats 3200000 in
theorem Reads_30 (i : Ins) (hop : i.op = 30) (hc : chkP i = true) (w : World) :
    Calls Tryz.prog 17 #[.agg (insRow i).toArray] w fun e w' => ∃ v, e = .returned v ∧ IntsAt w' (fun k => w.heap.size ≤ k ∧ k < w'.heap.size) v (risingF (readsL [105] i)) ∧ Below w.heap.size w w' := by
  obtain ⟨_, _, hd1, hs1, ht1, _⟩ := chk_parts hc
  have hpl := chk_place hc
  rw [hop] at hd1 hs1 ht1 hpl
  have hop' := hop
  have HOP := Lib.hid hop
  have HC := Lib.hid hc
  clear hop hc hd1 hs1 ht1 hpl
  have HCHK := Lib.hid (fun w => rCheck_any i w)
  obtain ⟨W1, hW1, hb1, hs1, hn1, _⟩ := boxed w (insRow i).toArray 29
  have k1 : W1.heap[w.heap.size]? = some (.cells (insRow i).toArray 29 (0, 0)) := by rw [hW1]; exact heap_alloc_new w _
  have HK1 := Lib.hid k1
  have HW1 := Lib.hid hW1
  have HB1 := Lib.hid hb1
  have HN1 := Lib.hid hn1
  have m1 : w.heap.size < W1.heap.size := by omega
  clear hW1 hb1 hs1 hn1 k1
  go_enter Tryz.func17, Tryz.ntmps17
  go_wp2_with (rw [← HW1.out]; refine wpList_load_row rfl 29 _ rfl w.heap.size rfl 29 (insRow i).toArray (0, 0) _ HK1.out Tryz.underlying29 rfl infoIns ?_)
  refine (HCHK.out W1).mono ?_
  rintro e w2 ⟨rfl, hb2⟩
  rw [HC.out]
  have HB2 := Lib.hid hb2
  unfold errOf
  have n0 := HN1.out 0
  have n1 := HN1.out 1
  have n2 := HN1.out 2
  have n3 := HN1.out 3
  have n4 := HN1.out 4
  have n5 := HN1.out 5
  have q0 := (hb2.cell (p := ⟨w.heap.size, 0, none⟩) m1).trans n0
  have q1 := (hb2.cell (p := ⟨w.heap.size, 1, none⟩) m1).trans n1
  have q2 := (hb2.cell (p := ⟨w.heap.size, 2, none⟩) m1).trans n2
  have q3 := (hb2.cell (p := ⟨w.heap.size, 3, none⟩) m1).trans n3
  have q4 := (hb2.cell (p := ⟨w.heap.size, 4, none⟩) m1).trans n4
  have q5 := (hb2.cell (p := ⟨w.heap.size, 5, none⟩) m1).trans n5
  clear n0 n1 n2 n3 n4 n5 hb2
  simp only [insRow, List.getElem?_toArray, List.getElem?_cons_zero, List.getElem?_cons_succ] at q0 q1 q2 q3 q4 q5
  rw [hop'] at q0
  have m2 : w.heap.size < w2.heap.size := Nat.lt_of_lt_of_le m1 HB2.out.size
  obtain ⟨L0, e0⟩ : ∃ q, q = L16 := ⟨_, rfl⟩
  have E := Lib.hid e0
  have H := Lib.hid (Bools.new w w2 w.heap.size i E.out (HB1.out.trans (HB2.out.mono HB1.out.size)) ((HB2.out.block _ m1).trans HK1.out) m2)
  clear e0
  clear hop'
  go_upto_region 5 with (((with_reducible refine (Form_30 _).mono ?_); rintro e w3 ⟨rfl, rfl⟩))
  go_wp2_with (first | ((with_reducible refine (Has_lit ⟨#[105]⟩ 83 83 rfl false _ (by decide) rfl).mono ?_); rintro e w3 ⟨rfl, rfl⟩) | ((with_reducible refine (Has_lit ⟨#[105]⟩ 84 84 rfl false _ (by decide) rfl).mono ?_); rintro e w3 ⟨rfl, rfl⟩) | ((with_reducible refine (Has_lit ⟨#[105]⟩ 77 77 rfl false _ (by decide) rfl).mono ?_); rintro e w3 ⟨rfl, rfl⟩) | ((with_reducible refine (Has_lit ⟨#[105]⟩ 68 68 rfl false _ (by decide) rfl).mono ?_); rintro e w3 ⟨rfl, rfl⟩) | ((with_reducible refine wl_id ?_); refine H.out.store 2 (by decide) _ _ rfl rfl rfl rfl ?_; intro W L2 hL hW; have e2 := chain_step hL E.out; clear hL E q0 q1 q2 q3 q4 q5; have E := Lib.hid e2; clear e2; clear H; have H := Lib.hid hW; clear hW; obtain ⟨q0, q1, q2, q3, q4, q5⟩ := H.out.cells; rw [HOP.out] at q0) | ((with_reducible refine wl_id ?_); refine H.out.store 4 (by decide) _ _ rfl rfl rfl rfl ?_; intro W L2 hL hW; have e2 := chain_step hL E.out; clear hL E q0 q1 q2 q3 q4 q5; have E := Lib.hid e2; clear e2; clear H; have H := Lib.hid hW; clear hW; obtain ⟨q0, q1, q2, q3, q4, q5⟩ := H.out.cells; rw [HOP.out] at q0) | ((with_reducible refine wl_id ?_); refine H.out.load _ rfl rfl rfl ?_) | (go_at_call 40; refine (rising_any _ H.out.len _).mono ?_; rintro e w4 ⟨v4, rfl, hI, hb4⟩; have HI := Lib.hid hI; have HB4 := Lib.hid (H.out.below.trans (hb4.mono H.out.below.size)); have HZ := Lib.hid H.out.below.size; clear hI hb4))
  go_ret
  refine ⟨_, rfl, ?_, HB4.out⟩
  have h9 := HI.out.mono (G := fun k => w.heap.size ≤ k ∧ k < w4.heap.size) fun k hk => ⟨Nat.le_trans HZ.out hk.1, hk.2⟩
  have e9 : readsL [105] i = L16 := by simp only [readsL, HOP.out]; rfl
  rw [e9, ← E.out]
  exact h9
set_option maxRecDepth 100000 in
set_option maxHeartbeats 3200000 in
theorem Reads_31 (i : Ins) (hop : i.op = 31) (hc : chkP i = true) (w : World) :
    Calls Tryz.prog 17 #[.agg (insRow i).toArray] w fun e w' => ∃ v, e = .returned v ∧ IntsAt w' (fun k => w.heap.size ≤ k ∧ k < w'.heap.size) v (risingF (readsL [105] i)) ∧ Below w.heap.size w w' := by
  obtain ⟨_, _, hd1, hs1, ht1, _⟩ := chk_parts hc
  have hpl := chk_place hc
  rw [hop] at hd1 hs1 ht1 hpl
  have hop' := hop
  have HOP := Lib.hid hop
  have HC := Lib.hid hc
  clear hop hc hd1 hs1 ht1 hpl
  have HCHK := Lib.hid (fun w => rCheck_any i w)
  obtain ⟨W1, hW1, hb1, hs1, hn1, _⟩ := boxed w (insRow i).toArray 29
  have k1 : W1.heap[w.heap.size]? = some (.cells (insRow i).toArray 29 (0, 0)) := by rw [hW1]; exact heap_alloc_new w _
  have HK1 := Lib.hid k1
  have HW1 := Lib.hid hW1
  have HB1 := Lib.hid hb1
  have HN1 := Lib.hid hn1
  have m1 : w.heap.size < W1.heap.size := by omega
  clear hW1 hb1 hs1 hn1 k1
  go_enter Tryz.func17, Tryz.ntmps17
  go_wp2_with (rw [← HW1.out]; refine wpList_load_row rfl 29 _ rfl w.heap.size rfl 29 (insRow i).toArray (0, 0) _ HK1.out Tryz.underlying29 rfl infoIns ?_)
  refine (HCHK.out W1).mono ?_
  rintro e w2 ⟨rfl, hb2⟩
  rw [HC.out]
  have HB2 := Lib.hid hb2
  unfold errOf
  have n0 := HN1.out 0
  have n1 := HN1.out 1
  have n2 := HN1.out 2
  have n3 := HN1.out 3
  have n4 := HN1.out 4
  have n5 := HN1.out 5
  have q0 := (hb2.cell (p := ⟨w.heap.size, 0, none⟩) m1).trans n0
  have q1 := (hb2.cell (p := ⟨w.heap.size, 1, none⟩) m1).trans n1
  have q2 := (hb2.cell (p := ⟨w.heap.size, 2, none⟩) m1).trans n2
  have q3 := (hb2.cell (p := ⟨w.heap.size, 3, none⟩) m1).trans n3
  have q4 := (hb2.cell (p := ⟨w.heap.size, 4, none⟩) m1).trans n4
  have q5 := (hb2.cell (p := ⟨w.heap.size, 5, none⟩) m1).trans n5
  clear n0 n1 n2 n3 n4 n5 hb2
  simp only [insRow, List.getElem?_toArray, List.getElem?_cons_zero, List.getElem?_cons_succ] at q0 q1 q2 q3 q4 q5
  rw [hop'] at q0
  have m2 : w.heap.size < w2.heap.size := Nat.lt_of_lt_of_le m1 HB2.out.size
  obtain ⟨L0, e0⟩ : ∃ q, q = L16 := ⟨_, rfl⟩
  have E := Lib.hid e0
  have H := Lib.hid (Bools.new w w2 w.heap.size i E.out (HB1.out.trans (HB2.out.mono HB1.out.size)) ((HB2.out.block _ m1).trans HK1.out) m2)
  clear e0
  clear hop'
  go_upto_region 5 with (((with_reducible refine (Form_31 _).mono ?_); rintro e w3 ⟨rfl, rfl⟩))
  go_wp2_with (first | ((with_reducible refine (Has_lit ⟨#[105]⟩ 83 83 rfl false _ (by decide) rfl).mono ?_); rintro e w3 ⟨rfl, rfl⟩) | ((with_reducible refine (Has_lit ⟨#[105]⟩ 84 84 rfl false _ (by decide) rfl).mono ?_); rintro e w3 ⟨rfl, rfl⟩) | ((with_reducible refine (Has_lit ⟨#[105]⟩ 77 77 rfl false _ (by decide) rfl).mono ?_); rintro e w3 ⟨rfl, rfl⟩) | ((with_reducible refine (Has_lit ⟨#[105]⟩ 68 68 rfl false _ (by decide) rfl).mono ?_); rintro e w3 ⟨rfl, rfl⟩) | ((with_reducible refine wl_id ?_); refine H.out.store 2 (by decide) _ _ rfl rfl rfl rfl ?_; intro W L2 hL hW; have e2 := chain_step hL E.out; clear hL E q0 q1 q2 q3 q4 q5; have E := Lib.hid e2; clear e2; clear H; have H := Lib.hid hW; clear hW; obtain ⟨q0, q1, q2, q3, q4, q5⟩ := H.out.cells; rw [HOP.out] at q0) | ((with_reducible refine wl_id ?_); refine H.out.store 4 (by decide) _ _ rfl rfl rfl rfl ?_; intro W L2 hL hW; have e2 := chain_step hL E.out; clear hL E q0 q1 q2 q3 q4 q5; have E := Lib.hid e2; clear e2; clear H; have H := Lib.hid hW; clear hW; obtain ⟨q0, q1, q2, q3, q4, q5⟩ := H.out.cells; rw [HOP.out] at q0) | ((with_reducible refine wl_id ?_); refine H.out.load _ rfl rfl rfl ?_) | (go_at_call 40; refine (rising_any _ H.out.len _).mono ?_; rintro e w4 ⟨v4, rfl, hI, hb4⟩; have HI := Lib.hid hI; have HB4 := Lib.hid (H.out.below.trans (hb4.mono H.out.below.size)); have HZ := Lib.hid H.out.below.size; clear hI hb4))
  go_ret
  refine ⟨_, rfl, ?_, HB4.out⟩
  have h9 := HI.out.mono (G := fun k => w.heap.size ≤ k ∧ k < w4.heap.size) fun k hk => ⟨Nat.le_trans HZ.out hk.1, hk.2⟩
  have e9 : readsL [105] i = L16 := by simp only [readsL, HOP.out]; rfl
  rw [e9, ← E.out]
  exact h9
set_option maxRecDepth 100000 in
set_option maxHeartbeats 3200000 in
theorem Reads_32 (i : Ins) (hop : i.op = 32) (hc : chkP i = true) (w : World) :
    Calls Tryz.prog 17 #[.agg (insRow i).toArray] w fun e w' => ∃ v, e = .returned v ∧ IntsAt w' (fun k => w.heap.size ≤ k ∧ k < w'.heap.size) v (risingF (readsL [105] i)) ∧ Below w.heap.size w w' := by
  obtain ⟨_, _, hd1, hs1, ht1, _⟩ := chk_parts hc
  have hpl := chk_place hc
  rw [hop] at hd1 hs1 ht1 hpl
  have hop' := hop
  have HOP := Lib.hid hop
  have HC := Lib.hid hc
  clear hop hc hd1 hs1 ht1 hpl
  have HCHK := Lib.hid (fun w => rCheck_any i w)
  obtain ⟨W1, hW1, hb1, hs1, hn1, _⟩ := boxed w (insRow i).toArray 29
  have k1 : W1.heap[w.heap.size]? = some (.cells (insRow i).toArray 29 (0, 0)) := by rw [hW1]; exact heap_alloc_new w _
  have HK1 := Lib.hid k1
  have HW1 := Lib.hid hW1
  have HB1 := Lib.hid hb1
  have HN1 := Lib.hid hn1
  have m1 : w.heap.size < W1.heap.size := by omega
  clear hW1 hb1 hs1 hn1 k1
  go_enter Tryz.func17, Tryz.ntmps17
  go_wp2_with (rw [← HW1.out]; refine wpList_load_row rfl 29 _ rfl w.heap.size rfl 29 (insRow i).toArray (0, 0) _ HK1.out Tryz.underlying29 rfl infoIns ?_)
  refine (HCHK.out W1).mono ?_
  rintro e w2 ⟨rfl, hb2⟩
  rw [HC.out]
  have HB2 := Lib.hid hb2
  unfold errOf
  have n0 := HN1.out 0
  have n1 := HN1.out 1
  have n2 := HN1.out 2
  have n3 := HN1.out 3
  have n4 := HN1.out 4
  have n5 := HN1.out 5
  have q0 := (hb2.cell (p := ⟨w.heap.size, 0, none⟩) m1).trans n0
  have q1 := (hb2.cell (p := ⟨w.heap.size, 1, none⟩) m1).trans n1
  have q2 := (hb2.cell (p := ⟨w.heap.size, 2, none⟩) m1).trans n2
  have q3 := (hb2.cell (p := ⟨w.heap.size, 3, none⟩) m1).trans n3
  have q4 := (hb2.cell (p := ⟨w.heap.size, 4, none⟩) m1).trans n4
  have q5 := (hb2.cell (p := ⟨w.heap.size, 5, none⟩) m1).trans n5
  clear n0 n1 n2 n3 n4 n5 hb2
  simp only [insRow, List.getElem?_toArray, List.getElem?_cons_zero, List.getElem?_cons_succ] at q0 q1 q2 q3 q4 q5
  rw [hop'] at q0
  have m2 : w.heap.size < w2.heap.size := Nat.lt_of_lt_of_le m1 HB2.out.size
  obtain ⟨L0, e0⟩ : ∃ q, q = L16 := ⟨_, rfl⟩
  have E := Lib.hid e0
  have H := Lib.hid (Bools.new w w2 w.heap.size i E.out (HB1.out.trans (HB2.out.mono HB1.out.size)) ((HB2.out.block _ m1).trans HK1.out) m2)
  clear e0
  clear hop'
  go_upto_region 5 with (((with_reducible refine (Form_32 _).mono ?_); rintro e w3 ⟨rfl, rfl⟩))
  go_wp2_with (first | ((with_reducible refine (Has_lit ⟨#[105]⟩ 83 83 rfl false _ (by decide) rfl).mono ?_); rintro e w3 ⟨rfl, rfl⟩) | ((with_reducible refine (Has_lit ⟨#[105]⟩ 84 84 rfl false _ (by decide) rfl).mono ?_); rintro e w3 ⟨rfl, rfl⟩) | ((with_reducible refine (Has_lit ⟨#[105]⟩ 77 77 rfl false _ (by decide) rfl).mono ?_); rintro e w3 ⟨rfl, rfl⟩) | ((with_reducible refine (Has_lit ⟨#[105]⟩ 68 68 rfl false _ (by decide) rfl).mono ?_); rintro e w3 ⟨rfl, rfl⟩) | ((with_reducible refine wl_id ?_); refine H.out.store 2 (by decide) _ _ rfl rfl rfl rfl ?_; intro W L2 hL hW; have e2 := chain_step hL E.out; clear hL E q0 q1 q2 q3 q4 q5; have E := Lib.hid e2; clear e2; clear H; have H := Lib.hid hW; clear hW; obtain ⟨q0, q1, q2, q3, q4, q5⟩ := H.out.cells; rw [HOP.out] at q0) | ((with_reducible refine wl_id ?_); refine H.out.store 4 (by decide) _ _ rfl rfl rfl rfl ?_; intro W L2 hL hW; have e2 := chain_step hL E.out; clear hL E q0 q1 q2 q3 q4 q5; have E := Lib.hid e2; clear e2; clear H; have H := Lib.hid hW; clear hW; obtain ⟨q0, q1, q2, q3, q4, q5⟩ := H.out.cells; rw [HOP.out] at q0) | ((with_reducible refine wl_id ?_); refine H.out.load _ rfl rfl rfl ?_) | (go_at_call 40; refine (rising_any _ H.out.len _).mono ?_; rintro e w4 ⟨v4, rfl, hI, hb4⟩; have HI := Lib.hid hI; have HB4 := Lib.hid (H.out.below.trans (hb4.mono H.out.below.size)); have HZ := Lib.hid H.out.below.size; clear hI hb4))
  go_ret
  refine ⟨_, rfl, ?_, HB4.out⟩
  have h9 := HI.out.mono (G := fun k => w.heap.size ≤ k ∧ k < w4.heap.size) fun k hk => ⟨Nat.le_trans HZ.out hk.1, hk.2⟩
  have e9 : readsL [105] i = L16 := by simp only [readsL, HOP.out]; rfl
  rw [e9, ← E.out]
  exact h9
set_option maxRecDepth 100000 in
set_option maxHeartbeats 3200000 in
theorem Reads_33 (i : Ins) (hop : i.op = 33) (hc : chkP i = true) (w : World) :
    Calls Tryz.prog 17 #[.agg (insRow i).toArray] w fun e w' => ∃ v, e = .returned v ∧ IntsAt w' (fun k => w.heap.size ≤ k ∧ k < w'.heap.size) v (risingF (readsL [45] i)) ∧ Below w.heap.size w w' := by
  obtain ⟨_, _, hd1, hs1, ht1, _⟩ := chk_parts hc
  have hpl := chk_place hc
  rw [hop] at hd1 hs1 ht1 hpl
  have hop' := hop
  have HOP := Lib.hid hop
  have HC := Lib.hid hc
  clear hop hc hd1 hs1 ht1 hpl
  have HCHK := Lib.hid (fun w => rCheck_any i w)
  obtain ⟨W1, hW1, hb1, hs1, hn1, _⟩ := boxed w (insRow i).toArray 29
  have k1 : W1.heap[w.heap.size]? = some (.cells (insRow i).toArray 29 (0, 0)) := by rw [hW1]; exact heap_alloc_new w _
  have HK1 := Lib.hid k1
  have HW1 := Lib.hid hW1
  have HB1 := Lib.hid hb1
  have HN1 := Lib.hid hn1
  have m1 : w.heap.size < W1.heap.size := by omega
  clear hW1 hb1 hs1 hn1 k1
  go_enter Tryz.func17, Tryz.ntmps17
  go_wp2_with (rw [← HW1.out]; refine wpList_load_row rfl 29 _ rfl w.heap.size rfl 29 (insRow i).toArray (0, 0) _ HK1.out Tryz.underlying29 rfl infoIns ?_)
  refine (HCHK.out W1).mono ?_
  rintro e w2 ⟨rfl, hb2⟩
  rw [HC.out]
  have HB2 := Lib.hid hb2
  unfold errOf
  have n0 := HN1.out 0
  have n1 := HN1.out 1
  have n2 := HN1.out 2
  have n3 := HN1.out 3
  have n4 := HN1.out 4
  have n5 := HN1.out 5
  have q0 := (hb2.cell (p := ⟨w.heap.size, 0, none⟩) m1).trans n0
  have q1 := (hb2.cell (p := ⟨w.heap.size, 1, none⟩) m1).trans n1
  have q2 := (hb2.cell (p := ⟨w.heap.size, 2, none⟩) m1).trans n2
  have q3 := (hb2.cell (p := ⟨w.heap.size, 3, none⟩) m1).trans n3
  have q4 := (hb2.cell (p := ⟨w.heap.size, 4, none⟩) m1).trans n4
  have q5 := (hb2.cell (p := ⟨w.heap.size, 5, none⟩) m1).trans n5
  clear n0 n1 n2 n3 n4 n5 hb2
  simp only [insRow, List.getElem?_toArray, List.getElem?_cons_zero, List.getElem?_cons_succ] at q0 q1 q2 q3 q4 q5
  rw [hop'] at q0
  have m2 : w.heap.size < w2.heap.size := Nat.lt_of_lt_of_le m1 HB2.out.size
  obtain ⟨L0, e0⟩ : ∃ q, q = L16 := ⟨_, rfl⟩
  have E := Lib.hid e0
  have H := Lib.hid (Bools.new w w2 w.heap.size i E.out (HB1.out.trans (HB2.out.mono HB1.out.size)) ((HB2.out.block _ m1).trans HK1.out) m2)
  clear e0
  clear hop'
  go_upto_region 5 with (((with_reducible refine (Form_33 _).mono ?_); rintro e w3 ⟨rfl, rfl⟩))
  go_wp2_with (first | ((with_reducible refine (Has_lit ⟨#[45]⟩ 83 83 rfl false _ (by decide) rfl).mono ?_); rintro e w3 ⟨rfl, rfl⟩) | ((with_reducible refine (Has_lit ⟨#[45]⟩ 84 84 rfl false _ (by decide) rfl).mono ?_); rintro e w3 ⟨rfl, rfl⟩) | ((with_reducible refine (Has_lit ⟨#[45]⟩ 77 77 rfl false _ (by decide) rfl).mono ?_); rintro e w3 ⟨rfl, rfl⟩) | ((with_reducible refine (Has_lit ⟨#[45]⟩ 68 68 rfl false _ (by decide) rfl).mono ?_); rintro e w3 ⟨rfl, rfl⟩) | ((with_reducible refine wl_id ?_); refine H.out.store 2 (by decide) _ _ rfl rfl rfl rfl ?_; intro W L2 hL hW; have e2 := chain_step hL E.out; clear hL E q0 q1 q2 q3 q4 q5; have E := Lib.hid e2; clear e2; clear H; have H := Lib.hid hW; clear hW; obtain ⟨q0, q1, q2, q3, q4, q5⟩ := H.out.cells; rw [HOP.out] at q0) | ((with_reducible refine wl_id ?_); refine H.out.store 4 (by decide) _ _ rfl rfl rfl rfl ?_; intro W L2 hL hW; have e2 := chain_step hL E.out; clear hL E q0 q1 q2 q3 q4 q5; have E := Lib.hid e2; clear e2; clear H; have H := Lib.hid hW; clear hW; obtain ⟨q0, q1, q2, q3, q4, q5⟩ := H.out.cells; rw [HOP.out] at q0) | ((with_reducible refine wl_id ?_); refine H.out.load _ rfl rfl rfl ?_) | (go_at_call 40; refine (rising_any _ H.out.len _).mono ?_; rintro e w4 ⟨v4, rfl, hI, hb4⟩; have HI := Lib.hid hI; have HB4 := Lib.hid (H.out.below.trans (hb4.mono H.out.below.size)); have HZ := Lib.hid H.out.below.size; clear hI hb4))
  go_ret
  refine ⟨_, rfl, ?_, HB4.out⟩
  have h9 := HI.out.mono (G := fun k => w.heap.size ≤ k ∧ k < w4.heap.size) fun k hk => ⟨Nat.le_trans HZ.out hk.1, hk.2⟩
  have e9 : readsL [45] i = (L16).set 4 true := by simp only [readsL, HOP.out]; rfl
  rw [e9, ← E.out]
  exact h9
theorem Reads_any (i : Ins) (w : World) :
    Calls Tryz.prog 17 #[.agg (insRow i).toArray] w fun e w' => ∃ v, e = .returned v ∧ IntsAt w' (fun k => w.heap.size ≤ k ∧ k < w'.heap.size) v (readsI i) ∧ Below w.heap.size w w' := by
  cases hc : chkP i with
  | false => rw [readsI, hc]; exact Reads_none i hc w
  | true =>
    rw [readsI, hc]
    rcases (by have := chk_range hc; omega : i.op = 1 ∨ i.op = 2 ∨ i.op = 3 ∨ i.op = 4 ∨ i.op = 5 ∨ i.op = 6 ∨ i.op = 7 ∨ i.op = 8 ∨ i.op = 9 ∨ i.op = 10 ∨ i.op = 11 ∨ i.op = 12 ∨ i.op = 13 ∨ i.op = 14 ∨ i.op = 15 ∨ i.op = 16 ∨ i.op = 17 ∨ i.op = 18 ∨ i.op = 19 ∨ i.op = 20 ∨ i.op = 21 ∨ i.op = 22 ∨ i.op = 23 ∨ i.op = 24 ∨ i.op = 25 ∨ i.op = 26 ∨ i.op = 27 ∨ i.op = 28 ∨ i.op = 29 ∨ i.op = 30 ∨ i.op = 31 ∨ i.op = 32 ∨ i.op = 33) with h | h | h | h | h | h | h | h | h | h | h | h | h | h | h | h | h | h | h | h | h | h | h | h | h | h | h | h | h | h | h | h | h
    · have := Reads_1 i h hc w; rw [h]; exact this
    · have := Reads_2 i h hc w; rw [h]; exact this
    · have := Reads_3 i h hc w; rw [h]; exact this
    · have := Reads_4 i h hc w; rw [h]; exact this
    · have := Reads_5 i h hc w; rw [h]; exact this
    · have := Reads_6 i h hc w; rw [h]; exact this
    · have := Reads_7 i h hc w; rw [h]; exact this
    · have := Reads_8 i h hc w; rw [h]; exact this
    · have := Reads_9 i h hc w; rw [h]; exact this
    · have := Reads_10 i h hc w; rw [h]; exact this
    · have := Reads_11 i h hc w; rw [h]; exact this
    · have := Reads_12 i h hc w; rw [h]; exact this
    · have := Reads_13 i h hc w; rw [h]; exact this
    · have := Reads_14 i h hc w; rw [h]; exact this
    · have := Reads_15 i h hc w; rw [h]; exact this
    · have := Reads_16 i h hc w; rw [h]; exact this
    · have := Reads_17 i h hc w; rw [h]; exact this
    · have := Reads_18 i h hc w; rw [h]; exact this
    · have := Reads_19 i h hc w; rw [h]; exact this
    · have := Reads_20 i h hc w; rw [h]; exact this
    · have := Reads_21 i h hc w; rw [h]; exact this
    · have := Reads_22 i h hc w; rw [h]; exact this
    · have := Reads_23 i h hc w; rw [h]; exact this
    · have := Reads_24 i h hc w; rw [h]; exact this
    · have := Reads_25 i h hc w; rw [h]; exact this
    · have := Reads_26 i h hc w; rw [h]; exact this
    · have := Reads_27 i h hc w; rw [h]; exact this
    · have := Reads_28 i h hc w; rw [h]; exact this
    · have := Reads_29 i h hc w; rw [h]; exact this
    · have := Reads_30 i h hc w; rw [h]; exact this
    · have := Reads_31 i h hc w; rw [h]; exact this
    · have := Reads_32 i h hc w; rw [h]; exact this
    · have := Reads_33 i h hc w; rw [h]; exact this
end Go.Proofs.YtmanhikpccnfaaaGreat
