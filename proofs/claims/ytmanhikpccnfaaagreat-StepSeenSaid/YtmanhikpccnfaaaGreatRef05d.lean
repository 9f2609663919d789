/- package keysmithref05: Reads, Writes, Flags, Jump. -/
import Derived.Test.YtmanhikpccnfaaaGreatRef05c
import Derived.Test.YtmanhikpccnfaaaGreatStepPl
import Derived.Test.YtmanhikpccnfaaaGreatHeld
import Derived.Outline
namespace Go.Proofs.YtmanhikpccnfaaaGreat
open Go.RowKit

/-- Booleans in a block, beside an instruction. -/
structure Bools (w0 w : World) (g gi : Nat) (i : Ins) (L : List Bool) : Prop where
  at_ : w.heap[g]? = some (.cells (L.map Value.bool).toArray 80 (0, 0))
  len : L.length = 16
  below : Below w0.heap.size w0 w
  ge : w0.heap.size ≤ g
  ins : w.heap[gi]? = some (.cells (insRow i).toArray 29 (0, 0))
  lt : gi < g
def L16 : List Bool := List.replicate 16 false

theorem chk_place {i : Ins} (h : chkP i = true) : (if hasB (formF i.op).is 8 then placeB i else noPlace i) = true := by
  rw [chkP, Bool.and_eq_true] at h
  have h2 := h.2
  rw [Bool.and_eq_true] at h2
  exact h2.1
theorem place_base {i : Ins} (h : placeB i = true) : ∃ B : Nat, i.base = B ∧ B < 16 := by
  simp only [placeB, Bool.and_eq_true] at h
  have h1 := h.1.1
  simp only [regOk, Bool.and_eq_true, decide_eq_true_eq] at h1
  exact ⟨i.base.toNat, by omega, by omega⟩
theorem place_index {i : Ins} (h : placeB i = true) (hx : ¬ i.index = -1) : ∃ X : Nat, i.index = X ∧ X < 16 := by
  simp only [placeB, Bool.and_eq_true, if_neg hx] at h
  have h1 := h.2.1.1
  simp only [regOk, Bool.and_eq_true, decide_eq_true_eq] at h1
  exact ⟨i.index.toNat, by omega, by omega⟩
theorem wl_id {P : Program} {ops : Array Oper} {l : List Oper} {a : Act} {w : World} {Q : Exit → Act → World → Prop} (h : wpList P ops Q l a w) : wpList P ops Q l a w := h
theorem Has_lit (s : ByteArray) (c : Nat) (ci : Int) (hci : ci = c) (b : Bool) (w : World) (hs : s.size ≤ 1000) (hb : hasR s.data.toList c = b) : Calls Tryz.prog 28 #[.string s, .int .u8 ci] w fun e w' => e = .returned (.bool b) ∧ w = w' := by
  rw [← hb, hci]; exact Has_any s c w hs

section
variable {w0 w w' : World} {g gi : Nat} {i : Ins} {L : List Bool}
theorem Bools.set_ (h : Bools w0 w g gi i L) (k : Nat) (b : Bool) : Bools w0 (w.setCell ⟨g, k, none⟩ (.bool b)) g gi i (L.set k b) := by
  refine ⟨?_, by simpa using h.len, h.below.setCell h.ge _, h.ge, (Below.heap_setCell _ _ _ _ (by have := h.lt; show gi ≠ g; omega)).trans h.ins, h.lt⟩
  rw [World.setCell]
  simp only [Array.getElem?_modify, if_pos, h.at_, Option.map_some]
  simp [List.map_set]
theorem Bools.cell (h : Bools w0 w g gi i L) {k : Nat} (hk : k < 16) : ∃ b, w.cell? ⟨g, k, none⟩ = some (.bool b) := by
  refine ⟨L[k]'(by rw [h.len]; exact hk), ?_⟩
  have hl : k < L.length := by rw [h.len]; exact hk
  simp only [World.cell?, h.at_]
  simp [hl]
theorem Bools.cells (h : Bools w0 w g gi i L) : w.cell? ⟨gi, 0, none⟩ = some (.int .i64 i.op) ∧ w.cell? ⟨gi, 1, none⟩ = some (.int .i64 i.d) ∧ w.cell? ⟨gi, 2, none⟩ = some (.int .i64 i.s) ∧ w.cell? ⟨gi, 3, none⟩ = some (.int .i64 i.t) ∧ w.cell? ⟨gi, 4, none⟩ = some (.int .i64 i.base) ∧ w.cell? ⟨gi, 5, none⟩ = some (.int .i64 i.index) := by
  simp only [World.cell?, h.ins]
  exact ⟨rfl, rfl, rfl, rfl, rfl, rfl⟩
variable {ops : Array Oper} {rest : List Oper} {o : Oper} {a : Act} {Q : Exit → Act → World → Prop}
theorem exec_store_cell {P : Program} {o : Oper} {a : Act} {w : World} (ty : TypeId) (x y : Operand) (ho : o.op = .store ty x y) (g k : Nat) (v : Value) (hx : a.eval x = .pointer (some ⟨g, k, none⟩)) (hy : a.eval y = v) (hi : (P.info? ty).map (·.size) = some 1)
    (hc : (w.cell? ⟨g, k, none⟩).isSome = true) (hf : w.frozen? ⟨g, k, none⟩ = false) (h1 : v.oneCell' = true) : (execOp a.eval o).run P w = .ok .skip (w.setCell ⟨g, k, none⟩ v) := by
  have hs : (storeVar ty ⟨g, k, none⟩ v).run P w = .ok () (w.setCell ⟨g, k, none⟩ v) := by
    have := run_storeCells_cells (P := P) g k [v] 0 w (fun j hj => by
      obtain rfl : j = 0 := by simpa using hj
      simpa using hc) (fun j hj => by
      obtain rfl : j = 0 := by simpa using hj
      simpa using hf) (fun u hu => by simp at hu; subst hu; exact h1)
    have hcs : v.cells = #[v] := by cases v <;> first | rfl | cases h1
    cases hq : P.info? ty with
    | none => simp [hq] at hi
    | some i =>
      have hs : i.size = 1 := by simpa [hq] using hi
      simp only [Nat.add_zero, World.setCells] at this
      simp [storeVar, sizeOf, typeInfo, hq, hcs, hs, this]
  unfold execOp
  simp only [ho, hx, hy, Instr.storeAt, Instr.sureAddr, Sem.run_bind, Sem.run_pure, Result.andThen_ok, hs]
theorem chain_step {L L' C : List Bool} {k : Nat} (hL : L' = L.set k true) (e : L = C) : L' = C.set k true := by rw [hL, e]
theorem Bools.store (h : Bools w0 w g gi i L) (k : Nat) (hk : k < 16) (x y : Operand) (ho : o.op = .store 4 x y) (hg : o.guard = none) (hx : a.eval x = .pointer (some ⟨g, k, none⟩)) (hy : a.eval y = .bool true)
    (K : ∀ W L', L' = L.set k true → Bools w0 W g gi i L' → wpList Tryz.prog ops Q rest (a.put o.dst undef) W) : wpList Tryz.prog ops Q (o :: rest) a w := by
  obtain ⟨b, hb⟩ := h.cell hk
  exact wpList_skip_ex hg (exec_store_cell 4 x y ho g k _ hx hy (by kernel_rfl) (by rw [hb]; rfl) (by simp [World.frozen?, h.at_]) rfl) (K _ _ rfl (h.set_ k true))
theorem Bools.load (h : Bools w0 w g gi i L) (y : Operand) (ho : o.op = .load 80 y) (hg : o.guard = none) (hx : a.eval y = .pointer (some ⟨g, 0, none⟩)) (K : wpList Tryz.prog ops Q rest (a.put o.dst (.agg (L.map Value.bool).toArray)) w) : wpList Tryz.prog ops Q (o :: rest) a w :=
  wpList_val_ex hg (exec_load_row 80 y ho g hx _ _ _ h.at_ _ Tryz.underlying80 rfl (by rw [show (L.map Value.bool).toArray.size = 16 by simp [h.len]]; kernel_rfl)) K
theorem Bools.new (w0 w : World) (gi : Nat) (i : Ins) {L0 : List Bool} (h0 : L0 = L16) (hb : Below w0.heap.size w0 w) (hi : w.heap[gi]? = some (.cells (insRow i).toArray 29 (0, 0))) (hl : gi < w.heap.size) : Bools w0 (w.alloc (.cells (L16.map Value.bool).toArray 80)) w.heap.size gi i L0 := by
  subst h0
  exact ⟨heap_alloc_new w _, rfl, hb.alloc hb.size _, hb.size, (heap_alloc_old w _ hl).trans hi, hl⟩
end

/-- The registers that are taken, by letters. -/
def opIn (op : Int) (l : List Int) : Bool := l.any fun k => op == k
def readsL (f : List UInt8) (i : Ins) : List Bool :=
  let L1 := if hasR f 83 && i.op != 19 then L16.set i.s.toNat true else L16
  let L2 := if hasR f 84 then (L1.set i.t.toNat true).set 2 true else L1
  let L3 := if hasR f 77 then (let L := L2.set i.base.toNat true; if i.index != -1 then L.set i.index.toNat true else L) else L2
  let L4 := if hasR f 68 && !opIn i.op [1, 2, 3, 5, 19, 29] then L3.set i.d.toNat true else L3
  if opIn i.op [28, 29, 33] then L4.set 4 true else L4
def writesL (f : List UInt8) (i : Ins) : List Bool :=
  let L1 := if hasR f 68 && !opIn i.op [13, 14, 18] then L16.set i.d.toNat true else L16
  let L2 := if i.op == 19 then L1.set i.s.toNat true else L1
  if opIn i.op [28, 29, 33] then L2.set 4 true else L2
def readsI (i : Ins) : List Nat := if chkP i then risingF (readsL (formR i.op) i) else []
def writesI (i : Ins) : List Nat := if chkP i then risingF (writesL (formR i.op) i) else []


set_option maxRecDepth 100000 in
set_option maxHeartbeats 800000 in
theorem Writes_none (i : Ins) (hc : chkP i = false) (w : World) :
    Calls Tryz.prog 16 #[.agg (insRow i).toArray] w fun e w' => ∃ v, e = .returned v ∧ IntsAt w' (fun k => w.heap.size ≤ k ∧ k < w'.heap.size) v [] ∧ Below w.heap.size w w' := by
  have HC := Lib.hid hc
  clear hc
  have HCHK := Lib.hid (fun w => rCheck_any i w)
  obtain ⟨W1, hW1, hb1, hs1, hn1, _⟩ := boxed w (insRow i).toArray 29
  have k1 : W1.heap[w.heap.size]? = some (.cells (insRow i).toArray 29 (0, 0)) := by rw [hW1]; exact heap_alloc_new w _
  have HK1 := Lib.hid k1
  have HW1 := Lib.hid hW1
  have HB1 := Lib.hid hb1
  have HN1 := Lib.hid hn1
  have m1 : w.heap.size < W1.heap.size := by omega
  clear hW1 hb1 hs1 hn1 k1
  go_enter Tryz.func16, Tryz.ntmps16
  go_wp2_with (rw [← HW1.out]; refine wpList_load_row rfl 29 _ rfl w.heap.size rfl 29 (insRow i).toArray (0, 0) _ HK1.out Tryz.underlying29 rfl infoIns ?_)
  refine (HCHK.out W1).mono ?_
  rintro e w2 ⟨rfl, hb2⟩
  rw [HC.out]
  have HB2 := Lib.hid hb2
  clear hb2
  unfold errOf
  go_wp2
  go_ret
  exact ⟨_, rfl, ⟨none, 0, rfl, by simp, by simp, fun h => absurd rfl h⟩, HB1.out.trans (HB2.out.mono (by omega))⟩
set_option maxRecDepth 100000 in
set_option maxHeartbeats 3200000 in
theorem Writes_1 (i : Ins) (hop : i.op = 1) (hc : chkP i = true) (w : World) :
    Calls Tryz.prog 16 #[.agg (insRow i).toArray] w fun e w' => ∃ v, e = .returned v ∧ IntsAt w' (fun k => w.heap.size ≤ k ∧ k < w'.heap.size) v (risingF (writesL [68, 83] i)) ∧ Below w.heap.size w w' := by
  obtain ⟨_, _, hd1, hs1, ht1, _⟩ := chk_parts hc
  have hpl := chk_place hc
  rw [hop] at hd1 hs1 ht1 hpl
  obtain ⟨D, hD, hDl⟩ := hasOk_yes hd1 (by rfl)
  have lD0 : (0 : Int) ≤ (D : Int) := by omega
  have lD1 : (D : Int) < 16 := by omega
  have LD := Lib.hid hDl
  have hop' := hop
  have HOP := Lib.hid hop
  have HC := Lib.hid hc
  have ED := Lib.hid hD
  clear hop hc hd1 hs1 ht1 hpl hDl
  have HCHK := Lib.hid (fun w => rCheck_any i w)
  obtain ⟨W1, hW1, hb1, hs1, hn1, _⟩ := boxed w (insRow i).toArray 29
  have k1 : W1.heap[w.heap.size]? = some (.cells (insRow i).toArray 29 (0, 0)) := by rw [hW1]; exact heap_alloc_new w _
  have HK1 := Lib.hid k1
  have HW1 := Lib.hid hW1
  have HB1 := Lib.hid hb1
  have HN1 := Lib.hid hn1
  have m1 : w.heap.size < W1.heap.size := by omega
  clear hW1 hb1 hs1 hn1 k1
  go_enter Tryz.func16, Tryz.ntmps16
  go_wp2_with (rw [← HW1.out]; refine wpList_load_row rfl 29 _ rfl w.heap.size rfl 29 (insRow i).toArray (0, 0) _ HK1.out Tryz.underlying29 rfl infoIns ?_)
  refine (HCHK.out W1).mono ?_
  rintro e w2 ⟨rfl, hb2⟩
  rw [HC.out]
  have HB2 := Lib.hid hb2
  unfold errOf
  have n0 := HN1.out 0
  have n1 := HN1.out 1
  have n2 := HN1.out 2
  have n3 := HN1.out 3
  have n4 := HN1.out 4
  have n5 := HN1.out 5
  have q0 := (hb2.cell (p := ⟨w.heap.size, 0, none⟩) m1).trans n0
  have q1 := (hb2.cell (p := ⟨w.heap.size, 1, none⟩) m1).trans n1
  have q2 := (hb2.cell (p := ⟨w.heap.size, 2, none⟩) m1).trans n2
  have q3 := (hb2.cell (p := ⟨w.heap.size, 3, none⟩) m1).trans n3
  have q4 := (hb2.cell (p := ⟨w.heap.size, 4, none⟩) m1).trans n4
  have q5 := (hb2.cell (p := ⟨w.heap.size, 5, none⟩) m1).trans n5
  clear n0 n1 n2 n3 n4 n5 hb2
  simp only [insRow, List.getElem?_toArray, List.getElem?_cons_zero, List.getElem?_cons_succ] at q0 q1 q2 q3 q4 q5
  rw [hop'] at q0
  rw [hD] at q1
  have m2 : w.heap.size < w2.heap.size := Nat.lt_of_lt_of_le m1 HB2.out.size
  obtain ⟨L0, e0⟩ : ∃ q, q = L16 := ⟨_, rfl⟩
  have E := Lib.hid e0
  have H := Lib.hid (Bools.new w w2 w.heap.size i E.out (HB1.out.trans (HB2.out.mono HB1.out.size)) ((HB2.out.block _ m1).trans HK1.out) m2)
  clear e0
  clear hop' hD
  go_upto_region 5 with (((with_reducible refine (Form_1 _).mono ?_); rintro e w3 ⟨rfl, rfl⟩))
  go_wp2_with (first | ((with_reducible refine (Has_lit ⟨#[68, 83]⟩ 68 68 rfl true _ (by decide) rfl).mono ?_); rintro e w3 ⟨rfl, rfl⟩) | ((with_reducible refine wl_id ?_); refine H.out.store D LD.out _ _ rfl rfl rfl rfl ?_; intro W L2 hL hW; have e2 := chain_step hL E.out; clear hL E q0 q1 q2 q3 q4 q5; have E := Lib.hid e2; clear e2; clear H; have H := Lib.hid hW; clear hW; obtain ⟨q0, q1, q2, q3, q4, q5⟩ := H.out.cells; rw [HOP.out] at q0; rw [ED.out] at q1) | ((with_reducible refine wl_id ?_); refine H.out.store 2 (by decide) _ _ rfl rfl rfl rfl ?_; intro W L2 hL hW; have e2 := chain_step hL E.out; clear hL E q0 q1 q2 q3 q4 q5; have E := Lib.hid e2; clear e2; clear H; have H := Lib.hid hW; clear hW; obtain ⟨q0, q1, q2, q3, q4, q5⟩ := H.out.cells; rw [HOP.out] at q0; rw [ED.out] at q1) | ((with_reducible refine wl_id ?_); refine H.out.store 4 (by decide) _ _ rfl rfl rfl rfl ?_; intro W L2 hL hW; have e2 := chain_step hL E.out; clear hL E q0 q1 q2 q3 q4 q5; have E := Lib.hid e2; clear e2; clear H; have H := Lib.hid hW; clear hW; obtain ⟨q0, q1, q2, q3, q4, q5⟩ := H.out.cells; rw [HOP.out] at q0; rw [ED.out] at q1) | ((with_reducible refine wl_id ?_); refine H.out.load _ rfl rfl rfl ?_) | (go_at_call 40; refine (rising_any _ H.out.len _).mono ?_; rintro e w4 ⟨v4, rfl, hI, hb4⟩; have HI := Lib.hid hI; have HB4 := Lib.hid (H.out.below.trans (hb4.mono H.out.below.size)); have HZ := Lib.hid H.out.below.size; clear hI hb4))
  go_ret
  refine ⟨_, rfl, ?_, HB4.out⟩
  have h9 := HI.out.mono (G := fun k => w.heap.size ≤ k ∧ k < w4.heap.size) fun k hk => ⟨Nat.le_trans HZ.out hk.1, hk.2⟩
  have e9 : writesL [68, 83] i = L16.set D true := by simp only [writesL, HOP.out, ED.out]; rfl
  rw [e9, ← E.out]
  exact h9
set_option maxRecDepth 100000 in
set_option maxHeartbeats 3200000 in
theorem Writes_2 (i : Ins) (hop : i.op = 2) (hc : chkP i = true) (w : World) :
    Calls Tryz.prog 16 #[.agg (insRow i).toArray] w fun e w' => ∃ v, e = .returned v ∧ IntsAt w' (fun k => w.heap.size ≤ k ∧ k < w'.heap.size) v (risingF (writesL [68, 73] i)) ∧ Below w.heap.size w w' := by
  obtain ⟨_, _, hd1, hs1, ht1, _⟩ := chk_parts hc
  have hpl := chk_place hc
  rw [hop] at hd1 hs1 ht1 hpl
  obtain ⟨D, hD, hDl⟩ := hasOk_yes hd1 (by rfl)
  have lD0 : (0 : Int) ≤ (D : Int) := by omega
  have lD1 : (D : Int) < 16 := by omega
  have LD := Lib.hid hDl
  have hop' := hop
  have HOP := Lib.hid hop
  have HC := Lib.hid hc
  have ED := Lib.hid hD
  clear hop hc hd1 hs1 ht1 hpl hDl
  have HCHK := Lib.hid (fun w => rCheck_any i w)
  obtain ⟨W1, hW1, hb1, hs1, hn1, _⟩ := boxed w (insRow i).toArray 29
  have k1 : W1.heap[w.heap.size]? = some (.cells (insRow i).toArray 29 (0, 0)) := by rw [hW1]; exact heap_alloc_new w _
  have HK1 := Lib.hid k1
  have HW1 := Lib.hid hW1
  have HB1 := Lib.hid hb1
  have HN1 := Lib.hid hn1
  have m1 : w.heap.size < W1.heap.size := by omega
  clear hW1 hb1 hs1 hn1 k1
  go_enter Tryz.func16, Tryz.ntmps16
  go_wp2_with (rw [← HW1.out]; refine wpList_load_row rfl 29 _ rfl w.heap.size rfl 29 (insRow i).toArray (0, 0) _ HK1.out Tryz.underlying29 rfl infoIns ?_)
  refine (HCHK.out W1).mono ?_
  rintro e w2 ⟨rfl, hb2⟩
  rw [HC.out]
  have HB2 := Lib.hid hb2
  unfold errOf
  have n0 := HN1.out 0
  have n1 := HN1.out 1
  have n2 := HN1.out 2
  have n3 := HN1.out 3
  have n4 := HN1.out 4
  have n5 := HN1.out 5
  have q0 := (hb2.cell (p := ⟨w.heap.size, 0, none⟩) m1).trans n0
  have q1 := (hb2.cell (p := ⟨w.heap.size, 1, none⟩) m1).trans n1
  have q2 := (hb2.cell (p := ⟨w.heap.size, 2, none⟩) m1).trans n2
  have q3 := (hb2.cell (p := ⟨w.heap.size, 3, none⟩) m1).trans n3
  have q4 := (hb2.cell (p := ⟨w.heap.size, 4, none⟩) m1).trans n4
  have q5 := (hb2.cell (p := ⟨w.heap.size, 5, none⟩) m1).trans n5
  clear n0 n1 n2 n3 n4 n5 hb2
  simp only [insRow, List.getElem?_toArray, List.getElem?_cons_zero, List.getElem?_cons_succ] at q0 q1 q2 q3 q4 q5
  rw [hop'] at q0
  rw [hD] at q1
  have m2 : w.heap.size < w2.heap.size := Nat.lt_of_lt_of_le m1 HB2.out.size
  obtain ⟨L0, e0⟩ : ∃ q, q = L16 := ⟨_, rfl⟩
  have E := Lib.hid e0
  have H := Lib.hid (Bools.new w w2 w.heap.size i E.out (HB1.out.trans (HB2.out.mono HB1.out.size)) ((HB2.out.block _ m1).trans HK1.out) m2)
  clear e0
  clear hop' hD
  go_upto_region 5 with (((with_reducible refine (Form_2 _).mono ?_); rintro e w3 ⟨rfl, rfl⟩))
  go_wp2_with (first | ((with_reducible refine (Has_lit ⟨#[68, 73]⟩ 68 68 rfl true _ (by decide) rfl).mono ?_); rintro e w3 ⟨rfl, rfl⟩) | ((with_reducible refine wl_id ?_); refine H.out.store D LD.out _ _ rfl rfl rfl rfl ?_; intro W L2 hL hW; have e2 := chain_step hL E.out; clear hL E q0 q1 q2 q3 q4 q5; have E := Lib.hid e2; clear e2; clear H; have H := Lib.hid hW; clear hW; obtain ⟨q0, q1, q2, q3, q4, q5⟩ := H.out.cells; rw [HOP.out] at q0; rw [ED.out] at q1) | ((with_reducible refine wl_id ?_); refine H.out.store 2 (by decide) _ _ rfl rfl rfl rfl ?_; intro W L2 hL hW; have e2 := chain_step hL E.out; clear hL E q0 q1 q2 q3 q4 q5; have E := Lib.hid e2; clear e2; clear H; have H := Lib.hid hW; clear hW; obtain ⟨q0, q1, q2, q3, q4, q5⟩ := H.out.cells; rw [HOP.out] at q0; rw [ED.out] at q1) | ((with_reducible refine wl_id ?_); refine H.out.store 4 (by decide) _ _ rfl rfl rfl rfl ?_; intro W L2 hL hW; have e2 := chain_step hL E.out; clear hL E q0 q1 q2 q3 q4 q5; have E := Lib.hid e2; clear e2; clear H; have H := Lib.hid hW; clear hW; obtain ⟨q0, q1, q2, q3, q4, q5⟩ := H.out.cells; rw [HOP.out] at q0; rw [ED.out] at q1) | ((with_reducible refine wl_id ?_); refine H.out.load _ rfl rfl rfl ?_) | (go_at_call 40; refine (rising_any _ H.out.len _).mono ?_; rintro e w4 ⟨v4, rfl, hI, hb4⟩; have HI := Lib.hid hI; have HB4 := Lib.hid (H.out.below.trans (hb4.mono H.out.below.size)); have HZ := Lib.hid H.out.below.size; clear hI hb4))
  go_ret
  refine ⟨_, rfl, ?_, HB4.out⟩
  have h9 := HI.out.mono (G := fun k => w.heap.size ≤ k ∧ k < w4.heap.size) fun k hk => ⟨Nat.le_trans HZ.out hk.1, hk.2⟩
  have e9 : writesL [68, 73] i = L16.set D true := by simp only [writesL, HOP.out, ED.out]; rfl
  rw [e9, ← E.out]
  exact h9
set_option maxRecDepth 100000 in
set_option maxHeartbeats 3200000 in
theorem Writes_3 (i : Ins) (hop : i.op = 3) (hc : chkP i = true) (w : World) :
    Calls Tryz.prog 16 #[.agg (insRow i).toArray] w fun e w' => ∃ v, e = .returned v ∧ IntsAt w' (fun k => w.heap.size ≤ k ∧ k < w'.heap.size) v (risingF (writesL [68, 77] i)) ∧ Below w.heap.size w w' := by
  obtain ⟨_, _, hd1, hs1, ht1, _⟩ := chk_parts hc
  have hpl := chk_place hc
  rw [hop] at hd1 hs1 ht1 hpl
  obtain ⟨D, hD, hDl⟩ := hasOk_yes hd1 (by rfl)
  have lD0 : (0 : Int) ≤ (D : Int) := by omega
  have lD1 : (D : Int) < 16 := by omega
  have LD := Lib.hid hDl
  have hop' := hop
  have HOP := Lib.hid hop
  have HC := Lib.hid hc
  have ED := Lib.hid hD
  clear hop hc hd1 hs1 ht1 hpl hDl
  have HCHK := Lib.hid (fun w => rCheck_any i w)
  obtain ⟨W1, hW1, hb1, hs1, hn1, _⟩ := boxed w (insRow i).toArray 29
  have k1 : W1.heap[w.heap.size]? = some (.cells (insRow i).toArray 29 (0, 0)) := by rw [hW1]; exact heap_alloc_new w _
  have HK1 := Lib.hid k1
  have HW1 := Lib.hid hW1
  have HB1 := Lib.hid hb1
  have HN1 := Lib.hid hn1
  have m1 : w.heap.size < W1.heap.size := by omega
  clear hW1 hb1 hs1 hn1 k1
  go_enter Tryz.func16, Tryz.ntmps16
  go_wp2_with (rw [← HW1.out]; refine wpList_load_row rfl 29 _ rfl w.heap.size rfl 29 (insRow i).toArray (0, 0) _ HK1.out Tryz.underlying29 rfl infoIns ?_)
  refine (HCHK.out W1).mono ?_
  rintro e w2 ⟨rfl, hb2⟩
  rw [HC.out]
  have HB2 := Lib.hid hb2
  unfold errOf
  have n0 := HN1.out 0
  have n1 := HN1.out 1
  have n2 := HN1.out 2
  have n3 := HN1.out 3
  have n4 := HN1.out 4
  have n5 := HN1.out 5
  have q0 := (hb2.cell (p := ⟨w.heap.size, 0, none⟩) m1).trans n0
  have q1 := (hb2.cell (p := ⟨w.heap.size, 1, none⟩) m1).trans n1
  have q2 := (hb2.cell (p := ⟨w.heap.size, 2, none⟩) m1).trans n2
  have q3 := (hb2.cell (p := ⟨w.heap.size, 3, none⟩) m1).trans n3
  have q4 := (hb2.cell (p := ⟨w.heap.size, 4, none⟩) m1).trans n4
  have q5 := (hb2.cell (p := ⟨w.heap.size, 5, none⟩) m1).trans n5
  clear n0 n1 n2 n3 n4 n5 hb2
  simp only [insRow, List.getElem?_toArray, List.getElem?_cons_zero, List.getElem?_cons_succ] at q0 q1 q2 q3 q4 q5
  rw [hop'] at q0
  rw [hD] at q1
  have m2 : w.heap.size < w2.heap.size := Nat.lt_of_lt_of_le m1 HB2.out.size
  obtain ⟨L0, e0⟩ : ∃ q, q = L16 := ⟨_, rfl⟩
  have E := Lib.hid e0
  have H := Lib.hid (Bools.new w w2 w.heap.size i E.out (HB1.out.trans (HB2.out.mono HB1.out.size)) ((HB2.out.block _ m1).trans HK1.out) m2)
  clear e0
  clear hop' hD
  go_upto_region 5 with (((with_reducible refine (Form_3 _).mono ?_); rintro e w3 ⟨rfl, rfl⟩))
  go_wp2_with (first | ((with_reducible refine (Has_lit ⟨#[68, 77]⟩ 68 68 rfl true _ (by decide) rfl).mono ?_); rintro e w3 ⟨rfl, rfl⟩) | ((with_reducible refine wl_id ?_); refine H.out.store D LD.out _ _ rfl rfl rfl rfl ?_; intro W L2 hL hW; have e2 := chain_step hL E.out; clear hL E q0 q1 q2 q3 q4 q5; have E := Lib.hid e2; clear e2; clear H; have H := Lib.hid hW; clear hW; obtain ⟨q0, q1, q2, q3, q4, q5⟩ := H.out.cells; rw [HOP.out] at q0; rw [ED.out] at q1) | ((with_reducible refine wl_id ?_); refine H.out.store 2 (by decide) _ _ rfl rfl rfl rfl ?_; intro W L2 hL hW; have e2 := chain_step hL E.out; clear hL E q0 q1 q2 q3 q4 q5; have E := Lib.hid e2; clear e2; clear H; have H := Lib.hid hW; clear hW; obtain ⟨q0, q1, q2, q3, q4, q5⟩ := H.out.cells; rw [HOP.out] at q0; rw [ED.out] at q1) | ((with_reducible refine wl_id ?_); refine H.out.store 4 (by decide) _ _ rfl rfl rfl rfl ?_; intro W L2 hL hW; have e2 := chain_step hL E.out; clear hL E q0 q1 q2 q3 q4 q5; have E := Lib.hid e2; clear e2; clear H; have H := Lib.hid hW; clear hW; obtain ⟨q0, q1, q2, q3, q4, q5⟩ := H.out.cells; rw [HOP.out] at q0; rw [ED.out] at q1) | ((with_reducible refine wl_id ?_); refine H.out.load _ rfl rfl rfl ?_) | (go_at_call 40; refine (rising_any _ H.out.len _).mono ?_; rintro e w4 ⟨v4, rfl, hI, hb4⟩; have HI := Lib.hid hI; have HB4 := Lib.hid (H.out.below.trans (hb4.mono H.out.below.size)); have HZ := Lib.hid H.out.below.size; clear hI hb4))
  go_ret
  refine ⟨_, rfl, ?_, HB4.out⟩
  have h9 := HI.out.mono (G := fun k => w.heap.size ≤ k ∧ k < w4.heap.size) fun k hk => ⟨Nat.le_trans HZ.out hk.1, hk.2⟩
  have e9 : writesL [68, 77] i = L16.set D true := by simp only [writesL, HOP.out, ED.out]; rfl
  rw [e9, ← E.out]
  exact h9
set_option maxRecDepth 100000 in
set_option maxHeartbeats 3200000 in
theorem Writes_4 (i : Ins) (hop : i.op = 4) (hc : chkP i = true) (w : World) :
    Calls Tryz.prog 16 #[.agg (insRow i).toArray] w fun e w' => ∃ v, e = .returned v ∧ IntsAt w' (fun k => w.heap.size ≤ k ∧ k < w'.heap.size) v (risingF (writesL [83, 77] i)) ∧ Below w.heap.size w w' := by
  obtain ⟨_, _, hd1, hs1, ht1, _⟩ := chk_parts hc
  have hpl := chk_place hc
  rw [hop] at hd1 hs1 ht1 hpl
  have hop' := hop
  have HOP := Lib.hid hop
  have HC := Lib.hid hc
  clear hop hc hd1 hs1 ht1 hpl
  have HCHK := Lib.hid (fun w => rCheck_any i w)
  obtain ⟨W1, hW1, hb1, hs1, hn1, _⟩ := boxed w (insRow i).toArray 29
  have k1 : W1.heap[w.heap.size]? = some (.cells (insRow i).toArray 29 (0, 0)) := by rw [hW1]; exact heap_alloc_new w _
  have HK1 := Lib.hid k1
  have HW1 := Lib.hid hW1
  have HB1 := Lib.hid hb1
  have HN1 := Lib.hid hn1
  have m1 : w.heap.size < W1.heap.size := by omega
  clear hW1 hb1 hs1 hn1 k1
  go_enter Tryz.func16, Tryz.ntmps16
  go_wp2_with (rw [← HW1.out]; refine wpList_load_row rfl 29 _ rfl w.heap.size rfl 29 (insRow i).toArray (0, 0) _ HK1.out Tryz.underlying29 rfl infoIns ?_)
  refine (HCHK.out W1).mono ?_
  rintro e w2 ⟨rfl, hb2⟩
  rw [HC.out]
  have HB2 := Lib.hid hb2
  unfold errOf
  have n0 := HN1.out 0
  have n1 := HN1.out 1
  have n2 := HN1.out 2
  have n3 := HN1.out 3
  have n4 := HN1.out 4
  have n5 := HN1.out 5
  have q0 := (hb2.cell (p := ⟨w.heap.size, 0, none⟩) m1).trans n0
  have q1 := (hb2.cell (p := ⟨w.heap.size, 1, none⟩) m1).trans n1
  have q2 := (hb2.cell (p := ⟨w.heap.size, 2, none⟩) m1).trans n2
  have q3 := (hb2.cell (p := ⟨w.heap.size, 3, none⟩) m1).trans n3
  have q4 := (hb2.cell (p := ⟨w.heap.size, 4, none⟩) m1).trans n4
  have q5 := (hb2.cell (p := ⟨w.heap.size, 5, none⟩) m1).trans n5
  clear n0 n1 n2 n3 n4 n5 hb2
  simp only [insRow, List.getElem?_toArray, List.getElem?_cons_zero, List.getElem?_cons_succ] at q0 q1 q2 q3 q4 q5
  rw [hop'] at q0
  have m2 : w.heap.size < w2.heap.size := Nat.lt_of_lt_of_le m1 HB2.out.size
  obtain ⟨L0, e0⟩ : ∃ q, q = L16 := ⟨_, rfl⟩
  have E := Lib.hid e0
  have H := Lib.hid (Bools.new w w2 w.heap.size i E.out (HB1.out.trans (HB2.out.mono HB1.out.size)) ((HB2.out.block _ m1).trans HK1.out) m2)
  clear e0
  clear hop'
  go_upto_region 5 with (((with_reducible refine (Form_4 _).mono ?_); rintro e w3 ⟨rfl, rfl⟩))
  go_wp2_with (first | ((with_reducible refine (Has_lit ⟨#[83, 77]⟩ 68 68 rfl false _ (by decide) rfl).mono ?_); rintro e w3 ⟨rfl, rfl⟩) | ((with_reducible refine wl_id ?_); refine H.out.store 2 (by decide) _ _ rfl rfl rfl rfl ?_; intro W L2 hL hW; have e2 := chain_step hL E.out; clear hL E q0 q1 q2 q3 q4 q5; have E := Lib.hid e2; clear e2; clear H; have H := Lib.hid hW; clear hW; obtain ⟨q0, q1, q2, q3, q4, q5⟩ := H.out.cells; rw [HOP.out] at q0) | ((with_reducible refine wl_id ?_); refine H.out.store 4 (by decide) _ _ rfl rfl rfl rfl ?_; intro W L2 hL hW; have e2 := chain_step hL E.out; clear hL E q0 q1 q2 q3 q4 q5; have E := Lib.hid e2; clear e2; clear H; have H := Lib.hid hW; clear hW; obtain ⟨q0, q1, q2, q3, q4, q5⟩ := H.out.cells; rw [HOP.out] at q0) | ((with_reducible refine wl_id ?_); refine H.out.load _ rfl rfl rfl ?_) | (go_at_call 40; refine (rising_any _ H.out.len _).mono ?_; rintro e w4 ⟨v4, rfl, hI, hb4⟩; have HI := Lib.hid hI; have HB4 := Lib.hid (H.out.below.trans (hb4.mono H.out.below.size)); have HZ := Lib.hid H.out.below.size; clear hI hb4))
  go_ret
  refine ⟨_, rfl, ?_, HB4.out⟩
  have h9 := HI.out.mono (G := fun k => w.heap.size ≤ k ∧ k < w4.heap.size) fun k hk => ⟨Nat.le_trans HZ.out hk.1, hk.2⟩
  have e9 : writesL [83, 77] i = L16 := by simp only [writesL, HOP.out]; rfl
  rw [e9, ← E.out]
  exact h9
set_option maxRecDepth 100000 in
set_option maxHeartbeats 3200000 in
theorem Writes_5 (i : Ins) (hop : i.op = 5) (hc : chkP i = true) (w : World) :
    Calls Tryz.prog 16 #[.agg (insRow i).toArray] w fun e w' => ∃ v, e = .returned v ∧ IntsAt w' (fun k => w.heap.size ≤ k ∧ k < w'.heap.size) v (risingF (writesL [68, 77] i)) ∧ Below w.heap.size w w' := by
  obtain ⟨_, _, hd1, hs1, ht1, _⟩ := chk_parts hc
  have hpl := chk_place hc
  rw [hop] at hd1 hs1 ht1 hpl
  obtain ⟨D, hD, hDl⟩ := hasOk_yes hd1 (by rfl)
  have lD0 : (0 : Int) ≤ (D : Int) := by omega
  have lD1 : (D : Int) < 16 := by omega
  have LD := Lib.hid hDl
  have hop' := hop
  have HOP := Lib.hid hop
  have HC := Lib.hid hc
  have ED := Lib.hid hD
  clear hop hc hd1 hs1 ht1 hpl hDl
  have HCHK := Lib.hid (fun w => rCheck_any i w)
  obtain ⟨W1, hW1, hb1, hs1, hn1, _⟩ := boxed w (insRow i).toArray 29
  have k1 : W1.heap[w.heap.size]? = some (.cells (insRow i).toArray 29 (0, 0)) := by rw [hW1]; exact heap_alloc_new w _
  have HK1 := Lib.hid k1
  have HW1 := Lib.hid hW1
  have HB1 := Lib.hid hb1
  have HN1 := Lib.hid hn1
  have m1 : w.heap.size < W1.heap.size := by omega
  clear hW1 hb1 hs1 hn1 k1
  go_enter Tryz.func16, Tryz.ntmps16
  go_wp2_with (rw [← HW1.out]; refine wpList_load_row rfl 29 _ rfl w.heap.size rfl 29 (insRow i).toArray (0, 0) _ HK1.out Tryz.underlying29 rfl infoIns ?_)
  refine (HCHK.out W1).mono ?_
  rintro e w2 ⟨rfl, hb2⟩
  rw [HC.out]
  have HB2 := Lib.hid hb2
  unfold errOf
  have n0 := HN1.out 0
  have n1 := HN1.out 1
  have n2 := HN1.out 2
  have n3 := HN1.out 3
  have n4 := HN1.out 4
  have n5 := HN1.out 5
  have q0 := (hb2.cell (p := ⟨w.heap.size, 0, none⟩) m1).trans n0
  have q1 := (hb2.cell (p := ⟨w.heap.size, 1, none⟩) m1).trans n1
  have q2 := (hb2.cell (p := ⟨w.heap.size, 2, none⟩) m1).trans n2
  have q3 := (hb2.cell (p := ⟨w.heap.size, 3, none⟩) m1).trans n3
  have q4 := (hb2.cell (p := ⟨w.heap.size, 4, none⟩) m1).trans n4
  have q5 := (hb2.cell (p := ⟨w.heap.size, 5, none⟩) m1).trans n5
  clear n0 n1 n2 n3 n4 n5 hb2
  simp only [insRow, List.getElem?_toArray, List.getElem?_cons_zero, List.getElem?_cons_succ] at q0 q1 q2 q3 q4 q5
  rw [hop'] at q0
  rw [hD] at q1
  have m2 : w.heap.size < w2.heap.size := Nat.lt_of_lt_of_le m1 HB2.out.size
  obtain ⟨L0, e0⟩ : ∃ q, q = L16 := ⟨_, rfl⟩
  have E := Lib.hid e0
  have H := Lib.hid (Bools.new w w2 w.heap.size i E.out (HB1.out.trans (HB2.out.mono HB1.out.size)) ((HB2.out.block _ m1).trans HK1.out) m2)
  clear e0
  clear hop' hD
  go_upto_region 5 with (((with_reducible refine (Form_5 _).mono ?_); rintro e w3 ⟨rfl, rfl⟩))
  go_wp2_with (first | ((with_reducible refine (Has_lit ⟨#[68, 77]⟩ 68 68 rfl true _ (by decide) rfl).mono ?_); rintro e w3 ⟨rfl, rfl⟩) | ((with_reducible refine wl_id ?_); refine H.out.store D LD.out _ _ rfl rfl rfl rfl ?_; intro W L2 hL hW; have e2 := chain_step hL E.out; clear hL E q0 q1 q2 q3 q4 q5; have E := Lib.hid e2; clear e2; clear H; have H := Lib.hid hW; clear hW; obtain ⟨q0, q1, q2, q3, q4, q5⟩ := H.out.cells; rw [HOP.out] at q0; rw [ED.out] at q1) | ((with_reducible refine wl_id ?_); refine H.out.store 2 (by decide) _ _ rfl rfl rfl rfl ?_; intro W L2 hL hW; have e2 := chain_step hL E.out; clear hL E q0 q1 q2 q3 q4 q5; have E := Lib.hid e2; clear e2; clear H; have H := Lib.hid hW; clear hW; obtain ⟨q0, q1, q2, q3, q4, q5⟩ := H.out.cells; rw [HOP.out] at q0; rw [ED.out] at q1) | ((with_reducible refine wl_id ?_); refine H.out.store 4 (by decide) _ _ rfl rfl rfl rfl ?_; intro W L2 hL hW; have e2 := chain_step hL E.out; clear hL E q0 q1 q2 q3 q4 q5; have E := Lib.hid e2; clear e2; clear H; have H := Lib.hid hW; clear hW; obtain ⟨q0, q1, q2, q3, q4, q5⟩ := H.out.cells; rw [HOP.out] at q0; rw [ED.out] at q1) | ((with_reducible refine wl_id ?_); refine H.out.load _ rfl rfl rfl ?_) | (go_at_call 40; refine (rising_any _ H.out.len _).mono ?_; rintro e w4 ⟨v4, rfl, hI, hb4⟩; have HI := Lib.hid hI; have HB4 := Lib.hid (H.out.below.trans (hb4.mono H.out.below.size)); have HZ := Lib.hid H.out.below.size; clear hI hb4))
  go_ret
  refine ⟨_, rfl, ?_, HB4.out⟩
  have h9 := HI.out.mono (G := fun k => w.heap.size ≤ k ∧ k < w4.heap.size) fun k hk => ⟨Nat.le_trans HZ.out hk.1, hk.2⟩
  have e9 : writesL [68, 77] i = L16.set D true := by simp only [writesL, HOP.out, ED.out]; rfl
  rw [e9, ← E.out]
  exact h9
set_option maxRecDepth 100000 in
set_option maxHeartbeats 3200000 in
theorem Writes_6 (i : Ins) (hop : i.op = 6) (hc : chkP i = true) (w : World) :
    Calls Tryz.prog 16 #[.agg (insRow i).toArray] w fun e w' => ∃ v, e = .returned v ∧ IntsAt w' (fun k => w.heap.size ≤ k ∧ k < w'.heap.size) v (risingF (writesL [68, 83] i)) ∧ Below w.heap.size w w' := by
  obtain ⟨_, _, hd1, hs1, ht1, _⟩ := chk_parts hc
  have hpl := chk_place hc
  rw [hop] at hd1 hs1 ht1 hpl
  obtain ⟨D, hD, hDl⟩ := hasOk_yes hd1 (by rfl)
  have lD0 : (0 : Int) ≤ (D : Int) := by omega
  have lD1 : (D : Int) < 16 := by omega
  have LD := Lib.hid hDl
  have hop' := hop
  have HOP := Lib.hid hop
  have HC := Lib.hid hc
  have ED := Lib.hid hD
  clear hop hc hd1 hs1 ht1 hpl hDl
  have HCHK := Lib.hid (fun w => rCheck_any i w)
  obtain ⟨W1, hW1, hb1, hs1, hn1, _⟩ := boxed w (insRow i).toArray 29
  have k1 : W1.heap[w.heap.size]? = some (.cells (insRow i).toArray 29 (0, 0)) := by rw [hW1]; exact heap_alloc_new w _
  have HK1 := Lib.hid k1
  have HW1 := Lib.hid hW1
  have HB1 := Lib.hid hb1
  have HN1 := Lib.hid hn1
  have m1 : w.heap.size < W1.heap.size := by omega
  clear hW1 hb1 hs1 hn1 k1
  go_enter Tryz.func16, Tryz.ntmps16
  go_wp2_with (rw [← HW1.out]; refine wpList_load_row rfl 29 _ rfl w.heap.size rfl 29 (insRow i).toArray (0, 0) _ HK1.out Tryz.underlying29 rfl infoIns ?_)
  refine (HCHK.out W1).mono ?_
  rintro e w2 ⟨rfl, hb2⟩
  rw [HC.out]
  have HB2 := Lib.hid hb2
  unfold errOf
  have n0 := HN1.out 0
  have n1 := HN1.out 1
  have n2 := HN1.out 2
  have n3 := HN1.out 3
  have n4 := HN1.out 4
  have n5 := HN1.out 5
  have q0 := (hb2.cell (p := ⟨w.heap.size, 0, none⟩) m1).trans n0
  have q1 := (hb2.cell (p := ⟨w.heap.size, 1, none⟩) m1).trans n1
  have q2 := (hb2.cell (p := ⟨w.heap.size, 2, none⟩) m1).trans n2
  have q3 := (hb2.cell (p := ⟨w.heap.size, 3, none⟩) m1).trans n3
  have q4 := (hb2.cell (p := ⟨w.heap.size, 4, none⟩) m1).trans n4
  have q5 := (hb2.cell (p := ⟨w.heap.size, 5, none⟩) m1).trans n5
  clear n0 n1 n2 n3 n4 n5 hb2
  simp only [insRow, List.getElem?_toArray, List.getElem?_cons_zero, List.getElem?_cons_succ] at q0 q1 q2 q3 q4 q5
  rw [hop'] at q0
  rw [hD] at q1
  have m2 : w.heap.size < w2.heap.size := Nat.lt_of_lt_of_le m1 HB2.out.size
  obtain ⟨L0, e0⟩ : ∃ q, q = L16 := ⟨_, rfl⟩
  have E := Lib.hid e0
  have H := Lib.hid (Bools.new w w2 w.heap.size i E.out (HB1.out.trans (HB2.out.mono HB1.out.size)) ((HB2.out.block _ m1).trans HK1.out) m2)
  clear e0
  clear hop' hD
  go_upto_region 5 with (((with_reducible refine (Form_6 _).mono ?_); rintro e w3 ⟨rfl, rfl⟩))
  go_wp2_with (first | ((with_reducible refine (Has_lit ⟨#[68, 83]⟩ 68 68 rfl true _ (by decide) rfl).mono ?_); rintro e w3 ⟨rfl, rfl⟩) | ((with_reducible refine wl_id ?_); refine H.out.store D LD.out _ _ rfl rfl rfl rfl ?_; intro W L2 hL hW; have e2 := chain_step hL E.out; clear hL E q0 q1 q2 q3 q4 q5; have E := Lib.hid e2; clear e2; clear H; have H := Lib.hid hW; clear hW; obtain ⟨q0, q1, q2, q3, q4, q5⟩ := H.out.cells; rw [HOP.out] at q0; rw [ED.out] at q1) | ((with_reducible refine wl_id ?_); refine H.out.store 2 (by decide) _ _ rfl rfl rfl rfl ?_; intro W L2 hL hW; have e2 := chain_step hL E.out; clear hL E q0 q1 q2 q3 q4 q5; have E := Lib.hid e2; clear e2; clear H; have H := Lib.hid hW; clear hW; obtain ⟨q0, q1, q2, q3, q4, q5⟩ := H.out.cells; rw [HOP.out] at q0; rw [ED.out] at q1) | ((with_reducible refine wl_id ?_); refine H.out.store 4 (by decide) _ _ rfl rfl rfl rfl ?_; intro W L2 hL hW; have e2 := chain_step hL E.out; clear hL E q0 q1 q2 q3 q4 q5; have E := Lib.hid e2; clear e2; clear H; have H := Lib.hid hW; clear hW; obtain ⟨q0, q1, q2, q3, q4, q5⟩ := H.out.cells; rw [HOP.out] at q0; rw [ED.out] at q1) | ((with_reducible refine wl_id ?_); refine H.out.load _ rfl rfl rfl ?_) | (go_at_call 40; refine (rising_any _ H.out.len _).mono ?_; rintro e w4 ⟨v4, rfl, hI, hb4⟩; have HI := Lib.hid hI; have HB4 := Lib.hid (H.out.below.trans (hb4.mono H.out.below.size)); have HZ := Lib.hid H.out.below.size; clear hI hb4))
  go_ret
  refine ⟨_, rfl, ?_, HB4.out⟩
  have h9 := HI.out.mono (G := fun k => w.heap.size ≤ k ∧ k < w4.heap.size) fun k hk => ⟨Nat.le_trans HZ.out hk.1, hk.2⟩
  have e9 : writesL [68, 83] i = L16.set D true := by simp only [writesL, HOP.out, ED.out]; rfl
  rw [e9, ← E.out]
  exact h9
set_option maxRecDepth 100000 in
set_option maxHeartbeats 3200000 in
theorem Writes_7 (i : Ins) (hop : i.op = 7) (hc : chkP i = true) (w : World) :
    Calls Tryz.prog 16 #[.agg (insRow i).toArray] w fun e w' => ∃ v, e = .returned v ∧ IntsAt w' (fun k => w.heap.size ≤ k ∧ k < w'.heap.size) v (risingF (writesL [68, 83] i)) ∧ Below w.heap.size w w' := by
  obtain ⟨_, _, hd1, hs1, ht1, _⟩ := chk_parts hc
  have hpl := chk_place hc
  rw [hop] at hd1 hs1 ht1 hpl
  obtain ⟨D, hD, hDl⟩ := hasOk_yes hd1 (by rfl)
  have lD0 : (0 : Int) ≤ (D : Int) := by omega
  have lD1 : (D : Int) < 16 := by omega
  have LD := Lib.hid hDl
  have hop' := hop
  have HOP := Lib.hid hop
  have HC := Lib.hid hc
  have ED := Lib.hid hD
  clear hop hc hd1 hs1 ht1 hpl hDl
  have HCHK := Lib.hid (fun w => rCheck_any i w)
  obtain ⟨W1, hW1, hb1, hs1, hn1, _⟩ := boxed w (insRow i).toArray 29
  have k1 : W1.heap[w.heap.size]? = some (.cells (insRow i).toArray 29 (0, 0)) := by rw [hW1]; exact heap_alloc_new w _
  have HK1 := Lib.hid k1
  have HW1 := Lib.hid hW1
  have HB1 := Lib.hid hb1
  have HN1 := Lib.hid hn1
  have m1 : w.heap.size < W1.heap.size := by omega
  clear hW1 hb1 hs1 hn1 k1
  go_enter Tryz.func16, Tryz.ntmps16
  go_wp2_with (rw [← HW1.out]; refine wpList_load_row rfl 29 _ rfl w.heap.size rfl 29 (insRow i).toArray (0, 0) _ HK1.out Tryz.underlying29 rfl infoIns ?_)
  refine (HCHK.out W1).mono ?_
  rintro e w2 ⟨rfl, hb2⟩
  rw [HC.out]
  have HB2 := Lib.hid hb2
  unfold errOf
  have n0 := HN1.out 0
  have n1 := HN1.out 1
  have n2 := HN1.out 2
  have n3 := HN1.out 3
  have n4 := HN1.out 4
  have n5 := HN1.out 5
  have q0 := (hb2.cell (p := ⟨w.heap.size, 0, none⟩) m1).trans n0
  have q1 := (hb2.cell (p := ⟨w.heap.size, 1, none⟩) m1).trans n1
  have q2 := (hb2.cell (p := ⟨w.heap.size, 2, none⟩) m1).trans n2
  have q3 := (hb2.cell (p := ⟨w.heap.size, 3, none⟩) m1).trans n3
  have q4 := (hb2.cell (p := ⟨w.heap.size, 4, none⟩) m1).trans n4
  have q5 := (hb2.cell (p := ⟨w.heap.size, 5, none⟩) m1).trans n5
  clear n0 n1 n2 n3 n4 n5 hb2
  simp only [insRow, List.getElem?_toArray, List.getElem?_cons_zero, List.getElem?_cons_succ] at q0 q1 q2 q3 q4 q5
  rw [hop'] at q0
  rw [hD] at q1
  have m2 : w.heap.size < w2.heap.size := Nat.lt_of_lt_of_le m1 HB2.out.size
  obtain ⟨L0, e0⟩ : ∃ q, q = L16 := ⟨_, rfl⟩
  have E := Lib.hid e0
  have H := Lib.hid (Bools.new w w2 w.heap.size i E.out (HB1.out.trans (HB2.out.mono HB1.out.size)) ((HB2.out.block _ m1).trans HK1.out) m2)
  clear e0
  clear hop' hD
  go_upto_region 5 with (((with_reducible refine (Form_7 _).mono ?_); rintro e w3 ⟨rfl, rfl⟩))
  go_wp2_with (first | ((with_reducible refine (Has_lit ⟨#[68, 83]⟩ 68 68 rfl true _ (by decide) rfl).mono ?_); rintro e w3 ⟨rfl, rfl⟩) | ((with_reducible refine wl_id ?_); refine H.out.store D LD.out _ _ rfl rfl rfl rfl ?_; intro W L2 hL hW; have e2 := chain_step hL E.out; clear hL E q0 q1 q2 q3 q4 q5; have E := Lib.hid e2; clear e2; clear H; have H := Lib.hid hW; clear hW; obtain ⟨q0, q1, q2, q3, q4, q5⟩ := H.out.cells; rw [HOP.out] at q0; rw [ED.out] at q1) | ((with_reducible refine wl_id ?_); refine H.out.store 2 (by decide) _ _ rfl rfl rfl rfl ?_; intro W L2 hL hW; have e2 := chain_step hL E.out; clear hL E q0 q1 q2 q3 q4 q5; have E := Lib.hid e2; clear e2; clear H; have H := Lib.hid hW; clear hW; obtain ⟨q0, q1, q2, q3, q4, q5⟩ := H.out.cells; rw [HOP.out] at q0; rw [ED.out] at q1) | ((with_reducible refine wl_id ?_); refine H.out.store 4 (by decide) _ _ rfl rfl rfl rfl ?_; intro W L2 hL hW; have e2 := chain_step hL E.out; clear hL E q0 q1 q2 q3 q4 q5; have E := Lib.hid e2; clear e2; clear H; have H := Lib.hid hW; clear hW; obtain ⟨q0, q1, q2, q3, q4, q5⟩ := H.out.cells; rw [HOP.out] at q0; rw [ED.out] at q1) | ((with_reducible refine wl_id ?_); refine H.out.load _ rfl rfl rfl ?_) | (go_at_call 40; refine (rising_any _ H.out.len _).mono ?_; rintro e w4 ⟨v4, rfl, hI, hb4⟩; have HI := Lib.hid hI; have HB4 := Lib.hid (H.out.below.trans (hb4.mono H.out.below.size)); have HZ := Lib.hid H.out.below.size; clear hI hb4))
  go_ret
  refine ⟨_, rfl, ?_, HB4.out⟩
  have h9 := HI.out.mono (G := fun k => w.heap.size ≤ k ∧ k < w4.heap.size) fun k hk => ⟨Nat.le_trans HZ.out hk.1, hk.2⟩
  have e9 : writesL [68, 83] i = L16.set D true := by simp only [writesL, HOP.out, ED.out]; rfl
  rw [e9, ← E.out]
  exact h9
set_option maxRecDepth 100000 in
set_option maxHeartbeats 3200000 in
theorem Writes_8 (i : Ins) (hop : i.op = 8) (hc : chkP i = true) (w : World) :
    Calls Tryz.prog 16 #[.agg (insRow i).toArray] w fun e w' => ∃ v, e = .returned v ∧ IntsAt w' (fun k => w.heap.size ≤ k ∧ k < w'.heap.size) v (risingF (writesL [68, 83] i)) ∧ Below w.heap.size w w' := by
  obtain ⟨_, _, hd1, hs1, ht1, _⟩ := chk_parts hc
  have hpl := chk_place hc
  rw [hop] at hd1 hs1 ht1 hpl
  obtain ⟨D, hD, hDl⟩ := hasOk_yes hd1 (by rfl)
  have lD0 : (0 : Int) ≤ (D : Int) := by omega
  have lD1 : (D : Int) < 16 := by omega
  have LD := Lib.hid hDl
  have hop' := hop
  have HOP := Lib.hid hop
  have HC := Lib.hid hc
  have ED := Lib.hid hD
  clear hop hc hd1 hs1 ht1 hpl hDl
  have HCHK := Lib.hid (fun w => rCheck_any i w)
  obtain ⟨W1, hW1, hb1, hs1, hn1, _⟩ := boxed w (insRow i).toArray 29
  have k1 : W1.heap[w.heap.size]? = some (.cells (insRow i).toArray 29 (0, 0)) := by rw [hW1]; exact heap_alloc_new w _
  have HK1 := Lib.hid k1
  have HW1 := Lib.hid hW1
  have HB1 := Lib.hid hb1
  have HN1 := Lib.hid hn1
  have m1 : w.heap.size < W1.heap.size := by omega
  clear hW1 hb1 hs1 hn1 k1
  go_enter Tryz.func16, Tryz.ntmps16
  go_wp2_with (rw [← HW1.out]; refine wpList_load_row rfl 29 _ rfl w.heap.size rfl 29 (insRow i).toArray (0, 0) _ HK1.out Tryz.underlying29 rfl infoIns ?_)
  refine (HCHK.out W1).mono ?_
  rintro e w2 ⟨rfl, hb2⟩
  rw [HC.out]
  have HB2 := Lib.hid hb2
  unfold errOf
  have n0 := HN1.out 0
  have n1 := HN1.out 1
  have n2 := HN1.out 2
  have n3 := HN1.out 3
  have n4 := HN1.out 4
  have n5 := HN1.out 5
  have q0 := (hb2.cell (p := ⟨w.heap.size, 0, none⟩) m1).trans n0
  have q1 := (hb2.cell (p := ⟨w.heap.size, 1, none⟩) m1).trans n1
  have q2 := (hb2.cell (p := ⟨w.heap.size, 2, none⟩) m1).trans n2
  have q3 := (hb2.cell (p := ⟨w.heap.size, 3, none⟩) m1).trans n3
  have q4 := (hb2.cell (p := ⟨w.heap.size, 4, none⟩) m1).trans n4
  have q5 := (hb2.cell (p := ⟨w.heap.size, 5, none⟩) m1).trans n5
  clear n0 n1 n2 n3 n4 n5 hb2
  simp only [insRow, List.getElem?_toArray, List.getElem?_cons_zero, List.getElem?_cons_succ] at q0 q1 q2 q3 q4 q5
  rw [hop'] at q0
  rw [hD] at q1
  have m2 : w.heap.size < w2.heap.size := Nat.lt_of_lt_of_le m1 HB2.out.size
  obtain ⟨L0, e0⟩ : ∃ q, q = L16 := ⟨_, rfl⟩
  have E := Lib.hid e0
  have H := Lib.hid (Bools.new w w2 w.heap.size i E.out (HB1.out.trans (HB2.out.mono HB1.out.size)) ((HB2.out.block _ m1).trans HK1.out) m2)
  clear e0
  clear hop' hD
  go_upto_region 5 with (((with_reducible refine (Form_8 _).mono ?_); rintro e w3 ⟨rfl, rfl⟩))
  go_wp2_with (first | ((with_reducible refine (Has_lit ⟨#[68, 83]⟩ 68 68 rfl true _ (by decide) rfl).mono ?_); rintro e w3 ⟨rfl, rfl⟩) | ((with_reducible refine wl_id ?_); refine H.out.store D LD.out _ _ rfl rfl rfl rfl ?_; intro W L2 hL hW; have e2 := chain_step hL E.out; clear hL E q0 q1 q2 q3 q4 q5; have E := Lib.hid e2; clear e2; clear H; have H := Lib.hid hW; clear hW; obtain ⟨q0, q1, q2, q3, q4, q5⟩ := H.out.cells; rw [HOP.out] at q0; rw [ED.out] at q1) | ((with_reducible refine wl_id ?_); refine H.out.store 2 (by decide) _ _ rfl rfl rfl rfl ?_; intro W L2 hL hW; have e2 := chain_step hL E.out; clear hL E q0 q1 q2 q3 q4 q5; have E := Lib.hid e2; clear e2; clear H; have H := Lib.hid hW; clear hW; obtain ⟨q0, q1, q2, q3, q4, q5⟩ := H.out.cells; rw [HOP.out] at q0; rw [ED.out] at q1) | ((with_reducible refine wl_id ?_); refine H.out.store 4 (by decide) _ _ rfl rfl rfl rfl ?_; intro W L2 hL hW; have e2 := chain_step hL E.out; clear hL E q0 q1 q2 q3 q4 q5; have E := Lib.hid e2; clear e2; clear H; have H := Lib.hid hW; clear hW; obtain ⟨q0, q1, q2, q3, q4, q5⟩ := H.out.cells; rw [HOP.out] at q0; rw [ED.out] at q1) | ((with_reducible refine wl_id ?_); refine H.out.load _ rfl rfl rfl ?_) | (go_at_call 40; refine (rising_any _ H.out.len _).mono ?_; rintro e w4 ⟨v4, rfl, hI, hb4⟩; have HI := Lib.hid hI; have HB4 := Lib.hid (H.out.below.trans (hb4.mono H.out.below.size)); have HZ := Lib.hid H.out.below.size; clear hI hb4))
  go_ret
  refine ⟨_, rfl, ?_, HB4.out⟩
  have h9 := HI.out.mono (G := fun k => w.heap.size ≤ k ∧ k < w4.heap.size) fun k hk => ⟨Nat.le_trans HZ.out hk.1, hk.2⟩
  have e9 : writesL [68, 83] i = L16.set D true := by simp only [writesL, HOP.out, ED.out]; rfl
  rw [e9, ← E.out]
  exact h9
set_option maxRecDepth 100000 in
set_option maxHeartbeats 3200000 in
theorem Writes_9 (i : Ins) (hop : i.op = 9) (hc : chkP i = true) (w : World) :
    Calls Tryz.prog 16 #[.agg (insRow i).toArray] w fun e w' => ∃ v, e = .returned v ∧ IntsAt w' (fun k => w.heap.size ≤ k ∧ k < w'.heap.size) v (risingF (writesL [68, 83] i)) ∧ Below w.heap.size w w' := by
  obtain ⟨_, _, hd1, hs1, ht1, _⟩ := chk_parts hc
  have hpl := chk_place hc
  rw [hop] at hd1 hs1 ht1 hpl
  obtain ⟨D, hD, hDl⟩ := hasOk_yes hd1 (by rfl)
  have lD0 : (0 : Int) ≤ (D : Int) := by omega
  have lD1 : (D : Int) < 16 := by omega
  have LD := Lib.hid hDl
  have hop' := hop
  have HOP := Lib.hid hop
  have HC := Lib.hid hc
  have ED := Lib.hid hD
  clear hop hc hd1 hs1 ht1 hpl hDl
  have HCHK := Lib.hid (fun w => rCheck_any i w)
  obtain ⟨W1, hW1, hb1, hs1, hn1, _⟩ := boxed w (insRow i).toArray 29
  have k1 : W1.heap[w.heap.size]? = some (.cells (insRow i).toArray 29 (0, 0)) := by rw [hW1]; exact heap_alloc_new w _
  have HK1 := Lib.hid k1
  have HW1 := Lib.hid hW1
  have HB1 := Lib.hid hb1
  have HN1 := Lib.hid hn1
  have m1 : w.heap.size < W1.heap.size := by omega
  clear hW1 hb1 hs1 hn1 k1
  go_enter Tryz.func16, Tryz.ntmps16
  go_wp2_with (rw [← HW1.out]; refine wpList_load_row rfl 29 _ rfl w.heap.size rfl 29 (insRow i).toArray (0, 0) _ HK1.out Tryz.underlying29 rfl infoIns ?_)
  refine (HCHK.out W1).mono ?_
  rintro e w2 ⟨rfl, hb2⟩
  rw [HC.out]
  have HB2 := Lib.hid hb2
  unfold errOf
  have n0 := HN1.out 0
  have n1 := HN1.out 1
  have n2 := HN1.out 2
  have n3 := HN1.out 3
  have n4 := HN1.out 4
  have n5 := HN1.out 5
  have q0 := (hb2.cell (p := ⟨w.heap.size, 0, none⟩) m1).trans n0
  have q1 := (hb2.cell (p := ⟨w.heap.size, 1, none⟩) m1).trans n1
  have q2 := (hb2.cell (p := ⟨w.heap.size, 2, none⟩) m1).trans n2
  have q3 := (hb2.cell (p := ⟨w.heap.size, 3, none⟩) m1).trans n3
  have q4 := (hb2.cell (p := ⟨w.heap.size, 4, none⟩) m1).trans n4
  have q5 := (hb2.cell (p := ⟨w.heap.size, 5, none⟩) m1).trans n5
  clear n0 n1 n2 n3 n4 n5 hb2
  simp only [insRow, List.getElem?_toArray, List.getElem?_cons_zero, List.getElem?_cons_succ] at q0 q1 q2 q3 q4 q5
  rw [hop'] at q0
  rw [hD] at q1
  have m2 : w.heap.size < w2.heap.size := Nat.lt_of_lt_of_le m1 HB2.out.size
  obtain ⟨L0, e0⟩ : ∃ q, q = L16 := ⟨_, rfl⟩
  have E := Lib.hid e0
  have H := Lib.hid (Bools.new w w2 w.heap.size i E.out (HB1.out.trans (HB2.out.mono HB1.out.size)) ((HB2.out.block _ m1).trans HK1.out) m2)
  clear e0
  clear hop' hD
  go_upto_region 5 with (((with_reducible refine (Form_9 _).mono ?_); rintro e w3 ⟨rfl, rfl⟩))
  go_wp2_with (first | ((with_reducible refine (Has_lit ⟨#[68, 83]⟩ 68 68 rfl true _ (by decide) rfl).mono ?_); rintro e w3 ⟨rfl, rfl⟩) | ((with_reducible refine wl_id ?_); refine H.out.store D LD.out _ _ rfl rfl rfl rfl ?_; intro W L2 hL hW; have e2 := chain_step hL E.out; clear hL E q0 q1 q2 q3 q4 q5; have E := Lib.hid e2; clear e2; clear H; have H := Lib.hid hW; clear hW; obtain ⟨q0, q1, q2, q3, q4, q5⟩ := H.out.cells; rw [HOP.out] at q0; rw [ED.out] at q1) | ((with_reducible refine wl_id ?_); refine H.out.store 2 (by decide) _ _ rfl rfl rfl rfl ?_; intro W L2 hL hW; have e2 := chain_step hL E.out; clear hL E q0 q1 q2 q3 q4 q5; have E := Lib.hid e2; clear e2; clear H; have H := Lib.hid hW; clear hW; obtain ⟨q0, q1, q2, q3, q4, q5⟩ := H.out.cells; rw [HOP.out] at q0; rw [ED.out] at q1) | ((with_reducible refine wl_id ?_); refine H.out.store 4 (by decide) _ _ rfl rfl rfl rfl ?_; intro W L2 hL hW; have e2 := chain_step hL E.out; clear hL E q0 q1 q2 q3 q4 q5; have E := Lib.hid e2; clear e2; clear H; have H := Lib.hid hW; clear hW; obtain ⟨q0, q1, q2, q3, q4, q5⟩ := H.out.cells; rw [HOP.out] at q0; rw [ED.out] at q1) | ((with_reducible refine wl_id ?_); refine H.out.load _ rfl rfl rfl ?_) | (go_at_call 40; refine (rising_any _ H.out.len _).mono ?_; rintro e w4 ⟨v4, rfl, hI, hb4⟩; have HI := Lib.hid hI; have HB4 := Lib.hid (H.out.below.trans (hb4.mono H.out.below.size)); have HZ := Lib.hid H.out.below.size; clear hI hb4))
  go_ret
  refine ⟨_, rfl, ?_, HB4.out⟩
  have h9 := HI.out.mono (G := fun k => w.heap.size ≤ k ∧ k < w4.heap.size) fun k hk => ⟨Nat.le_trans HZ.out hk.1, hk.2⟩
  have e9 : writesL [68, 83] i = L16.set D true := by simp only [writesL, HOP.out, ED.out]; rfl
  rw [e9, ← E.out]
  exact h9
set_option maxRecDepth 100000 in
set_option maxHeartbeats 3200000 in
theorem Writes_10 (i : Ins) (hop : i.op = 10) (hc : chkP i = true) (w : World) :
    Calls Tryz.prog 16 #[.agg (insRow i).toArray] w fun e w' => ∃ v, e = .returned v ∧ IntsAt w' (fun k => w.heap.size ≤ k ∧ k < w'.heap.size) v (risingF (writesL [68, 83] i)) ∧ Below w.heap.size w w' := by
  obtain ⟨_, _, hd1, hs1, ht1, _⟩ := chk_parts hc
  have hpl := chk_place hc
  rw [hop] at hd1 hs1 ht1 hpl
  obtain ⟨D, hD, hDl⟩ := hasOk_yes hd1 (by rfl)
  have lD0 : (0 : Int) ≤ (D : Int) := by omega
  have lD1 : (D : Int) < 16 := by omega
  have LD := Lib.hid hDl
  have hop' := hop
  have HOP := Lib.hid hop
  have HC := Lib.hid hc
  have ED := Lib.hid hD
  clear hop hc hd1 hs1 ht1 hpl hDl
  have HCHK := Lib.hid (fun w => rCheck_any i w)
  obtain ⟨W1, hW1, hb1, hs1, hn1, _⟩ := boxed w (insRow i).toArray 29
  have k1 : W1.heap[w.heap.size]? = some (.cells (insRow i).toArray 29 (0, 0)) := by rw [hW1]; exact heap_alloc_new w _
  have HK1 := Lib.hid k1
  have HW1 := Lib.hid hW1
  have HB1 := Lib.hid hb1
  have HN1 := Lib.hid hn1
  have m1 : w.heap.size < W1.heap.size := by omega
  clear hW1 hb1 hs1 hn1 k1
  go_enter Tryz.func16, Tryz.ntmps16
  go_wp2_with (rw [← HW1.out]; refine wpList_load_row rfl 29 _ rfl w.heap.size rfl 29 (insRow i).toArray (0, 0) _ HK1.out Tryz.underlying29 rfl infoIns ?_)
  refine (HCHK.out W1).mono ?_
  rintro e w2 ⟨rfl, hb2⟩
  rw [HC.out]
  have HB2 := Lib.hid hb2
  unfold errOf
  have n0 := HN1.out 0
  have n1 := HN1.out 1
  have n2 := HN1.out 2
  have n3 := HN1.out 3
  have n4 := HN1.out 4
  have n5 := HN1.out 5
  have q0 := (hb2.cell (p := ⟨w.heap.size, 0, none⟩) m1).trans n0
  have q1 := (hb2.cell (p := ⟨w.heap.size, 1, none⟩) m1).trans n1
  have q2 := (hb2.cell (p := ⟨w.heap.size, 2, none⟩) m1).trans n2
  have q3 := (hb2.cell (p := ⟨w.heap.size, 3, none⟩) m1).trans n3
  have q4 := (hb2.cell (p := ⟨w.heap.size, 4, none⟩) m1).trans n4
  have q5 := (hb2.cell (p := ⟨w.heap.size, 5, none⟩) m1).trans n5
  clear n0 n1 n2 n3 n4 n5 hb2
  simp only [insRow, List.getElem?_toArray, List.getElem?_cons_zero, List.getElem?_cons_succ] at q0 q1 q2 q3 q4 q5
  rw [hop'] at q0
  rw [hD] at q1
  have m2 : w.heap.size < w2.heap.size := Nat.lt_of_lt_of_le m1 HB2.out.size
  obtain ⟨L0, e0⟩ : ∃ q, q = L16 := ⟨_, rfl⟩
  have E := Lib.hid e0
  have H := Lib.hid (Bools.new w w2 w.heap.size i E.out (HB1.out.trans (HB2.out.mono HB1.out.size)) ((HB2.out.block _ m1).trans HK1.out) m2)
  clear e0
  clear hop' hD
  go_upto_region 5 with (((with_reducible refine (Form_10 _).mono ?_); rintro e w3 ⟨rfl, rfl⟩))
  go_wp2_with (first | ((with_reducible refine (Has_lit ⟨#[68, 83]⟩ 68 68 rfl true _ (by decide) rfl).mono ?_); rintro e w3 ⟨rfl, rfl⟩) | ((with_reducible refine wl_id ?_); refine H.out.store D LD.out _ _ rfl rfl rfl rfl ?_; intro W L2 hL hW; have e2 := chain_step hL E.out; clear hL E q0 q1 q2 q3 q4 q5; have E := Lib.hid e2; clear e2; clear H; have H := Lib.hid hW; clear hW; obtain ⟨q0, q1, q2, q3, q4, q5⟩ := H.out.cells; rw [HOP.out] at q0; rw [ED.out] at q1) | ((with_reducible refine wl_id ?_); refine H.out.store 2 (by decide) _ _ rfl rfl rfl rfl ?_; intro W L2 hL hW; have e2 := chain_step hL E.out; clear hL E q0 q1 q2 q3 q4 q5; have E := Lib.hid e2; clear e2; clear H; have H := Lib.hid hW; clear hW; obtain ⟨q0, q1, q2, q3, q4, q5⟩ := H.out.cells; rw [HOP.out] at q0; rw [ED.out] at q1) | ((with_reducible refine wl_id ?_); refine H.out.store 4 (by decide) _ _ rfl rfl rfl rfl ?_; intro W L2 hL hW; have e2 := chain_step hL E.out; clear hL E q0 q1 q2 q3 q4 q5; have E := Lib.hid e2; clear e2; clear H; have H := Lib.hid hW; clear hW; obtain ⟨q0, q1, q2, q3, q4, q5⟩ := H.out.cells; rw [HOP.out] at q0; rw [ED.out] at q1) | ((with_reducible refine wl_id ?_); refine H.out.load _ rfl rfl rfl ?_) | (go_at_call 40; refine (rising_any _ H.out.len _).mono ?_; rintro e w4 ⟨v4, rfl, hI, hb4⟩; have HI := Lib.hid hI; have HB4 := Lib.hid (H.out.below.trans (hb4.mono H.out.below.size)); have HZ := Lib.hid H.out.below.size; clear hI hb4))
  go_ret
  refine ⟨_, rfl, ?_, HB4.out⟩
  have h9 := HI.out.mono (G := fun k => w.heap.size ≤ k ∧ k < w4.heap.size) fun k hk => ⟨Nat.le_trans HZ.out hk.1, hk.2⟩
  have e9 : writesL [68, 83] i = L16.set D true := by simp only [writesL, HOP.out, ED.out]; rfl
  rw [e9, ← E.out]
  exact h9
set_option maxRecDepth 100000 in
set_option maxHeartbeats 3200000 in
theorem Writes_11 (i : Ins) (hop : i.op = 11) (hc : chkP i = true) (w : World) :
    Calls Tryz.prog 16 #[.agg (insRow i).toArray] w fun e w' => ∃ v, e = .returned v ∧ IntsAt w' (fun k => w.heap.size ≤ k ∧ k < w'.heap.size) v (risingF (writesL [68, 83] i)) ∧ Below w.heap.size w w' := by
  obtain ⟨_, _, hd1, hs1, ht1, _⟩ := chk_parts hc
  have hpl := chk_place hc
  rw [hop] at hd1 hs1 ht1 hpl
  obtain ⟨D, hD, hDl⟩ := hasOk_yes hd1 (by rfl)
  have lD0 : (0 : Int) ≤ (D : Int) := by omega
  have lD1 : (D : Int) < 16 := by omega
  have LD := Lib.hid hDl
  have hop' := hop
  have HOP := Lib.hid hop
  have HC := Lib.hid hc
  have ED := Lib.hid hD
  clear hop hc hd1 hs1 ht1 hpl hDl
  have HCHK := Lib.hid (fun w => rCheck_any i w)
  obtain ⟨W1, hW1, hb1, hs1, hn1, _⟩ := boxed w (insRow i).toArray 29
  have k1 : W1.heap[w.heap.size]? = some (.cells (insRow i).toArray 29 (0, 0)) := by rw [hW1]; exact heap_alloc_new w _
  have HK1 := Lib.hid k1
  have HW1 := Lib.hid hW1
  have HB1 := Lib.hid hb1
  have HN1 := Lib.hid hn1
  have m1 : w.heap.size < W1.heap.size := by omega
  clear hW1 hb1 hs1 hn1 k1
  go_enter Tryz.func16, Tryz.ntmps16
  go_wp2_with (rw [← HW1.out]; refine wpList_load_row rfl 29 _ rfl w.heap.size rfl 29 (insRow i).toArray (0, 0) _ HK1.out Tryz.underlying29 rfl infoIns ?_)
  refine (HCHK.out W1).mono ?_
  rintro e w2 ⟨rfl, hb2⟩
  rw [HC.out]
  have HB2 := Lib.hid hb2
  unfold errOf
  have n0 := HN1.out 0
  have n1 := HN1.out 1
  have n2 := HN1.out 2
  have n3 := HN1.out 3
  have n4 := HN1.out 4
  have n5 := HN1.out 5
  have q0 := (hb2.cell (p := ⟨w.heap.size, 0, none⟩) m1).trans n0
  have q1 := (hb2.cell (p := ⟨w.heap.size, 1, none⟩) m1).trans n1
  have q2 := (hb2.cell (p := ⟨w.heap.size, 2, none⟩) m1).trans n2
  have q3 := (hb2.cell (p := ⟨w.heap.size, 3, none⟩) m1).trans n3
  have q4 := (hb2.cell (p := ⟨w.heap.size, 4, none⟩) m1).trans n4
  have q5 := (hb2.cell (p := ⟨w.heap.size, 5, none⟩) m1).trans n5
  clear n0 n1 n2 n3 n4 n5 hb2
  simp only [insRow, List.getElem?_toArray, List.getElem?_cons_zero, List.getElem?_cons_succ] at q0 q1 q2 q3 q4 q5
  rw [hop'] at q0
  rw [hD] at q1
  have m2 : w.heap.size < w2.heap.size := Nat.lt_of_lt_of_le m1 HB2.out.size
  obtain ⟨L0, e0⟩ : ∃ q, q = L16 := ⟨_, rfl⟩
  have E := Lib.hid e0
  have H := Lib.hid (Bools.new w w2 w.heap.size i E.out (HB1.out.trans (HB2.out.mono HB1.out.size)) ((HB2.out.block _ m1).trans HK1.out) m2)
  clear e0
  clear hop' hD
  go_upto_region 5 with (((with_reducible refine (Form_11 _).mono ?_); rintro e w3 ⟨rfl, rfl⟩))
  go_wp2_with (first | ((with_reducible refine (Has_lit ⟨#[68, 83]⟩ 68 68 rfl true _ (by decide) rfl).mono ?_); rintro e w3 ⟨rfl, rfl⟩) | ((with_reducible refine wl_id ?_); refine H.out.store D LD.out _ _ rfl rfl rfl rfl ?_; intro W L2 hL hW; have e2 := chain_step hL E.out; clear hL E q0 q1 q2 q3 q4 q5; have E := Lib.hid e2; clear e2; clear H; have H := Lib.hid hW; clear hW; obtain ⟨q0, q1, q2, q3, q4, q5⟩ := H.out.cells; rw [HOP.out] at q0; rw [ED.out] at q1) | ((with_reducible refine wl_id ?_); refine H.out.store 2 (by decide) _ _ rfl rfl rfl rfl ?_; intro W L2 hL hW; have e2 := chain_step hL E.out; clear hL E q0 q1 q2 q3 q4 q5; have E := Lib.hid e2; clear e2; clear H; have H := Lib.hid hW; clear hW; obtain ⟨q0, q1, q2, q3, q4, q5⟩ := H.out.cells; rw [HOP.out] at q0; rw [ED.out] at q1) | ((with_reducible refine wl_id ?_); refine H.out.store 4 (by decide) _ _ rfl rfl rfl rfl ?_; intro W L2 hL hW; have e2 := chain_step hL E.out; clear hL E q0 q1 q2 q3 q4 q5; have E := Lib.hid e2; clear e2; clear H; have H := Lib.hid hW; clear hW; obtain ⟨q0, q1, q2, q3, q4, q5⟩ := H.out.cells; rw [HOP.out] at q0; rw [ED.out] at q1) | ((with_reducible refine wl_id ?_); refine H.out.load _ rfl rfl rfl ?_) | (go_at_call 40; refine (rising_any _ H.out.len _).mono ?_; rintro e w4 ⟨v4, rfl, hI, hb4⟩; have HI := Lib.hid hI; have HB4 := Lib.hid (H.out.below.trans (hb4.mono H.out.below.size)); have HZ := Lib.hid H.out.below.size; clear hI hb4))
  go_ret
  refine ⟨_, rfl, ?_, HB4.out⟩
  have h9 := HI.out.mono (G := fun k => w.heap.size ≤ k ∧ k < w4.heap.size) fun k hk => ⟨Nat.le_trans HZ.out hk.1, hk.2⟩
  have e9 : writesL [68, 83] i = L16.set D true := by simp only [writesL, HOP.out, ED.out]; rfl
  rw [e9, ← E.out]
  exact h9
set_option maxRecDepth 100000 in
set_option maxHeartbeats 3200000 in
theorem Writes_12 (i : Ins) (hop : i.op = 12) (hc : chkP i = true) (w : World) :
    Calls Tryz.prog 16 #[.agg (insRow i).toArray] w fun e w' => ∃ v, e = .returned v ∧ IntsAt w' (fun k => w.heap.size ≤ k ∧ k < w'.heap.size) v (risingF (writesL [68, 83] i)) ∧ Below w.heap.size w w' := by
  obtain ⟨_, _, hd1, hs1, ht1, _⟩ := chk_parts hc
  have hpl := chk_place hc
  rw [hop] at hd1 hs1 ht1 hpl
  obtain ⟨D, hD, hDl⟩ := hasOk_yes hd1 (by rfl)
  have lD0 : (0 : Int) ≤ (D : Int) := by omega
  have lD1 : (D : Int) < 16 := by omega
  have LD := Lib.hid hDl
  have hop' := hop
  have HOP := Lib.hid hop
  have HC := Lib.hid hc
  have ED := Lib.hid hD
  clear hop hc hd1 hs1 ht1 hpl hDl
  have HCHK := Lib.hid (fun w => rCheck_any i w)
  obtain ⟨W1, hW1, hb1, hs1, hn1, _⟩ := boxed w (insRow i).toArray 29
  have k1 : W1.heap[w.heap.size]? = some (.cells (insRow i).toArray 29 (0, 0)) := by rw [hW1]; exact heap_alloc_new w _
  have HK1 := Lib.hid k1
  have HW1 := Lib.hid hW1
  have HB1 := Lib.hid hb1
  have HN1 := Lib.hid hn1
  have m1 : w.heap.size < W1.heap.size := by omega
  clear hW1 hb1 hs1 hn1 k1
  go_enter Tryz.func16, Tryz.ntmps16
  go_wp2_with (rw [← HW1.out]; refine wpList_load_row rfl 29 _ rfl w.heap.size rfl 29 (insRow i).toArray (0, 0) _ HK1.out Tryz.underlying29 rfl infoIns ?_)
  refine (HCHK.out W1).mono ?_
  rintro e w2 ⟨rfl, hb2⟩
  rw [HC.out]
  have HB2 := Lib.hid hb2
  unfold errOf
  have n0 := HN1.out 0
  have n1 := HN1.out 1
  have n2 := HN1.out 2
  have n3 := HN1.out 3
  have n4 := HN1.out 4
  have n5 := HN1.out 5
  have q0 := (hb2.cell (p := ⟨w.heap.size, 0, none⟩) m1).trans n0
  have q1 := (hb2.cell (p := ⟨w.heap.size, 1, none⟩) m1).trans n1
  have q2 := (hb2.cell (p := ⟨w.heap.size, 2, none⟩) m1).trans n2
  have q3 := (hb2.cell (p := ⟨w.heap.size, 3, none⟩) m1).trans n3
  have q4 := (hb2.cell (p := ⟨w.heap.size, 4, none⟩) m1).trans n4
  have q5 := (hb2.cell (p := ⟨w.heap.size, 5, none⟩) m1).trans n5
  clear n0 n1 n2 n3 n4 n5 hb2
  simp only [insRow, List.getElem?_toArray, List.getElem?_cons_zero, List.getElem?_cons_succ] at q0 q1 q2 q3 q4 q5
  rw [hop'] at q0
  rw [hD] at q1
  have m2 : w.heap.size < w2.heap.size := Nat.lt_of_lt_of_le m1 HB2.out.size
  obtain ⟨L0, e0⟩ : ∃ q, q = L16 := ⟨_, rfl⟩
  have E := Lib.hid e0
  have H := Lib.hid (Bools.new w w2 w.heap.size i E.out (HB1.out.trans (HB2.out.mono HB1.out.size)) ((HB2.out.block _ m1).trans HK1.out) m2)
  clear e0
  clear hop' hD
  go_upto_region 5 with (((with_reducible refine (Form_12 _).mono ?_); rintro e w3 ⟨rfl, rfl⟩))
  go_wp2_with (first | ((with_reducible refine (Has_lit ⟨#[68, 83]⟩ 68 68 rfl true _ (by decide) rfl).mono ?_); rintro e w3 ⟨rfl, rfl⟩) | ((with_reducible refine wl_id ?_); refine H.out.store D LD.out _ _ rfl rfl rfl rfl ?_; intro W L2 hL hW; have e2 := chain_step hL E.out; clear hL E q0 q1 q2 q3 q4 q5; have E := Lib.hid e2; clear e2; clear H; have H := Lib.hid hW; clear hW; obtain ⟨q0, q1, q2, q3, q4, q5⟩ := H.out.cells; rw [HOP.out] at q0; rw [ED.out] at q1) | ((with_reducible refine wl_id ?_); refine H.out.store 2 (by decide) _ _ rfl rfl rfl rfl ?_; intro W L2 hL hW; have e2 := chain_step hL E.out; clear hL E q0 q1 q2 q3 q4 q5; have E := Lib.hid e2; clear e2; clear H; have H := Lib.hid hW; clear hW; obtain ⟨q0, q1, q2, q3, q4, q5⟩ := H.out.cells; rw [HOP.out] at q0; rw [ED.out] at q1) | ((with_reducible refine wl_id ?_); refine H.out.store 4 (by decide) _ _ rfl rfl rfl rfl ?_; intro W L2 hL hW; have e2 := chain_step hL E.out; clear hL E q0 q1 q2 q3 q4 q5; have E := Lib.hid e2; clear e2; clear H; have H := Lib.hid hW; clear hW; obtain ⟨q0, q1, q2, q3, q4, q5⟩ := H.out.cells; rw [HOP.out] at q0; rw [ED.out] at q1) | ((with_reducible refine wl_id ?_); refine H.out.load _ rfl rfl rfl ?_) | (go_at_call 40; refine (rising_any _ H.out.len _).mono ?_; rintro e w4 ⟨v4, rfl, hI, hb4⟩; have HI := Lib.hid hI; have HB4 := Lib.hid (H.out.below.trans (hb4.mono H.out.below.size)); have HZ := Lib.hid H.out.below.size; clear hI hb4))
  go_ret
  refine ⟨_, rfl, ?_, HB4.out⟩
  have h9 := HI.out.mono (G := fun k => w.heap.size ≤ k ∧ k < w4.heap.size) fun k hk => ⟨Nat.le_trans HZ.out hk.1, hk.2⟩
  have e9 : writesL [68, 83] i = L16.set D true := by simp only [writesL, HOP.out, ED.out]; rfl
  rw [e9, ← E.out]
  exact h9
set_option maxRecDepth 100000 in
set_option maxHeartbeats 3200000 in
theorem Writes_13 (i : Ins) (hop : i.op = 13) (hc : chkP i = true) (w : World) :
    Calls Tryz.prog 16 #[.agg (insRow i).toArray] w fun e w' => ∃ v, e = .returned v ∧ IntsAt w' (fun k => w.heap.size ≤ k ∧ k < w'.heap.size) v (risingF (writesL [68, 83] i)) ∧ Below w.heap.size w w' := by
  obtain ⟨_, _, hd1, hs1, ht1, _⟩ := chk_parts hc
  have hpl := chk_place hc
  rw [hop] at hd1 hs1 ht1 hpl
  have hop' := hop
  have HOP := Lib.hid hop
  have HC := Lib.hid hc
  clear hop hc hd1 hs1 ht1 hpl
  have HCHK := Lib.hid (fun w => rCheck_any i w)
  obtain ⟨W1, hW1, hb1, hs1, hn1, _⟩ := boxed w (insRow i).toArray 29
  have k1 : W1.heap[w.heap.size]? = some (.cells (insRow i).toArray 29 (0, 0)) := by rw [hW1]; exact heap_alloc_new w _
  have HK1 := Lib.hid k1
  have HW1 := Lib.hid hW1
  have HB1 := Lib.hid hb1
  have HN1 := Lib.hid hn1
  have m1 : w.heap.size < W1.heap.size := by omega
  clear hW1 hb1 hs1 hn1 k1
  go_enter Tryz.func16, Tryz.ntmps16
  go_wp2_with (rw [← HW1.out]; refine wpList_load_row rfl 29 _ rfl w.heap.size rfl 29 (insRow i).toArray (0, 0) _ HK1.out Tryz.underlying29 rfl infoIns ?_)
  refine (HCHK.out W1).mono ?_
  rintro e w2 ⟨rfl, hb2⟩
  rw [HC.out]
  have HB2 := Lib.hid hb2
  unfold errOf
  have n0 := HN1.out 0
  have n1 := HN1.out 1
  have n2 := HN1.out 2
  have n3 := HN1.out 3
  have n4 := HN1.out 4
  have n5 := HN1.out 5
  have q0 := (hb2.cell (p := ⟨w.heap.size, 0, none⟩) m1).trans n0
  have q1 := (hb2.cell (p := ⟨w.heap.size, 1, none⟩) m1).trans n1
  have q2 := (hb2.cell (p := ⟨w.heap.size, 2, none⟩) m1).trans n2
  have q3 := (hb2.cell (p := ⟨w.heap.size, 3, none⟩) m1).trans n3
  have q4 := (hb2.cell (p := ⟨w.heap.size, 4, none⟩) m1).trans n4
  have q5 := (hb2.cell (p := ⟨w.heap.size, 5, none⟩) m1).trans n5
  clear n0 n1 n2 n3 n4 n5 hb2
  simp only [insRow, List.getElem?_toArray, List.getElem?_cons_zero, List.getElem?_cons_succ] at q0 q1 q2 q3 q4 q5
  rw [hop'] at q0
  have m2 : w.heap.size < w2.heap.size := Nat.lt_of_lt_of_le m1 HB2.out.size
  obtain ⟨L0, e0⟩ : ∃ q, q = L16 := ⟨_, rfl⟩
  have E := Lib.hid e0
  have H := Lib.hid (Bools.new w w2 w.heap.size i E.out (HB1.out.trans (HB2.out.mono HB1.out.size)) ((HB2.out.block _ m1).trans HK1.out) m2)
  clear e0
  clear hop'
  go_upto_region 5 with (((with_reducible refine (Form_13 _).mono ?_); rintro e w3 ⟨rfl, rfl⟩))
  go_wp2_with (first | ((with_reducible refine (Has_lit ⟨#[68, 83]⟩ 68 68 rfl true _ (by decide) rfl).mono ?_); rintro e w3 ⟨rfl, rfl⟩) | ((with_reducible refine wl_id ?_); refine H.out.store 2 (by decide) _ _ rfl rfl rfl rfl ?_; intro W L2 hL hW; have e2 := chain_step hL E.out; clear hL E q0 q1 q2 q3 q4 q5; have E := Lib.hid e2; clear e2; clear H; have H := Lib.hid hW; clear hW; obtain ⟨q0, q1, q2, q3, q4, q5⟩ := H.out.cells; rw [HOP.out] at q0) | ((with_reducible refine wl_id ?_); refine H.out.store 4 (by decide) _ _ rfl rfl rfl rfl ?_; intro W L2 hL hW; have e2 := chain_step hL E.out; clear hL E q0 q1 q2 q3 q4 q5; have E := Lib.hid e2; clear e2; clear H; have H := Lib.hid hW; clear hW; obtain ⟨q0, q1, q2, q3, q4, q5⟩ := H.out.cells; rw [HOP.out] at q0) | ((with_reducible refine wl_id ?_); refine H.out.load _ rfl rfl rfl ?_) | (go_at_call 40; refine (rising_any _ H.out.len _).mono ?_; rintro e w4 ⟨v4, rfl, hI, hb4⟩; have HI := Lib.hid hI; have HB4 := Lib.hid (H.out.below.trans (hb4.mono H.out.below.size)); have HZ := Lib.hid H.out.below.size; clear hI hb4))
  go_ret
  refine ⟨_, rfl, ?_, HB4.out⟩
  have h9 := HI.out.mono (G := fun k => w.heap.size ≤ k ∧ k < w4.heap.size) fun k hk => ⟨Nat.le_trans HZ.out hk.1, hk.2⟩
  have e9 : writesL [68, 83] i = L16 := by simp only [writesL, HOP.out]; rfl
  rw [e9, ← E.out]
  exact h9
set_option maxRecDepth 100000 in
set_option maxHeartbeats 3200000 in
theorem Writes_14 (i : Ins) (hop : i.op = 14) (hc : chkP i = true) (w : World) :
    Calls Tryz.prog 16 #[.agg (insRow i).toArray] w fun e w' => ∃ v, e = .returned v ∧ IntsAt w' (fun k => w.heap.size ≤ k ∧ k < w'.heap.size) v (risingF (writesL [68, 83] i)) ∧ Below w.heap.size w w' := by
  obtain ⟨_, _, hd1, hs1, ht1, _⟩ := chk_parts hc
  have hpl := chk_place hc
  rw [hop] at hd1 hs1 ht1 hpl
  have hop' := hop
  have HOP := Lib.hid hop
  have HC := Lib.hid hc
  clear hop hc hd1 hs1 ht1 hpl
  have HCHK := Lib.hid (fun w => rCheck_any i w)
  obtain ⟨W1, hW1, hb1, hs1, hn1, _⟩ := boxed w (insRow i).toArray 29
  have k1 : W1.heap[w.heap.size]? = some (.cells (insRow i).toArray 29 (0, 0)) := by rw [hW1]; exact heap_alloc_new w _
  have HK1 := Lib.hid k1
  have HW1 := Lib.hid hW1
  have HB1 := Lib.hid hb1
  have HN1 := Lib.hid hn1
  have m1 : w.heap.size < W1.heap.size := by omega
  clear hW1 hb1 hs1 hn1 k1
  go_enter Tryz.func16, Tryz.ntmps16
  go_wp2_with (rw [← HW1.out]; refine wpList_load_row rfl 29 _ rfl w.heap.size rfl 29 (insRow i).toArray (0, 0) _ HK1.out Tryz.underlying29 rfl infoIns ?_)
  refine (HCHK.out W1).mono ?_
  rintro e w2 ⟨rfl, hb2⟩
  rw [HC.out]
  have HB2 := Lib.hid hb2
  unfold errOf
  have n0 := HN1.out 0
  have n1 := HN1.out 1
  have n2 := HN1.out 2
  have n3 := HN1.out 3
  have n4 := HN1.out 4
  have n5 := HN1.out 5
  have q0 := (hb2.cell (p := ⟨w.heap.size, 0, none⟩) m1).trans n0
  have q1 := (hb2.cell (p := ⟨w.heap.size, 1, none⟩) m1).trans n1
  have q2 := (hb2.cell (p := ⟨w.heap.size, 2, none⟩) m1).trans n2
  have q3 := (hb2.cell (p := ⟨w.heap.size, 3, none⟩) m1).trans n3
  have q4 := (hb2.cell (p := ⟨w.heap.size, 4, none⟩) m1).trans n4
  have q5 := (hb2.cell (p := ⟨w.heap.size, 5, none⟩) m1).trans n5
  clear n0 n1 n2 n3 n4 n5 hb2
  simp only [insRow, List.getElem?_toArray, List.getElem?_cons_zero, List.getElem?_cons_succ] at q0 q1 q2 q3 q4 q5
  rw [hop'] at q0
  have m2 : w.heap.size < w2.heap.size := Nat.lt_of_lt_of_le m1 HB2.out.size
  obtain ⟨L0, e0⟩ : ∃ q, q = L16 := ⟨_, rfl⟩
  have E := Lib.hid e0
  have H := Lib.hid (Bools.new w w2 w.heap.size i E.out (HB1.out.trans (HB2.out.mono HB1.out.size)) ((HB2.out.block _ m1).trans HK1.out) m2)
  clear e0
  clear hop'
  go_upto_region 5 with (((with_reducible refine (Form_14 _).mono ?_); rintro e w3 ⟨rfl, rfl⟩))
  go_wp2_with (first | ((with_reducible refine (Has_lit ⟨#[68, 83]⟩ 68 68 rfl true _ (by decide) rfl).mono ?_); rintro e w3 ⟨rfl, rfl⟩) | ((with_reducible refine wl_id ?_); refine H.out.store 2 (by decide) _ _ rfl rfl rfl rfl ?_; intro W L2 hL hW; have e2 := chain_step hL E.out; clear hL E q0 q1 q2 q3 q4 q5; have E := Lib.hid e2; clear e2; clear H; have H := Lib.hid hW; clear hW; obtain ⟨q0, q1, q2, q3, q4, q5⟩ := H.out.cells; rw [HOP.out] at q0) | ((with_reducible refine wl_id ?_); refine H.out.store 4 (by decide) _ _ rfl rfl rfl rfl ?_; intro W L2 hL hW; have e2 := chain_step hL E.out; clear hL E q0 q1 q2 q3 q4 q5; have E := Lib.hid e2; clear e2; clear H; have H := Lib.hid hW; clear hW; obtain ⟨q0, q1, q2, q3, q4, q5⟩ := H.out.cells; rw [HOP.out] at q0) | ((with_reducible refine wl_id ?_); refine H.out.load _ rfl rfl rfl ?_) | (go_at_call 40; refine (rising_any _ H.out.len _).mono ?_; rintro e w4 ⟨v4, rfl, hI, hb4⟩; have HI := Lib.hid hI; have HB4 := Lib.hid (H.out.below.trans (hb4.mono H.out.below.size)); have HZ := Lib.hid H.out.below.size; clear hI hb4))
  go_ret
  refine ⟨_, rfl, ?_, HB4.out⟩
  have h9 := HI.out.mono (G := fun k => w.heap.size ≤ k ∧ k < w4.heap.size) fun k hk => ⟨Nat.le_trans HZ.out hk.1, hk.2⟩
  have e9 : writesL [68, 83] i = L16 := by simp only [writesL, HOP.out]; rfl
  rw [e9, ← E.out]
  exact h9
set_option maxRecDepth 100000 in
set_option maxHeartbeats 3200000 in
theorem Writes_15 (i : Ins) (hop : i.op = 15) (hc : chkP i = true) (w : World) :
    Calls Tryz.prog 16 #[.agg (insRow i).toArray] w fun e w' => ∃ v, e = .returned v ∧ IntsAt w' (fun k => w.heap.size ≤ k ∧ k < w'.heap.size) v (risingF (writesL [68, 105] i)) ∧ Below w.heap.size w w' := by
  obtain ⟨_, _, hd1, hs1, ht1, _⟩ := chk_parts hc
  have hpl := chk_place hc
  rw [hop] at hd1 hs1 ht1 hpl
  obtain ⟨D, hD, hDl⟩ := hasOk_yes hd1 (by rfl)
  have lD0 : (0 : Int) ≤ (D : Int) := by omega
  have lD1 : (D : Int) < 16 := by omega
  have LD := Lib.hid hDl
  have hop' := hop
  have HOP := Lib.hid hop
  have HC := Lib.hid hc
  have ED := Lib.hid hD
  clear hop hc hd1 hs1 ht1 hpl hDl
  have HCHK := Lib.hid (fun w => rCheck_any i w)
  obtain ⟨W1, hW1, hb1, hs1, hn1, _⟩ := boxed w (insRow i).toArray 29
  have k1 : W1.heap[w.heap.size]? = some (.cells (insRow i).toArray 29 (0, 0)) := by rw [hW1]; exact heap_alloc_new w _
  have HK1 := Lib.hid k1
  have HW1 := Lib.hid hW1
  have HB1 := Lib.hid hb1
  have HN1 := Lib.hid hn1
  have m1 : w.heap.size < W1.heap.size := by omega
  clear hW1 hb1 hs1 hn1 k1
  go_enter Tryz.func16, Tryz.ntmps16
  go_wp2_with (rw [← HW1.out]; refine wpList_load_row rfl 29 _ rfl w.heap.size rfl 29 (insRow i).toArray (0, 0) _ HK1.out Tryz.underlying29 rfl infoIns ?_)
  refine (HCHK.out W1).mono ?_
  rintro e w2 ⟨rfl, hb2⟩
  rw [HC.out]
  have HB2 := Lib.hid hb2
  unfold errOf
  have n0 := HN1.out 0
  have n1 := HN1.out 1
  have n2 := HN1.out 2
  have n3 := HN1.out 3
  have n4 := HN1.out 4
  have n5 := HN1.out 5
  have q0 := (hb2.cell (p := ⟨w.heap.size, 0, none⟩) m1).trans n0
  have q1 := (hb2.cell (p := ⟨w.heap.size, 1, none⟩) m1).trans n1
  have q2 := (hb2.cell (p := ⟨w.heap.size, 2, none⟩) m1).trans n2
  have q3 := (hb2.cell (p := ⟨w.heap.size, 3, none⟩) m1).trans n3
  have q4 := (hb2.cell (p := ⟨w.heap.size, 4, none⟩) m1).trans n4
  have q5 := (hb2.cell (p := ⟨w.heap.size, 5, none⟩) m1).trans n5
  clear n0 n1 n2 n3 n4 n5 hb2
  simp only [insRow, List.getElem?_toArray, List.getElem?_cons_zero, List.getElem?_cons_succ] at q0 q1 q2 q3 q4 q5
  rw [hop'] at q0
  rw [hD] at q1
  have m2 : w.heap.size < w2.heap.size := Nat.lt_of_lt_of_le m1 HB2.out.size
  obtain ⟨L0, e0⟩ : ∃ q, q = L16 := ⟨_, rfl⟩
  have E := Lib.hid e0
  have H := Lib.hid (Bools.new w w2 w.heap.size i E.out (HB1.out.trans (HB2.out.mono HB1.out.size)) ((HB2.out.block _ m1).trans HK1.out) m2)
  clear e0
  clear hop' hD
  go_upto_region 5 with (((with_reducible refine (Form_15 _).mono ?_); rintro e w3 ⟨rfl, rfl⟩))
  go_wp2_with (first | ((with_reducible refine (Has_lit ⟨#[68, 105]⟩ 68 68 rfl true _ (by decide) rfl).mono ?_); rintro e w3 ⟨rfl, rfl⟩) | ((with_reducible refine wl_id ?_); refine H.out.store D LD.out _ _ rfl rfl rfl rfl ?_; intro W L2 hL hW; have e2 := chain_step hL E.out; clear hL E q0 q1 q2 q3 q4 q5; have E := Lib.hid e2; clear e2; clear H; have H := Lib.hid hW; clear hW; obtain ⟨q0, q1, q2, q3, q4, q5⟩ := H.out.cells; rw [HOP.out] at q0; rw [ED.out] at q1) | ((with_reducible refine wl_id ?_); refine H.out.store 2 (by decide) _ _ rfl rfl rfl rfl ?_; intro W L2 hL hW; have e2 := chain_step hL E.out; clear hL E q0 q1 q2 q3 q4 q5; have E := Lib.hid e2; clear e2; clear H; have H := Lib.hid hW; clear hW; obtain ⟨q0, q1, q2, q3, q4, q5⟩ := H.out.cells; rw [HOP.out] at q0; rw [ED.out] at q1) | ((with_reducible refine wl_id ?_); refine H.out.store 4 (by decide) _ _ rfl rfl rfl rfl ?_; intro W L2 hL hW; have e2 := chain_step hL E.out; clear hL E q0 q1 q2 q3 q4 q5; have E := Lib.hid e2; clear e2; clear H; have H := Lib.hid hW; clear hW; obtain ⟨q0, q1, q2, q3, q4, q5⟩ := H.out.cells; rw [HOP.out] at q0; rw [ED.out] at q1) | ((with_reducible refine wl_id ?_); refine H.out.load _ rfl rfl rfl ?_) | (go_at_call 40; refine (rising_any _ H.out.len _).mono ?_; rintro e w4 ⟨v4, rfl, hI, hb4⟩; have HI := Lib.hid hI; have HB4 := Lib.hid (H.out.below.trans (hb4.mono H.out.below.size)); have HZ := Lib.hid H.out.below.size; clear hI hb4))
  go_ret
  refine ⟨_, rfl, ?_, HB4.out⟩
  have h9 := HI.out.mono (G := fun k => w.heap.size ≤ k ∧ k < w4.heap.size) fun k hk => ⟨Nat.le_trans HZ.out hk.1, hk.2⟩
  have e9 : writesL [68, 105] i = L16.set D true := by simp only [writesL, HOP.out, ED.out]; rfl
  rw [e9, ← E.out]
  exact h9
set_option maxRecDepth 100000 in
set_option maxHeartbeats 3200000 in
theorem Writes_16 (i : Ins) (hop : i.op = 16) (hc : chkP i = true) (w : World) :
    Calls Tryz.prog 16 #[.agg (insRow i).toArray] w fun e w' => ∃ v, e = .returned v ∧ IntsAt w' (fun k => w.heap.size ≤ k ∧ k < w'.heap.size) v (risingF (writesL [68, 105] i)) ∧ Below w.heap.size w w' := by
  obtain ⟨_, _, hd1, hs1, ht1, _⟩ := chk_parts hc
  have hpl := chk_place hc
  rw [hop] at hd1 hs1 ht1 hpl
  obtain ⟨D, hD, hDl⟩ := hasOk_yes hd1 (by rfl)
  have lD0 : (0 : Int) ≤ (D : Int) := by omega
  have lD1 : (D : Int) < 16 := by omega
  have LD := Lib.hid hDl
  have hop' := hop
  have HOP := Lib.hid hop
  have HC := Lib.hid hc
  have ED := Lib.hid hD
  clear hop hc hd1 hs1 ht1 hpl hDl
  have HCHK := Lib.hid (fun w => rCheck_any i w)
  obtain ⟨W1, hW1, hb1, hs1, hn1, _⟩ := boxed w (insRow i).toArray 29
  have k1 : W1.heap[w.heap.size]? = some (.cells (insRow i).toArray 29 (0, 0)) := by rw [hW1]; exact heap_alloc_new w _
  have HK1 := Lib.hid k1
  have HW1 := Lib.hid hW1
  have HB1 := Lib.hid hb1
  have HN1 := Lib.hid hn1
  have m1 : w.heap.size < W1.heap.size := by omega
  clear hW1 hb1 hs1 hn1 k1
  go_enter Tryz.func16, Tryz.ntmps16
  go_wp2_with (rw [← HW1.out]; refine wpList_load_row rfl 29 _ rfl w.heap.size rfl 29 (insRow i).toArray (0, 0) _ HK1.out Tryz.underlying29 rfl infoIns ?_)
  refine (HCHK.out W1).mono ?_
  rintro e w2 ⟨rfl, hb2⟩
  rw [HC.out]
  have HB2 := Lib.hid hb2
  unfold errOf
  have n0 := HN1.out 0
  have n1 := HN1.out 1
  have n2 := HN1.out 2
  have n3 := HN1.out 3
  have n4 := HN1.out 4
  have n5 := HN1.out 5
  have q0 := (hb2.cell (p := ⟨w.heap.size, 0, none⟩) m1).trans n0
  have q1 := (hb2.cell (p := ⟨w.heap.size, 1, none⟩) m1).trans n1
  have q2 := (hb2.cell (p := ⟨w.heap.size, 2, none⟩) m1).trans n2
  have q3 := (hb2.cell (p := ⟨w.heap.size, 3, none⟩) m1).trans n3
  have q4 := (hb2.cell (p := ⟨w.heap.size, 4, none⟩) m1).trans n4
  have q5 := (hb2.cell (p := ⟨w.heap.size, 5, none⟩) m1).trans n5
  clear n0 n1 n2 n3 n4 n5 hb2
  simp only [insRow, List.getElem?_toArray, List.getElem?_cons_zero, List.getElem?_cons_succ] at q0 q1 q2 q3 q4 q5
  rw [hop'] at q0
  rw [hD] at q1
  have m2 : w.heap.size < w2.heap.size := Nat.lt_of_lt_of_le m1 HB2.out.size
  obtain ⟨L0, e0⟩ : ∃ q, q = L16 := ⟨_, rfl⟩
  have E := Lib.hid e0
  have H := Lib.hid (Bools.new w w2 w.heap.size i E.out (HB1.out.trans (HB2.out.mono HB1.out.size)) ((HB2.out.block _ m1).trans HK1.out) m2)
  clear e0
  clear hop' hD
  go_upto_region 5 with (((with_reducible refine (Form_16 _).mono ?_); rintro e w3 ⟨rfl, rfl⟩))
  go_wp2_with (first | ((with_reducible refine (Has_lit ⟨#[68, 105]⟩ 68 68 rfl true _ (by decide) rfl).mono ?_); rintro e w3 ⟨rfl, rfl⟩) | ((with_reducible refine wl_id ?_); refine H.out.store D LD.out _ _ rfl rfl rfl rfl ?_; intro W L2 hL hW; have e2 := chain_step hL E.out; clear hL E q0 q1 q2 q3 q4 q5; have E := Lib.hid e2; clear e2; clear H; have H := Lib.hid hW; clear hW; obtain ⟨q0, q1, q2, q3, q4, q5⟩ := H.out.cells; rw [HOP.out] at q0; rw [ED.out] at q1) | ((with_reducible refine wl_id ?_); refine H.out.store 2 (by decide) _ _ rfl rfl rfl rfl ?_; intro W L2 hL hW; have e2 := chain_step hL E.out; clear hL E q0 q1 q2 q3 q4 q5; have E := Lib.hid e2; clear e2; clear H; have H := Lib.hid hW; clear hW; obtain ⟨q0, q1, q2, q3, q4, q5⟩ := H.out.cells; rw [HOP.out] at q0; rw [ED.out] at q1) | ((with_reducible refine wl_id ?_); refine H.out.store 4 (by decide) _ _ rfl rfl rfl rfl ?_; intro W L2 hL hW; have e2 := chain_step hL E.out; clear hL E q0 q1 q2 q3 q4 q5; have E := Lib.hid e2; clear e2; clear H; have H := Lib.hid hW; clear hW; obtain ⟨q0, q1, q2, q3, q4, q5⟩ := H.out.cells; rw [HOP.out] at q0; rw [ED.out] at q1) | ((with_reducible refine wl_id ?_); refine H.out.load _ rfl rfl rfl ?_) | (go_at_call 40; refine (rising_any _ H.out.len _).mono ?_; rintro e w4 ⟨v4, rfl, hI, hb4⟩; have HI := Lib.hid hI; have HB4 := Lib.hid (H.out.below.trans (hb4.mono H.out.below.size)); have HZ := Lib.hid H.out.below.size; clear hI hb4))
  go_ret
  refine ⟨_, rfl, ?_, HB4.out⟩
  have h9 := HI.out.mono (G := fun k => w.heap.size ≤ k ∧ k < w4.heap.size) fun k hk => ⟨Nat.le_trans HZ.out hk.1, hk.2⟩
  have e9 : writesL [68, 105] i = L16.set D true := by simp only [writesL, HOP.out, ED.out]; rfl
  rw [e9, ← E.out]
  exact h9
set_option maxRecDepth 100000 in
set_option maxHeartbeats 3200000 in
theorem Writes_17 (i : Ins) (hop : i.op = 17) (hc : chkP i = true) (w : World) :
    Calls Tryz.prog 16 #[.agg (insRow i).toArray] w fun e w' => ∃ v, e = .returned v ∧ IntsAt w' (fun k => w.heap.size ≤ k ∧ k < w'.heap.size) v (risingF (writesL [68, 105] i)) ∧ Below w.heap.size w w' := by
  obtain ⟨_, _, hd1, hs1, ht1, _⟩ := chk_parts hc
  have hpl := chk_place hc
  rw [hop] at hd1 hs1 ht1 hpl
  obtain ⟨D, hD, hDl⟩ := hasOk_yes hd1 (by rfl)
  have lD0 : (0 : Int) ≤ (D : Int) := by omega
  have lD1 : (D : Int) < 16 := by omega
  have LD := Lib.hid hDl
  have hop' := hop
  have HOP := Lib.hid hop
  have HC := Lib.hid hc
  have ED := Lib.hid hD
  clear hop hc hd1 hs1 ht1 hpl hDl
  have HCHK := Lib.hid (fun w => rCheck_any i w)
  obtain ⟨W1, hW1, hb1, hs1, hn1, _⟩ := boxed w (insRow i).toArray 29
  have k1 : W1.heap[w.heap.size]? = some (.cells (insRow i).toArray 29 (0, 0)) := by rw [hW1]; exact heap_alloc_new w _
  have HK1 := Lib.hid k1
  have HW1 := Lib.hid hW1
  have HB1 := Lib.hid hb1
  have HN1 := Lib.hid hn1
  have m1 : w.heap.size < W1.heap.size := by omega
  clear hW1 hb1 hs1 hn1 k1
  go_enter Tryz.func16, Tryz.ntmps16
  go_wp2_with (rw [← HW1.out]; refine wpList_load_row rfl 29 _ rfl w.heap.size rfl 29 (insRow i).toArray (0, 0) _ HK1.out Tryz.underlying29 rfl infoIns ?_)
  refine (HCHK.out W1).mono ?_
  rintro e w2 ⟨rfl, hb2⟩
  rw [HC.out]
  have HB2 := Lib.hid hb2
  unfold errOf
  have n0 := HN1.out 0
  have n1 := HN1.out 1
  have n2 := HN1.out 2
  have n3 := HN1.out 3
  have n4 := HN1.out 4
  have n5 := HN1.out 5
  have q0 := (hb2.cell (p := ⟨w.heap.size, 0, none⟩) m1).trans n0
  have q1 := (hb2.cell (p := ⟨w.heap.size, 1, none⟩) m1).trans n1
  have q2 := (hb2.cell (p := ⟨w.heap.size, 2, none⟩) m1).trans n2
  have q3 := (hb2.cell (p := ⟨w.heap.size, 3, none⟩) m1).trans n3
  have q4 := (hb2.cell (p := ⟨w.heap.size, 4, none⟩) m1).trans n4
  have q5 := (hb2.cell (p := ⟨w.heap.size, 5, none⟩) m1).trans n5
  clear n0 n1 n2 n3 n4 n5 hb2
  simp only [insRow, List.getElem?_toArray, List.getElem?_cons_zero, List.getElem?_cons_succ] at q0 q1 q2 q3 q4 q5
  rw [hop'] at q0
  rw [hD] at q1
  have m2 : w.heap.size < w2.heap.size := Nat.lt_of_lt_of_le m1 HB2.out.size
  obtain ⟨L0, e0⟩ : ∃ q, q = L16 := ⟨_, rfl⟩
  have E := Lib.hid e0
  have H := Lib.hid (Bools.new w w2 w.heap.size i E.out (HB1.out.trans (HB2.out.mono HB1.out.size)) ((HB2.out.block _ m1).trans HK1.out) m2)
  clear e0
  clear hop' hD
  go_upto_region 5 with (((with_reducible refine (Form_17 _).mono ?_); rintro e w3 ⟨rfl, rfl⟩))
  go_wp2_with (first | ((with_reducible refine (Has_lit ⟨#[68, 105]⟩ 68 68 rfl true _ (by decide) rfl).mono ?_); rintro e w3 ⟨rfl, rfl⟩) | ((with_reducible refine wl_id ?_); refine H.out.store D LD.out _ _ rfl rfl rfl rfl ?_; intro W L2 hL hW; have e2 := chain_step hL E.out; clear hL E q0 q1 q2 q3 q4 q5; have E := Lib.hid e2; clear e2; clear H; have H := Lib.hid hW; clear hW; obtain ⟨q0, q1, q2, q3, q4, q5⟩ := H.out.cells; rw [HOP.out] at q0; rw [ED.out] at q1) | ((with_reducible refine wl_id ?_); refine H.out.store 2 (by decide) _ _ rfl rfl rfl rfl ?_; intro W L2 hL hW; have e2 := chain_step hL E.out; clear hL E q0 q1 q2 q3 q4 q5; have E := Lib.hid e2; clear e2; clear H; have H := Lib.hid hW; clear hW; obtain ⟨q0, q1, q2, q3, q4, q5⟩ := H.out.cells; rw [HOP.out] at q0; rw [ED.out] at q1) | ((with_reducible refine wl_id ?_); refine H.out.store 4 (by decide) _ _ rfl rfl rfl rfl ?_; intro W L2 hL hW; have e2 := chain_step hL E.out; clear hL E q0 q1 q2 q3 q4 q5; have E := Lib.hid e2; clear e2; clear H; have H := Lib.hid hW; clear hW; obtain ⟨q0, q1, q2, q3, q4, q5⟩ := H.out.cells; rw [HOP.out] at q0; rw [ED.out] at q1) | ((with_reducible refine wl_id ?_); refine H.out.load _ rfl rfl rfl ?_) | (go_at_call 40; refine (rising_any _ H.out.len _).mono ?_; rintro e w4 ⟨v4, rfl, hI, hb4⟩; have HI := Lib.hid hI; have HB4 := Lib.hid (H.out.below.trans (hb4.mono H.out.below.size)); have HZ := Lib.hid H.out.below.size; clear hI hb4))
  go_ret
  refine ⟨_, rfl, ?_, HB4.out⟩
  have h9 := HI.out.mono (G := fun k => w.heap.size ≤ k ∧ k < w4.heap.size) fun k hk => ⟨Nat.le_trans HZ.out hk.1, hk.2⟩
  have e9 : writesL [68, 105] i = L16.set D true := by simp only [writesL, HOP.out, ED.out]; rfl
  rw [e9, ← E.out]
  exact h9
set_option maxRecDepth 100000 in
set_option maxHeartbeats 3200000 in
theorem Writes_18 (i : Ins) (hop : i.op = 18) (hc : chkP i = true) (w : World) :
    Calls Tryz.prog 16 #[.agg (insRow i).toArray] w fun e w' => ∃ v, e = .returned v ∧ IntsAt w' (fun k => w.heap.size ≤ k ∧ k < w'.heap.size) v (risingF (writesL [68, 105] i)) ∧ Below w.heap.size w w' := by
  obtain ⟨_, _, hd1, hs1, ht1, _⟩ := chk_parts hc
  have hpl := chk_place hc
  rw [hop] at hd1 hs1 ht1 hpl
  have hop' := hop
  have HOP := Lib.hid hop
  have HC := Lib.hid hc
  clear hop hc hd1 hs1 ht1 hpl
  have HCHK := Lib.hid (fun w => rCheck_any i w)
  obtain ⟨W1, hW1, hb1, hs1, hn1, _⟩ := boxed w (insRow i).toArray 29
  have k1 : W1.heap[w.heap.size]? = some (.cells (insRow i).toArray 29 (0, 0)) := by rw [hW1]; exact heap_alloc_new w _
  have HK1 := Lib.hid k1
  have HW1 := Lib.hid hW1
  have HB1 := Lib.hid hb1
  have HN1 := Lib.hid hn1
  have m1 : w.heap.size < W1.heap.size := by omega
  clear hW1 hb1 hs1 hn1 k1
  go_enter Tryz.func16, Tryz.ntmps16
  go_wp2_with (rw [← HW1.out]; refine wpList_load_row rfl 29 _ rfl w.heap.size rfl 29 (insRow i).toArray (0, 0) _ HK1.out Tryz.underlying29 rfl infoIns ?_)
  refine (HCHK.out W1).mono ?_
  rintro e w2 ⟨rfl, hb2⟩
  rw [HC.out]
  have HB2 := Lib.hid hb2
  unfold errOf
  have n0 := HN1.out 0
  have n1 := HN1.out 1
  have n2 := HN1.out 2
  have n3 := HN1.out 3
  have n4 := HN1.out 4
  have n5 := HN1.out 5
  have q0 := (hb2.cell (p := ⟨w.heap.size, 0, none⟩) m1).trans n0
  have q1 := (hb2.cell (p := ⟨w.heap.size, 1, none⟩) m1).trans n1
  have q2 := (hb2.cell (p := ⟨w.heap.size, 2, none⟩) m1).trans n2
  have q3 := (hb2.cell (p := ⟨w.heap.size, 3, none⟩) m1).trans n3
  have q4 := (hb2.cell (p := ⟨w.heap.size, 4, none⟩) m1).trans n4
  have q5 := (hb2.cell (p := ⟨w.heap.size, 5, none⟩) m1).trans n5
  clear n0 n1 n2 n3 n4 n5 hb2
  simp only [insRow, List.getElem?_toArray, List.getElem?_cons_zero, List.getElem?_cons_succ] at q0 q1 q2 q3 q4 q5
  rw [hop'] at q0
  have m2 : w.heap.size < w2.heap.size := Nat.lt_of_lt_of_le m1 HB2.out.size
  obtain ⟨L0, e0⟩ : ∃ q, q = L16 := ⟨_, rfl⟩
  have E := Lib.hid e0
  have H := Lib.hid (Bools.new w w2 w.heap.size i E.out (HB1.out.trans (HB2.out.mono HB1.out.size)) ((HB2.out.block _ m1).trans HK1.out) m2)
  clear e0
  clear hop'
  go_upto_region 5 with (((with_reducible refine (Form_18 _).mono ?_); rintro e w3 ⟨rfl, rfl⟩))
  go_wp2_with (first | ((with_reducible refine (Has_lit ⟨#[68, 105]⟩ 68 68 rfl true _ (by decide) rfl).mono ?_); rintro e w3 ⟨rfl, rfl⟩) | ((with_reducible refine wl_id ?_); refine H.out.store 2 (by decide) _ _ rfl rfl rfl rfl ?_; intro W L2 hL hW; have e2 := chain_step hL E.out; clear hL E q0 q1 q2 q3 q4 q5; have E := Lib.hid e2; clear e2; clear H; have H := Lib.hid hW; clear hW; obtain ⟨q0, q1, q2, q3, q4, q5⟩ := H.out.cells; rw [HOP.out] at q0) | ((with_reducible refine wl_id ?_); refine H.out.store 4 (by decide) _ _ rfl rfl rfl rfl ?_; intro W L2 hL hW; have e2 := chain_step hL E.out; clear hL E q0 q1 q2 q3 q4 q5; have E := Lib.hid e2; clear e2; clear H; have H := Lib.hid hW; clear hW; obtain ⟨q0, q1, q2, q3, q4, q5⟩ := H.out.cells; rw [HOP.out] at q0) | ((with_reducible refine wl_id ?_); refine H.out.load _ rfl rfl rfl ?_) | (go_at_call 40; refine (rising_any _ H.out.len _).mono ?_; rintro e w4 ⟨v4, rfl, hI, hb4⟩; have HI := Lib.hid hI; have HB4 := Lib.hid (H.out.below.trans (hb4.mono H.out.below.size)); have HZ := Lib.hid H.out.below.size; clear hI hb4))
  go_ret
  refine ⟨_, rfl, ?_, HB4.out⟩
  have h9 := HI.out.mono (G := fun k => w.heap.size ≤ k ∧ k < w4.heap.size) fun k hk => ⟨Nat.le_trans HZ.out hk.1, hk.2⟩
  have e9 : writesL [68, 105] i = L16 := by simp only [writesL, HOP.out]; rfl
  rw [e9, ← E.out]
  exact h9
set_option maxRecDepth 100000 in
set_option maxHeartbeats 3200000 in
theorem Writes_19 (i : Ins) (hop : i.op = 19) (hc : chkP i = true) (w : World) :
    Calls Tryz.prog 16 #[.agg (insRow i).toArray] w fun e w' => ∃ v, e = .returned v ∧ IntsAt w' (fun k => w.heap.size ≤ k ∧ k < w'.heap.size) v (risingF (writesL [68, 83, 84] i)) ∧ Below w.heap.size w w' := by
  obtain ⟨_, _, hd1, hs1, ht1, _⟩ := chk_parts hc
  have hpl := chk_place hc
  rw [hop] at hd1 hs1 ht1 hpl
  obtain ⟨D, hD, hDl⟩ := hasOk_yes hd1 (by rfl)
  obtain ⟨S, hS, hSl⟩ := hasOk_yes hs1 (by rfl)
  have lD0 : (0 : Int) ≤ (D : Int) := by omega
  have lD1 : (D : Int) < 16 := by omega
  have LD := Lib.hid hDl
  have lS0 : (0 : Int) ≤ (S : Int) := by omega
  have lS1 : (S : Int) < 16 := by omega
  have LS := Lib.hid hSl
  have hop' := hop
  have HOP := Lib.hid hop
  have HC := Lib.hid hc
  have ED := Lib.hid hD
  have ES := Lib.hid hS
  clear hop hc hd1 hs1 ht1 hpl hDl hSl
  have HCHK := Lib.hid (fun w => rCheck_any i w)
  obtain ⟨W1, hW1, hb1, hs1, hn1, _⟩ := boxed w (insRow i).toArray 29
  have k1 : W1.heap[w.heap.size]? = some (.cells (insRow i).toArray 29 (0, 0)) := by rw [hW1]; exact heap_alloc_new w _
  have HK1 := Lib.hid k1
  have HW1 := Lib.hid hW1
  have HB1 := Lib.hid hb1
  have HN1 := Lib.hid hn1
  have m1 : w.heap.size < W1.heap.size := by omega
  clear hW1 hb1 hs1 hn1 k1
  go_enter Tryz.func16, Tryz.ntmps16
  go_wp2_with (rw [← HW1.out]; refine wpList_load_row rfl 29 _ rfl w.heap.size rfl 29 (insRow i).toArray (0, 0) _ HK1.out Tryz.underlying29 rfl infoIns ?_)
  refine (HCHK.out W1).mono ?_
  rintro e w2 ⟨rfl, hb2⟩
  rw [HC.out]
  have HB2 := Lib.hid hb2
  unfold errOf
  have n0 := HN1.out 0
  have n1 := HN1.out 1
  have n2 := HN1.out 2
  have n3 := HN1.out 3
  have n4 := HN1.out 4
  have n5 := HN1.out 5
  have q0 := (hb2.cell (p := ⟨w.heap.size, 0, none⟩) m1).trans n0
  have q1 := (hb2.cell (p := ⟨w.heap.size, 1, none⟩) m1).trans n1
  have q2 := (hb2.cell (p := ⟨w.heap.size, 2, none⟩) m1).trans n2
  have q3 := (hb2.cell (p := ⟨w.heap.size, 3, none⟩) m1).trans n3
  have q4 := (hb2.cell (p := ⟨w.heap.size, 4, none⟩) m1).trans n4
  have q5 := (hb2.cell (p := ⟨w.heap.size, 5, none⟩) m1).trans n5
  clear n0 n1 n2 n3 n4 n5 hb2
  simp only [insRow, List.getElem?_toArray, List.getElem?_cons_zero, List.getElem?_cons_succ] at q0 q1 q2 q3 q4 q5
  rw [hop'] at q0
  rw [hD] at q1
  rw [hS] at q2
  have m2 : w.heap.size < w2.heap.size := Nat.lt_of_lt_of_le m1 HB2.out.size
  obtain ⟨L0, e0⟩ : ∃ q, q = L16 := ⟨_, rfl⟩
  have E := Lib.hid e0
  have H := Lib.hid (Bools.new w w2 w.heap.size i E.out (HB1.out.trans (HB2.out.mono HB1.out.size)) ((HB2.out.block _ m1).trans HK1.out) m2)
  clear e0
  clear hop' hD hS
  go_upto_region 5 with (((with_reducible refine (Form_19 _).mono ?_); rintro e w3 ⟨rfl, rfl⟩))
  go_wp2_with (first | ((with_reducible refine (Has_lit ⟨#[68, 83, 84]⟩ 68 68 rfl true _ (by decide) rfl).mono ?_); rintro e w3 ⟨rfl, rfl⟩) | ((with_reducible refine wl_id ?_); refine H.out.store D LD.out _ _ rfl rfl rfl rfl ?_; intro W L2 hL hW; have e2 := chain_step hL E.out; clear hL E q0 q1 q2 q3 q4 q5; have E := Lib.hid e2; clear e2; clear H; have H := Lib.hid hW; clear hW; obtain ⟨q0, q1, q2, q3, q4, q5⟩ := H.out.cells; rw [HOP.out] at q0; rw [ED.out] at q1; rw [ES.out] at q2) | ((with_reducible refine wl_id ?_); refine H.out.store S LS.out _ _ rfl rfl rfl rfl ?_; intro W L2 hL hW; have e2 := chain_step hL E.out; clear hL E q0 q1 q2 q3 q4 q5; have E := Lib.hid e2; clear e2; clear H; have H := Lib.hid hW; clear hW; obtain ⟨q0, q1, q2, q3, q4, q5⟩ := H.out.cells; rw [HOP.out] at q0; rw [ED.out] at q1; rw [ES.out] at q2) | ((with_reducible refine wl_id ?_); refine H.out.store 2 (by decide) _ _ rfl rfl rfl rfl ?_; intro W L2 hL hW; have e2 := chain_step hL E.out; clear hL E q0 q1 q2 q3 q4 q5; have E := Lib.hid e2; clear e2; clear H; have H := Lib.hid hW; clear hW; obtain ⟨q0, q1, q2, q3, q4, q5⟩ := H.out.cells; rw [HOP.out] at q0; rw [ED.out] at q1; rw [ES.out] at q2) | ((with_reducible refine wl_id ?_); refine H.out.store 4 (by decide) _ _ rfl rfl rfl rfl ?_; intro W L2 hL hW; have e2 := chain_step hL E.out; clear hL E q0 q1 q2 q3 q4 q5; have E := Lib.hid e2; clear e2; clear H; have H := Lib.hid hW; clear hW; obtain ⟨q0, q1, q2, q3, q4, q5⟩ := H.out.cells; rw [HOP.out] at q0; rw [ED.out] at q1; rw [ES.out] at q2) | ((with_reducible refine wl_id ?_); refine H.out.load _ rfl rfl rfl ?_) | (go_at_call 40; refine (rising_any _ H.out.len _).mono ?_; rintro e w4 ⟨v4, rfl, hI, hb4⟩; have HI := Lib.hid hI; have HB4 := Lib.hid (H.out.below.trans (hb4.mono H.out.below.size)); have HZ := Lib.hid H.out.below.size; clear hI hb4))
  go_ret
  refine ⟨_, rfl, ?_, HB4.out⟩
  have h9 := HI.out.mono (G := fun k => w.heap.size ≤ k ∧ k < w4.heap.size) fun k hk => ⟨Nat.le_trans HZ.out hk.1, hk.2⟩
  have e9 : writesL [68, 83, 84] i = (L16.set D true).set S true := by simp only [writesL, HOP.out, ED.out, ES.out]; rfl
  rw [e9, ← E.out]
  exact h9
set_option maxRecDepth 100000 in
set_option maxHeartbeats 3200000 in
theorem Writes_20 (i : Ins) (hop : i.op = 20) (hc : chkP i = true) (w : World) :
    Calls Tryz.prog 16 #[.agg (insRow i).toArray] w fun e w' => ∃ v, e = .returned v ∧ IntsAt w' (fun k => w.heap.size ≤ k ∧ k < w'.heap.size) v (risingF (writesL [68, 83] i)) ∧ Below w.heap.size w w' := by
  obtain ⟨_, _, hd1, hs1, ht1, _⟩ := chk_parts hc
  have hpl := chk_place hc
  rw [hop] at hd1 hs1 ht1 hpl
  obtain ⟨D, hD, hDl⟩ := hasOk_yes hd1 (by rfl)
  have lD0 : (0 : Int) ≤ (D : Int) := by omega
  have lD1 : (D : Int) < 16 := by omega
  have LD := Lib.hid hDl
  have hop' := hop
  have HOP := Lib.hid hop
  have HC := Lib.hid hc
  have ED := Lib.hid hD
  clear hop hc hd1 hs1 ht1 hpl hDl
  have HCHK := Lib.hid (fun w => rCheck_any i w)
  obtain ⟨W1, hW1, hb1, hs1, hn1, _⟩ := boxed w (insRow i).toArray 29
  have k1 : W1.heap[w.heap.size]? = some (.cells (insRow i).toArray 29 (0, 0)) := by rw [hW1]; exact heap_alloc_new w _
  have HK1 := Lib.hid k1
  have HW1 := Lib.hid hW1
  have HB1 := Lib.hid hb1
  have HN1 := Lib.hid hn1
  have m1 : w.heap.size < W1.heap.size := by omega
  clear hW1 hb1 hs1 hn1 k1
  go_enter Tryz.func16, Tryz.ntmps16
  go_wp2_with (rw [← HW1.out]; refine wpList_load_row rfl 29 _ rfl w.heap.size rfl 29 (insRow i).toArray (0, 0) _ HK1.out Tryz.underlying29 rfl infoIns ?_)
  refine (HCHK.out W1).mono ?_
  rintro e w2 ⟨rfl, hb2⟩
  rw [HC.out]
  have HB2 := Lib.hid hb2
  unfold errOf
  have n0 := HN1.out 0
  have n1 := HN1.out 1
  have n2 := HN1.out 2
  have n3 := HN1.out 3
  have n4 := HN1.out 4
  have n5 := HN1.out 5
  have q0 := (hb2.cell (p := ⟨w.heap.size, 0, none⟩) m1).trans n0
  have q1 := (hb2.cell (p := ⟨w.heap.size, 1, none⟩) m1).trans n1
  have q2 := (hb2.cell (p := ⟨w.heap.size, 2, none⟩) m1).trans n2
  have q3 := (hb2.cell (p := ⟨w.heap.size, 3, none⟩) m1).trans n3
  have q4 := (hb2.cell (p := ⟨w.heap.size, 4, none⟩) m1).trans n4
  have q5 := (hb2.cell (p := ⟨w.heap.size, 5, none⟩) m1).trans n5
  clear n0 n1 n2 n3 n4 n5 hb2
  simp only [insRow, List.getElem?_toArray, List.getElem?_cons_zero, List.getElem?_cons_succ] at q0 q1 q2 q3 q4 q5
  rw [hop'] at q0
  rw [hD] at q1
  have m2 : w.heap.size < w2.heap.size := Nat.lt_of_lt_of_le m1 HB2.out.size
  obtain ⟨L0, e0⟩ : ∃ q, q = L16 := ⟨_, rfl⟩
  have E := Lib.hid e0
  have H := Lib.hid (Bools.new w w2 w.heap.size i E.out (HB1.out.trans (HB2.out.mono HB1.out.size)) ((HB2.out.block _ m1).trans HK1.out) m2)
  clear e0
  clear hop' hD
  go_upto_region 5 with (((with_reducible refine (Form_20 _).mono ?_); rintro e w3 ⟨rfl, rfl⟩))
  go_wp2_with (first | ((with_reducible refine (Has_lit ⟨#[68, 83]⟩ 68 68 rfl true _ (by decide) rfl).mono ?_); rintro e w3 ⟨rfl, rfl⟩) | ((with_reducible refine wl_id ?_); refine H.out.store D LD.out _ _ rfl rfl rfl rfl ?_; intro W L2 hL hW; have e2 := chain_step hL E.out; clear hL E q0 q1 q2 q3 q4 q5; have E := Lib.hid e2; clear e2; clear H; have H := Lib.hid hW; clear hW; obtain ⟨q0, q1, q2, q3, q4, q5⟩ := H.out.cells; rw [HOP.out] at q0; rw [ED.out] at q1) | ((with_reducible refine wl_id ?_); refine H.out.store 2 (by decide) _ _ rfl rfl rfl rfl ?_; intro W L2 hL hW; have e2 := chain_step hL E.out; clear hL E q0 q1 q2 q3 q4 q5; have E := Lib.hid e2; clear e2; clear H; have H := Lib.hid hW; clear hW; obtain ⟨q0, q1, q2, q3, q4, q5⟩ := H.out.cells; rw [HOP.out] at q0; rw [ED.out] at q1) | ((with_reducible refine wl_id ?_); refine H.out.store 4 (by decide) _ _ rfl rfl rfl rfl ?_; intro W L2 hL hW; have e2 := chain_step hL E.out; clear hL E q0 q1 q2 q3 q4 q5; have E := Lib.hid e2; clear e2; clear H; have H := Lib.hid hW; clear hW; obtain ⟨q0, q1, q2, q3, q4, q5⟩ := H.out.cells; rw [HOP.out] at q0; rw [ED.out] at q1) | ((with_reducible refine wl_id ?_); refine H.out.load _ rfl rfl rfl ?_) | (go_at_call 40; refine (rising_any _ H.out.len _).mono ?_; rintro e w4 ⟨v4, rfl, hI, hb4⟩; have HI := Lib.hid hI; have HB4 := Lib.hid (H.out.below.trans (hb4.mono H.out.below.size)); have HZ := Lib.hid H.out.below.size; clear hI hb4))
  go_ret
  refine ⟨_, rfl, ?_, HB4.out⟩
  have h9 := HI.out.mono (G := fun k => w.heap.size ≤ k ∧ k < w4.heap.size) fun k hk => ⟨Nat.le_trans HZ.out hk.1, hk.2⟩
  have e9 : writesL [68, 83] i = L16.set D true := by simp only [writesL, HOP.out, ED.out]; rfl
  rw [e9, ← E.out]
  exact h9
set_option maxRecDepth 100000 in
set_option maxHeartbeats 3200000 in
theorem Writes_21 (i : Ins) (hop : i.op = 21) (hc : chkP i = true) (w : World) :
    Calls Tryz.prog 16 #[.agg (insRow i).toArray] w fun e w' => ∃ v, e = .returned v ∧ IntsAt w' (fun k => w.heap.size ≤ k ∧ k < w'.heap.size) v (risingF (writesL [68, 83] i)) ∧ Below w.heap.size w w' := by
  obtain ⟨_, _, hd1, hs1, ht1, _⟩ := chk_parts hc
  have hpl := chk_place hc
  rw [hop] at hd1 hs1 ht1 hpl
  obtain ⟨D, hD, hDl⟩ := hasOk_yes hd1 (by rfl)
  have lD0 : (0 : Int) ≤ (D : Int) := by omega
  have lD1 : (D : Int) < 16 := by omega
  have LD := Lib.hid hDl
  have hop' := hop
  have HOP := Lib.hid hop
  have HC := Lib.hid hc
  have ED := Lib.hid hD
  clear hop hc hd1 hs1 ht1 hpl hDl
  have HCHK := Lib.hid (fun w => rCheck_any i w)
  obtain ⟨W1, hW1, hb1, hs1, hn1, _⟩ := boxed w (insRow i).toArray 29
  have k1 : W1.heap[w.heap.size]? = some (.cells (insRow i).toArray 29 (0, 0)) := by rw [hW1]; exact heap_alloc_new w _
  have HK1 := Lib.hid k1
  have HW1 := Lib.hid hW1
  have HB1 := Lib.hid hb1
  have HN1 := Lib.hid hn1
  have m1 : w.heap.size < W1.heap.size := by omega
  clear hW1 hb1 hs1 hn1 k1
  go_enter Tryz.func16, Tryz.ntmps16
  go_wp2_with (rw [← HW1.out]; refine wpList_load_row rfl 29 _ rfl w.heap.size rfl 29 (insRow i).toArray (0, 0) _ HK1.out Tryz.underlying29 rfl infoIns ?_)
  refine (HCHK.out W1).mono ?_
  rintro e w2 ⟨rfl, hb2⟩
  rw [HC.out]
  have HB2 := Lib.hid hb2
  unfold errOf
  have n0 := HN1.out 0
  have n1 := HN1.out 1
  have n2 := HN1.out 2
  have n3 := HN1.out 3
  have n4 := HN1.out 4
  have n5 := HN1.out 5
  have q0 := (hb2.cell (p := ⟨w.heap.size, 0, none⟩) m1).trans n0
  have q1 := (hb2.cell (p := ⟨w.heap.size, 1, none⟩) m1).trans n1
  have q2 := (hb2.cell (p := ⟨w.heap.size, 2, none⟩) m1).trans n2
  have q3 := (hb2.cell (p := ⟨w.heap.size, 3, none⟩) m1).trans n3
  have q4 := (hb2.cell (p := ⟨w.heap.size, 4, none⟩) m1).trans n4
  have q5 := (hb2.cell (p := ⟨w.heap.size, 5, none⟩) m1).trans n5
  clear n0 n1 n2 n3 n4 n5 hb2
  simp only [insRow, List.getElem?_toArray, List.getElem?_cons_zero, List.getElem?_cons_succ] at q0 q1 q2 q3 q4 q5
  rw [hop'] at q0
  rw [hD] at q1
  have m2 : w.heap.size < w2.heap.size := Nat.lt_of_lt_of_le m1 HB2.out.size
  obtain ⟨L0, e0⟩ : ∃ q, q = L16 := ⟨_, rfl⟩
  have E := Lib.hid e0
  have H := Lib.hid (Bools.new w w2 w.heap.size i E.out (HB1.out.trans (HB2.out.mono HB1.out.size)) ((HB2.out.block _ m1).trans HK1.out) m2)
  clear e0
  clear hop' hD
  go_upto_region 5 with (((with_reducible refine (Form_21 _).mono ?_); rintro e w3 ⟨rfl, rfl⟩))
  go_wp2_with (first | ((with_reducible refine (Has_lit ⟨#[68, 83]⟩ 68 68 rfl true _ (by decide) rfl).mono ?_); rintro e w3 ⟨rfl, rfl⟩) | ((with_reducible refine wl_id ?_); refine H.out.store D LD.out _ _ rfl rfl rfl rfl ?_; intro W L2 hL hW; have e2 := chain_step hL E.out; clear hL E q0 q1 q2 q3 q4 q5; have E := Lib.hid e2; clear e2; clear H; have H := Lib.hid hW; clear hW; obtain ⟨q0, q1, q2, q3, q4, q5⟩ := H.out.cells; rw [HOP.out] at q0; rw [ED.out] at q1) | ((with_reducible refine wl_id ?_); refine H.out.store 2 (by decide) _ _ rfl rfl rfl rfl ?_; intro W L2 hL hW; have e2 := chain_step hL E.out; clear hL E q0 q1 q2 q3 q4 q5; have E := Lib.hid e2; clear e2; clear H; have H := Lib.hid hW; clear hW; obtain ⟨q0, q1, q2, q3, q4, q5⟩ := H.out.cells; rw [HOP.out] at q0; rw [ED.out] at q1) | ((with_reducible refine wl_id ?_); refine H.out.store 4 (by decide) _ _ rfl rfl rfl rfl ?_; intro W L2 hL hW; have e2 := chain_step hL E.out; clear hL E q0 q1 q2 q3 q4 q5; have E := Lib.hid e2; clear e2; clear H; have H := Lib.hid hW; clear hW; obtain ⟨q0, q1, q2, q3, q4, q5⟩ := H.out.cells; rw [HOP.out] at q0; rw [ED.out] at q1) | ((with_reducible refine wl_id ?_); refine H.out.load _ rfl rfl rfl ?_) | (go_at_call 40; refine (rising_any _ H.out.len _).mono ?_; rintro e w4 ⟨v4, rfl, hI, hb4⟩; have HI := Lib.hid hI; have HB4 := Lib.hid (H.out.below.trans (hb4.mono H.out.below.size)); have HZ := Lib.hid H.out.below.size; clear hI hb4))
  go_ret
  refine ⟨_, rfl, ?_, HB4.out⟩
  have h9 := HI.out.mono (G := fun k => w.heap.size ≤ k ∧ k < w4.heap.size) fun k hk => ⟨Nat.le_trans HZ.out hk.1, hk.2⟩
  have e9 : writesL [68, 83] i = L16.set D true := by simp only [writesL, HOP.out, ED.out]; rfl
  rw [e9, ← E.out]
  exact h9
set_option maxRecDepth 100000 in
set_option maxHeartbeats 3200000 in
theorem Writes_22 (i : Ins) (hop : i.op = 22) (hc : chkP i = true) (w : World) :
    Calls Tryz.prog 16 #[.agg (insRow i).toArray] w fun e w' => ∃ v, e = .returned v ∧ IntsAt w' (fun k => w.heap.size ≤ k ∧ k < w'.heap.size) v (risingF (writesL [68] i)) ∧ Below w.heap.size w w' := by
  obtain ⟨_, _, hd1, hs1, ht1, _⟩ := chk_parts hc
  have hpl := chk_place hc
  rw [hop] at hd1 hs1 ht1 hpl
  obtain ⟨D, hD, hDl⟩ := hasOk_yes hd1 (by rfl)
  have lD0 : (0 : Int) ≤ (D : Int) := by omega
  have lD1 : (D : Int) < 16 := by omega
  have LD := Lib.hid hDl
  have hop' := hop
  have HOP := Lib.hid hop
  have HC := Lib.hid hc
  have ED := Lib.hid hD
  clear hop hc hd1 hs1 ht1 hpl hDl
  have HCHK := Lib.hid (fun w => rCheck_any i w)
  obtain ⟨W1, hW1, hb1, hs1, hn1, _⟩ := boxed w (insRow i).toArray 29
  have k1 : W1.heap[w.heap.size]? = some (.cells (insRow i).toArray 29 (0, 0)) := by rw [hW1]; exact heap_alloc_new w _
  have HK1 := Lib.hid k1
  have HW1 := Lib.hid hW1
  have HB1 := Lib.hid hb1
  have HN1 := Lib.hid hn1
  have m1 : w.heap.size < W1.heap.size := by omega
  clear hW1 hb1 hs1 hn1 k1
  go_enter Tryz.func16, Tryz.ntmps16
  go_wp2_with (rw [← HW1.out]; refine wpList_load_row rfl 29 _ rfl w.heap.size rfl 29 (insRow i).toArray (0, 0) _ HK1.out Tryz.underlying29 rfl infoIns ?_)
  refine (HCHK.out W1).mono ?_
  rintro e w2 ⟨rfl, hb2⟩
  rw [HC.out]
  have HB2 := Lib.hid hb2
  unfold errOf
  have n0 := HN1.out 0
  have n1 := HN1.out 1
  have n2 := HN1.out 2
  have n3 := HN1.out 3
  have n4 := HN1.out 4
  have n5 := HN1.out 5
  have q0 := (hb2.cell (p := ⟨w.heap.size, 0, none⟩) m1).trans n0
  have q1 := (hb2.cell (p := ⟨w.heap.size, 1, none⟩) m1).trans n1
  have q2 := (hb2.cell (p := ⟨w.heap.size, 2, none⟩) m1).trans n2
  have q3 := (hb2.cell (p := ⟨w.heap.size, 3, none⟩) m1).trans n3
  have q4 := (hb2.cell (p := ⟨w.heap.size, 4, none⟩) m1).trans n4
  have q5 := (hb2.cell (p := ⟨w.heap.size, 5, none⟩) m1).trans n5
  clear n0 n1 n2 n3 n4 n5 hb2
  simp only [insRow, List.getElem?_toArray, List.getElem?_cons_zero, List.getElem?_cons_succ] at q0 q1 q2 q3 q4 q5
  rw [hop'] at q0
  rw [hD] at q1
  have m2 : w.heap.size < w2.heap.size := Nat.lt_of_lt_of_le m1 HB2.out.size
  obtain ⟨L0, e0⟩ : ∃ q, q = L16 := ⟨_, rfl⟩
  have E := Lib.hid e0
  have H := Lib.hid (Bools.new w w2 w.heap.size i E.out (HB1.out.trans (HB2.out.mono HB1.out.size)) ((HB2.out.block _ m1).trans HK1.out) m2)
  clear e0
  clear hop' hD
  go_upto_region 5 with (((with_reducible refine (Form_22 _).mono ?_); rintro e w3 ⟨rfl, rfl⟩))
  go_wp2_with (first | ((with_reducible refine (Has_lit ⟨#[68]⟩ 68 68 rfl true _ (by decide) rfl).mono ?_); rintro e w3 ⟨rfl, rfl⟩) | ((with_reducible refine wl_id ?_); refine H.out.store D LD.out _ _ rfl rfl rfl rfl ?_; intro W L2 hL hW; have e2 := chain_step hL E.out; clear hL E q0 q1 q2 q3 q4 q5; have E := Lib.hid e2; clear e2; clear H; have H := Lib.hid hW; clear hW; obtain ⟨q0, q1, q2, q3, q4, q5⟩ := H.out.cells; rw [HOP.out] at q0; rw [ED.out] at q1) | ((with_reducible refine wl_id ?_); refine H.out.store 2 (by decide) _ _ rfl rfl rfl rfl ?_; intro W L2 hL hW; have e2 := chain_step hL E.out; clear hL E q0 q1 q2 q3 q4 q5; have E := Lib.hid e2; clear e2; clear H; have H := Lib.hid hW; clear hW; obtain ⟨q0, q1, q2, q3, q4, q5⟩ := H.out.cells; rw [HOP.out] at q0; rw [ED.out] at q1) | ((with_reducible refine wl_id ?_); refine H.out.store 4 (by decide) _ _ rfl rfl rfl rfl ?_; intro W L2 hL hW; have e2 := chain_step hL E.out; clear hL E q0 q1 q2 q3 q4 q5; have E := Lib.hid e2; clear e2; clear H; have H := Lib.hid hW; clear hW; obtain ⟨q0, q1, q2, q3, q4, q5⟩ := H.out.cells; rw [HOP.out] at q0; rw [ED.out] at q1) | ((with_reducible refine wl_id ?_); refine H.out.load _ rfl rfl rfl ?_) | (go_at_call 40; refine (rising_any _ H.out.len _).mono ?_; rintro e w4 ⟨v4, rfl, hI, hb4⟩; have HI := Lib.hid hI; have HB4 := Lib.hid (H.out.below.trans (hb4.mono H.out.below.size)); have HZ := Lib.hid H.out.below.size; clear hI hb4))
  go_ret
  refine ⟨_, rfl, ?_, HB4.out⟩
  have h9 := HI.out.mono (G := fun k => w.heap.size ≤ k ∧ k < w4.heap.size) fun k hk => ⟨Nat.le_trans HZ.out hk.1, hk.2⟩
  have e9 : writesL [68] i = L16.set D true := by simp only [writesL, HOP.out, ED.out]; rfl
  rw [e9, ← E.out]
  exact h9
set_option maxRecDepth 100000 in
set_option maxHeartbeats 3200000 in
theorem Writes_23 (i : Ins) (hop : i.op = 23) (hc : chkP i = true) (w : World) :
    Calls Tryz.prog 16 #[.agg (insRow i).toArray] w fun e w' => ∃ v, e = .returned v ∧ IntsAt w' (fun k => w.heap.size ≤ k ∧ k < w'.heap.size) v (risingF (writesL [68] i)) ∧ Below w.heap.size w w' := by
  obtain ⟨_, _, hd1, hs1, ht1, _⟩ := chk_parts hc
  have hpl := chk_place hc
  rw [hop] at hd1 hs1 ht1 hpl
  obtain ⟨D, hD, hDl⟩ := hasOk_yes hd1 (by rfl)
  have lD0 : (0 : Int) ≤ (D : Int) := by omega
  have lD1 : (D : Int) < 16 := by omega
  have LD := Lib.hid hDl
  have hop' := hop
  have HOP := Lib.hid hop
  have HC := Lib.hid hc
  have ED := Lib.hid hD
  clear hop hc hd1 hs1 ht1 hpl hDl
  have HCHK := Lib.hid (fun w => rCheck_any i w)
  obtain ⟨W1, hW1, hb1, hs1, hn1, _⟩ := boxed w (insRow i).toArray 29
  have k1 : W1.heap[w.heap.size]? = some (.cells (insRow i).toArray 29 (0, 0)) := by rw [hW1]; exact heap_alloc_new w _
  have HK1 := Lib.hid k1
  have HW1 := Lib.hid hW1
  have HB1 := Lib.hid hb1
  have HN1 := Lib.hid hn1
  have m1 : w.heap.size < W1.heap.size := by omega
  clear hW1 hb1 hs1 hn1 k1
  go_enter Tryz.func16, Tryz.ntmps16
  go_wp2_with (rw [← HW1.out]; refine wpList_load_row rfl 29 _ rfl w.heap.size rfl 29 (insRow i).toArray (0, 0) _ HK1.out Tryz.underlying29 rfl infoIns ?_)
  refine (HCHK.out W1).mono ?_
  rintro e w2 ⟨rfl, hb2⟩
  rw [HC.out]
  have HB2 := Lib.hid hb2
  unfold errOf
  have n0 := HN1.out 0
  have n1 := HN1.out 1
  have n2 := HN1.out 2
  have n3 := HN1.out 3
  have n4 := HN1.out 4
  have n5 := HN1.out 5
  have q0 := (hb2.cell (p := ⟨w.heap.size, 0, none⟩) m1).trans n0
  have q1 := (hb2.cell (p := ⟨w.heap.size, 1, none⟩) m1).trans n1
  have q2 := (hb2.cell (p := ⟨w.heap.size, 2, none⟩) m1).trans n2
  have q3 := (hb2.cell (p := ⟨w.heap.size, 3, none⟩) m1).trans n3
  have q4 := (hb2.cell (p := ⟨w.heap.size, 4, none⟩) m1).trans n4
  have q5 := (hb2.cell (p := ⟨w.heap.size, 5, none⟩) m1).trans n5
  clear n0 n1 n2 n3 n4 n5 hb2
  simp only [insRow, List.getElem?_toArray, List.getElem?_cons_zero, List.getElem?_cons_succ] at q0 q1 q2 q3 q4 q5
  rw [hop'] at q0
  rw [hD] at q1
  have m2 : w.heap.size < w2.heap.size := Nat.lt_of_lt_of_le m1 HB2.out.size
  obtain ⟨L0, e0⟩ : ∃ q, q = L16 := ⟨_, rfl⟩
  have E := Lib.hid e0
  have H := Lib.hid (Bools.new w w2 w.heap.size i E.out (HB1.out.trans (HB2.out.mono HB1.out.size)) ((HB2.out.block _ m1).trans HK1.out) m2)
  clear e0
  clear hop' hD
  go_upto_region 5 with (((with_reducible refine (Form_23 _).mono ?_); rintro e w3 ⟨rfl, rfl⟩))
  go_wp2_with (first | ((with_reducible refine (Has_lit ⟨#[68]⟩ 68 68 rfl true _ (by decide) rfl).mono ?_); rintro e w3 ⟨rfl, rfl⟩) | ((with_reducible refine wl_id ?_); refine H.out.store D LD.out _ _ rfl rfl rfl rfl ?_; intro W L2 hL hW; have e2 := chain_step hL E.out; clear hL E q0 q1 q2 q3 q4 q5; have E := Lib.hid e2; clear e2; clear H; have H := Lib.hid hW; clear hW; obtain ⟨q0, q1, q2, q3, q4, q5⟩ := H.out.cells; rw [HOP.out] at q0; rw [ED.out] at q1) | ((with_reducible refine wl_id ?_); refine H.out.store 2 (by decide) _ _ rfl rfl rfl rfl ?_; intro W L2 hL hW; have e2 := chain_step hL E.out; clear hL E q0 q1 q2 q3 q4 q5; have E := Lib.hid e2; clear e2; clear H; have H := Lib.hid hW; clear hW; obtain ⟨q0, q1, q2, q3, q4, q5⟩ := H.out.cells; rw [HOP.out] at q0; rw [ED.out] at q1) | ((with_reducible refine wl_id ?_); refine H.out.store 4 (by decide) _ _ rfl rfl rfl rfl ?_; intro W L2 hL hW; have e2 := chain_step hL E.out; clear hL E q0 q1 q2 q3 q4 q5; have E := Lib.hid e2; clear e2; clear H; have H := Lib.hid hW; clear hW; obtain ⟨q0, q1, q2, q3, q4, q5⟩ := H.out.cells; rw [HOP.out] at q0; rw [ED.out] at q1) | ((with_reducible refine wl_id ?_); refine H.out.load _ rfl rfl rfl ?_) | (go_at_call 40; refine (rising_any _ H.out.len _).mono ?_; rintro e w4 ⟨v4, rfl, hI, hb4⟩; have HI := Lib.hid hI; have HB4 := Lib.hid (H.out.below.trans (hb4.mono H.out.below.size)); have HZ := Lib.hid H.out.below.size; clear hI hb4))
  go_ret
  refine ⟨_, rfl, ?_, HB4.out⟩
  have h9 := HI.out.mono (G := fun k => w.heap.size ≤ k ∧ k < w4.heap.size) fun k hk => ⟨Nat.le_trans HZ.out hk.1, hk.2⟩
  have e9 : writesL [68] i = L16.set D true := by simp only [writesL, HOP.out, ED.out]; rfl
  rw [e9, ← E.out]
  exact h9
set_option maxRecDepth 100000 in
set_option maxHeartbeats 3200000 in
theorem Writes_24 (i : Ins) (hop : i.op = 24) (hc : chkP i = true) (w : World) :
    Calls Tryz.prog 16 #[.agg (insRow i).toArray] w fun e w' => ∃ v, e = .returned v ∧ IntsAt w' (fun k => w.heap.size ≤ k ∧ k < w'.heap.size) v (risingF (writesL [68, 98] i)) ∧ Below w.heap.size w w' := by
  obtain ⟨_, _, hd1, hs1, ht1, _⟩ := chk_parts hc
  have hpl := chk_place hc
  rw [hop] at hd1 hs1 ht1 hpl
  obtain ⟨D, hD, hDl⟩ := hasOk_yes hd1 (by rfl)
  have lD0 : (0 : Int) ≤ (D : Int) := by omega
  have lD1 : (D : Int) < 16 := by omega
  have LD := Lib.hid hDl
  have hop' := hop
  have HOP := Lib.hid hop
  have HC := Lib.hid hc
  have ED := Lib.hid hD
  clear hop hc hd1 hs1 ht1 hpl hDl
  have HCHK := Lib.hid (fun w => rCheck_any i w)
  obtain ⟨W1, hW1, hb1, hs1, hn1, _⟩ := boxed w (insRow i).toArray 29
  have k1 : W1.heap[w.heap.size]? = some (.cells (insRow i).toArray 29 (0, 0)) := by rw [hW1]; exact heap_alloc_new w _
  have HK1 := Lib.hid k1
  have HW1 := Lib.hid hW1
  have HB1 := Lib.hid hb1
  have HN1 := Lib.hid hn1
  have m1 : w.heap.size < W1.heap.size := by omega
  clear hW1 hb1 hs1 hn1 k1
  go_enter Tryz.func16, Tryz.ntmps16
  go_wp2_with (rw [← HW1.out]; refine wpList_load_row rfl 29 _ rfl w.heap.size rfl 29 (insRow i).toArray (0, 0) _ HK1.out Tryz.underlying29 rfl infoIns ?_)
  refine (HCHK.out W1).mono ?_
  rintro e w2 ⟨rfl, hb2⟩
  rw [HC.out]
  have HB2 := Lib.hid hb2
  unfold errOf
  have n0 := HN1.out 0
  have n1 := HN1.out 1
  have n2 := HN1.out 2
  have n3 := HN1.out 3
  have n4 := HN1.out 4
  have n5 := HN1.out 5
  have q0 := (hb2.cell (p := ⟨w.heap.size, 0, none⟩) m1).trans n0
  have q1 := (hb2.cell (p := ⟨w.heap.size, 1, none⟩) m1).trans n1
  have q2 := (hb2.cell (p := ⟨w.heap.size, 2, none⟩) m1).trans n2
  have q3 := (hb2.cell (p := ⟨w.heap.size, 3, none⟩) m1).trans n3
  have q4 := (hb2.cell (p := ⟨w.heap.size, 4, none⟩) m1).trans n4
  have q5 := (hb2.cell (p := ⟨w.heap.size, 5, none⟩) m1).trans n5
  clear n0 n1 n2 n3 n4 n5 hb2
  simp only [insRow, List.getElem?_toArray, List.getElem?_cons_zero, List.getElem?_cons_succ] at q0 q1 q2 q3 q4 q5
  rw [hop'] at q0
  rw [hD] at q1
  have m2 : w.heap.size < w2.heap.size := Nat.lt_of_lt_of_le m1 HB2.out.size
  obtain ⟨L0, e0⟩ : ∃ q, q = L16 := ⟨_, rfl⟩
  have E := Lib.hid e0
  have H := Lib.hid (Bools.new w w2 w.heap.size i E.out (HB1.out.trans (HB2.out.mono HB1.out.size)) ((HB2.out.block _ m1).trans HK1.out) m2)
  clear e0
  clear hop' hD
  go_upto_region 5 with (((with_reducible refine (Form_24 _).mono ?_); rintro e w3 ⟨rfl, rfl⟩))
  go_wp2_with (first | ((with_reducible refine (Has_lit ⟨#[68, 98]⟩ 68 68 rfl true _ (by decide) rfl).mono ?_); rintro e w3 ⟨rfl, rfl⟩) | ((with_reducible refine wl_id ?_); refine H.out.store D LD.out _ _ rfl rfl rfl rfl ?_; intro W L2 hL hW; have e2 := chain_step hL E.out; clear hL E q0 q1 q2 q3 q4 q5; have E := Lib.hid e2; clear e2; clear H; have H := Lib.hid hW; clear hW; obtain ⟨q0, q1, q2, q3, q4, q5⟩ := H.out.cells; rw [HOP.out] at q0; rw [ED.out] at q1) | ((with_reducible refine wl_id ?_); refine H.out.store 2 (by decide) _ _ rfl rfl rfl rfl ?_; intro W L2 hL hW; have e2 := chain_step hL E.out; clear hL E q0 q1 q2 q3 q4 q5; have E := Lib.hid e2; clear e2; clear H; have H := Lib.hid hW; clear hW; obtain ⟨q0, q1, q2, q3, q4, q5⟩ := H.out.cells; rw [HOP.out] at q0; rw [ED.out] at q1) | ((with_reducible refine wl_id ?_); refine H.out.store 4 (by decide) _ _ rfl rfl rfl rfl ?_; intro W L2 hL hW; have e2 := chain_step hL E.out; clear hL E q0 q1 q2 q3 q4 q5; have E := Lib.hid e2; clear e2; clear H; have H := Lib.hid hW; clear hW; obtain ⟨q0, q1, q2, q3, q4, q5⟩ := H.out.cells; rw [HOP.out] at q0; rw [ED.out] at q1) | ((with_reducible refine wl_id ?_); refine H.out.load _ rfl rfl rfl ?_) | (go_at_call 40; refine (rising_any _ H.out.len _).mono ?_; rintro e w4 ⟨v4, rfl, hI, hb4⟩; have HI := Lib.hid hI; have HB4 := Lib.hid (H.out.below.trans (hb4.mono H.out.below.size)); have HZ := Lib.hid H.out.below.size; clear hI hb4))
  go_ret
  refine ⟨_, rfl, ?_, HB4.out⟩
  have h9 := HI.out.mono (G := fun k => w.heap.size ≤ k ∧ k < w4.heap.size) fun k hk => ⟨Nat.le_trans HZ.out hk.1, hk.2⟩
  have e9 : writesL [68, 98] i = L16.set D true := by simp only [writesL, HOP.out, ED.out]; rfl
  rw [e9, ← E.out]
  exact h9
set_option maxRecDepth 100000 in
set_option maxHeartbeats 3200000 in
theorem Writes_25 (i : Ins) (hop : i.op = 25) (hc : chkP i = true) (w : World) :
    Calls Tryz.prog 16 #[.agg (insRow i).toArray] w fun e w' => ∃ v, e = .returned v ∧ IntsAt w' (fun k => w.heap.size ≤ k ∧ k < w'.heap.size) v (risingF (writesL [68, 98] i)) ∧ Below w.heap.size w w' := by
  obtain ⟨_, _, hd1, hs1, ht1, _⟩ := chk_parts hc
  have hpl := chk_place hc
  rw [hop] at hd1 hs1 ht1 hpl
  obtain ⟨D, hD, hDl⟩ := hasOk_yes hd1 (by rfl)
  have lD0 : (0 : Int) ≤ (D : Int) := by omega
  have lD1 : (D : Int) < 16 := by omega
  have LD := Lib.hid hDl
  have hop' := hop
  have HOP := Lib.hid hop
  have HC := Lib.hid hc
  have ED := Lib.hid hD
  clear hop hc hd1 hs1 ht1 hpl hDl
  have HCHK := Lib.hid (fun w => rCheck_any i w)
  obtain ⟨W1, hW1, hb1, hs1, hn1, _⟩ := boxed w (insRow i).toArray 29
  have k1 : W1.heap[w.heap.size]? = some (.cells (insRow i).toArray 29 (0, 0)) := by rw [hW1]; exact heap_alloc_new w _
  have HK1 := Lib.hid k1
  have HW1 := Lib.hid hW1
  have HB1 := Lib.hid hb1
  have HN1 := Lib.hid hn1
  have m1 : w.heap.size < W1.heap.size := by omega
  clear hW1 hb1 hs1 hn1 k1
  go_enter Tryz.func16, Tryz.ntmps16
  go_wp2_with (rw [← HW1.out]; refine wpList_load_row rfl 29 _ rfl w.heap.size rfl 29 (insRow i).toArray (0, 0) _ HK1.out Tryz.underlying29 rfl infoIns ?_)
  refine (HCHK.out W1).mono ?_
  rintro e w2 ⟨rfl, hb2⟩
  rw [HC.out]
  have HB2 := Lib.hid hb2
  unfold errOf
  have n0 := HN1.out 0
  have n1 := HN1.out 1
  have n2 := HN1.out 2
  have n3 := HN1.out 3
  have n4 := HN1.out 4
  have n5 := HN1.out 5
  have q0 := (hb2.cell (p := ⟨w.heap.size, 0, none⟩) m1).trans n0
  have q1 := (hb2.cell (p := ⟨w.heap.size, 1, none⟩) m1).trans n1
  have q2 := (hb2.cell (p := ⟨w.heap.size, 2, none⟩) m1).trans n2
  have q3 := (hb2.cell (p := ⟨w.heap.size, 3, none⟩) m1).trans n3
  have q4 := (hb2.cell (p := ⟨w.heap.size, 4, none⟩) m1).trans n4
  have q5 := (hb2.cell (p := ⟨w.heap.size, 5, none⟩) m1).trans n5
  clear n0 n1 n2 n3 n4 n5 hb2
  simp only [insRow, List.getElem?_toArray, List.getElem?_cons_zero, List.getElem?_cons_succ] at q0 q1 q2 q3 q4 q5
  rw [hop'] at q0
  rw [hD] at q1
  have m2 : w.heap.size < w2.heap.size := Nat.lt_of_lt_of_le m1 HB2.out.size
  obtain ⟨L0, e0⟩ : ∃ q, q = L16 := ⟨_, rfl⟩
  have E := Lib.hid e0
  have H := Lib.hid (Bools.new w w2 w.heap.size i E.out (HB1.out.trans (HB2.out.mono HB1.out.size)) ((HB2.out.block _ m1).trans HK1.out) m2)
  clear e0
  clear hop' hD
  go_upto_region 5 with (((with_reducible refine (Form_25 _).mono ?_); rintro e w3 ⟨rfl, rfl⟩))
  go_wp2_with (first | ((with_reducible refine (Has_lit ⟨#[68, 98]⟩ 68 68 rfl true _ (by decide) rfl).mono ?_); rintro e w3 ⟨rfl, rfl⟩) | ((with_reducible refine wl_id ?_); refine H.out.store D LD.out _ _ rfl rfl rfl rfl ?_; intro W L2 hL hW; have e2 := chain_step hL E.out; clear hL E q0 q1 q2 q3 q4 q5; have E := Lib.hid e2; clear e2; clear H; have H := Lib.hid hW; clear hW; obtain ⟨q0, q1, q2, q3, q4, q5⟩ := H.out.cells; rw [HOP.out] at q0; rw [ED.out] at q1) | ((with_reducible refine wl_id ?_); refine H.out.store 2 (by decide) _ _ rfl rfl rfl rfl ?_; intro W L2 hL hW; have e2 := chain_step hL E.out; clear hL E q0 q1 q2 q3 q4 q5; have E := Lib.hid e2; clear e2; clear H; have H := Lib.hid hW; clear hW; obtain ⟨q0, q1, q2, q3, q4, q5⟩ := H.out.cells; rw [HOP.out] at q0; rw [ED.out] at q1) | ((with_reducible refine wl_id ?_); refine H.out.store 4 (by decide) _ _ rfl rfl rfl rfl ?_; intro W L2 hL hW; have e2 := chain_step hL E.out; clear hL E q0 q1 q2 q3 q4 q5; have E := Lib.hid e2; clear e2; clear H; have H := Lib.hid hW; clear hW; obtain ⟨q0, q1, q2, q3, q4, q5⟩ := H.out.cells; rw [HOP.out] at q0; rw [ED.out] at q1) | ((with_reducible refine wl_id ?_); refine H.out.load _ rfl rfl rfl ?_) | (go_at_call 40; refine (rising_any _ H.out.len _).mono ?_; rintro e w4 ⟨v4, rfl, hI, hb4⟩; have HI := Lib.hid hI; have HB4 := Lib.hid (H.out.below.trans (hb4.mono H.out.below.size)); have HZ := Lib.hid H.out.below.size; clear hI hb4))
  go_ret
  refine ⟨_, rfl, ?_, HB4.out⟩
  have h9 := HI.out.mono (G := fun k => w.heap.size ≤ k ∧ k < w4.heap.size) fun k hk => ⟨Nat.le_trans HZ.out hk.1, hk.2⟩
  have e9 : writesL [68, 98] i = L16.set D true := by simp only [writesL, HOP.out, ED.out]; rfl
  rw [e9, ← E.out]
  exact h9
set_option maxRecDepth 100000 in
set_option maxHeartbeats 3200000 in
theorem Writes_26 (i : Ins) (hop : i.op = 26) (hc : chkP i = true) (w : World) :
    Calls Tryz.prog 16 #[.agg (insRow i).toArray] w fun e w' => ∃ v, e = .returned v ∧ IntsAt w' (fun k => w.heap.size ≤ k ∧ k < w'.heap.size) v (risingF (writesL [68, 83] i)) ∧ Below w.heap.size w w' := by
  obtain ⟨_, _, hd1, hs1, ht1, _⟩ := chk_parts hc
  have hpl := chk_place hc
  rw [hop] at hd1 hs1 ht1 hpl
  obtain ⟨D, hD, hDl⟩ := hasOk_yes hd1 (by rfl)
  have lD0 : (0 : Int) ≤ (D : Int) := by omega
  have lD1 : (D : Int) < 16 := by omega
  have LD := Lib.hid hDl
  have hop' := hop
  have HOP := Lib.hid hop
  have HC := Lib.hid hc
  have ED := Lib.hid hD
  clear hop hc hd1 hs1 ht1 hpl hDl
  have HCHK := Lib.hid (fun w => rCheck_any i w)
  obtain ⟨W1, hW1, hb1, hs1, hn1, _⟩ := boxed w (insRow i).toArray 29
  have k1 : W1.heap[w.heap.size]? = some (.cells (insRow i).toArray 29 (0, 0)) := by rw [hW1]; exact heap_alloc_new w _
  have HK1 := Lib.hid k1
  have HW1 := Lib.hid hW1
  have HB1 := Lib.hid hb1
  have HN1 := Lib.hid hn1
  have m1 : w.heap.size < W1.heap.size := by omega
  clear hW1 hb1 hs1 hn1 k1
  go_enter Tryz.func16, Tryz.ntmps16
  go_wp2_with (rw [← HW1.out]; refine wpList_load_row rfl 29 _ rfl w.heap.size rfl 29 (insRow i).toArray (0, 0) _ HK1.out Tryz.underlying29 rfl infoIns ?_)
  refine (HCHK.out W1).mono ?_
  rintro e w2 ⟨rfl, hb2⟩
  rw [HC.out]
  have HB2 := Lib.hid hb2
  unfold errOf
  have n0 := HN1.out 0
  have n1 := HN1.out 1
  have n2 := HN1.out 2
  have n3 := HN1.out 3
  have n4 := HN1.out 4
  have n5 := HN1.out 5
  have q0 := (hb2.cell (p := ⟨w.heap.size, 0, none⟩) m1).trans n0
  have q1 := (hb2.cell (p := ⟨w.heap.size, 1, none⟩) m1).trans n1
  have q2 := (hb2.cell (p := ⟨w.heap.size, 2, none⟩) m1).trans n2
  have q3 := (hb2.cell (p := ⟨w.heap.size, 3, none⟩) m1).trans n3
  have q4 := (hb2.cell (p := ⟨w.heap.size, 4, none⟩) m1).trans n4
  have q5 := (hb2.cell (p := ⟨w.heap.size, 5, none⟩) m1).trans n5
  clear n0 n1 n2 n3 n4 n5 hb2
  simp only [insRow, List.getElem?_toArray, List.getElem?_cons_zero, List.getElem?_cons_succ] at q0 q1 q2 q3 q4 q5
  rw [hop'] at q0
  rw [hD] at q1
  have m2 : w.heap.size < w2.heap.size := Nat.lt_of_lt_of_le m1 HB2.out.size
  obtain ⟨L0, e0⟩ : ∃ q, q = L16 := ⟨_, rfl⟩
  have E := Lib.hid e0
  have H := Lib.hid (Bools.new w w2 w.heap.size i E.out (HB1.out.trans (HB2.out.mono HB1.out.size)) ((HB2.out.block _ m1).trans HK1.out) m2)
  clear e0
  clear hop' hD
  go_upto_region 5 with (((with_reducible refine (Form_26 _).mono ?_); rintro e w3 ⟨rfl, rfl⟩))
  go_wp2_with (first | ((with_reducible refine (Has_lit ⟨#[68, 83]⟩ 68 68 rfl true _ (by decide) rfl).mono ?_); rintro e w3 ⟨rfl, rfl⟩) | ((with_reducible refine wl_id ?_); refine H.out.store D LD.out _ _ rfl rfl rfl rfl ?_; intro W L2 hL hW; have e2 := chain_step hL E.out; clear hL E q0 q1 q2 q3 q4 q5; have E := Lib.hid e2; clear e2; clear H; have H := Lib.hid hW; clear hW; obtain ⟨q0, q1, q2, q3, q4, q5⟩ := H.out.cells; rw [HOP.out] at q0; rw [ED.out] at q1) | ((with_reducible refine wl_id ?_); refine H.out.store 2 (by decide) _ _ rfl rfl rfl rfl ?_; intro W L2 hL hW; have e2 := chain_step hL E.out; clear hL E q0 q1 q2 q3 q4 q5; have E := Lib.hid e2; clear e2; clear H; have H := Lib.hid hW; clear hW; obtain ⟨q0, q1, q2, q3, q4, q5⟩ := H.out.cells; rw [HOP.out] at q0; rw [ED.out] at q1) | ((with_reducible refine wl_id ?_); refine H.out.store 4 (by decide) _ _ rfl rfl rfl rfl ?_; intro W L2 hL hW; have e2 := chain_step hL E.out; clear hL E q0 q1 q2 q3 q4 q5; have E := Lib.hid e2; clear e2; clear H; have H := Lib.hid hW; clear hW; obtain ⟨q0, q1, q2, q3, q4, q5⟩ := H.out.cells; rw [HOP.out] at q0; rw [ED.out] at q1) | ((with_reducible refine wl_id ?_); refine H.out.load _ rfl rfl rfl ?_) | (go_at_call 40; refine (rising_any _ H.out.len _).mono ?_; rintro e w4 ⟨v4, rfl, hI, hb4⟩; have HI := Lib.hid hI; have HB4 := Lib.hid (H.out.below.trans (hb4.mono H.out.below.size)); have HZ := Lib.hid H.out.below.size; clear hI hb4))
  go_ret
  refine ⟨_, rfl, ?_, HB4.out⟩
  have h9 := HI.out.mono (G := fun k => w.heap.size ≤ k ∧ k < w4.heap.size) fun k hk => ⟨Nat.le_trans HZ.out hk.1, hk.2⟩
  have e9 : writesL [68, 83] i = L16.set D true := by simp only [writesL, HOP.out, ED.out]; rfl
  rw [e9, ← E.out]
  exact h9
set_option maxRecDepth 100000 in
set_option maxHeartbeats 3200000 in
theorem Writes_27 (i : Ins) (hop : i.op = 27) (hc : chkP i = true) (w : World) :
    Calls Tryz.prog 16 #[.agg (insRow i).toArray] w fun e w' => ∃ v, e = .returned v ∧ IntsAt w' (fun k => w.heap.size ≤ k ∧ k < w'.heap.size) v (risingF (writesL [68, 83] i)) ∧ Below w.heap.size w w' := by
  obtain ⟨_, _, hd1, hs1, ht1, _⟩ := chk_parts hc
  have hpl := chk_place hc
  rw [hop] at hd1 hs1 ht1 hpl
  obtain ⟨D, hD, hDl⟩ := hasOk_yes hd1 (by rfl)
  have lD0 : (0 : Int) ≤ (D : Int) := by omega
  have lD1 : (D : Int) < 16 := by omega
  have LD := Lib.hid hDl
  have hop' := hop
  have HOP := Lib.hid hop
  have HC := Lib.hid hc
  have ED := Lib.hid hD
  clear hop hc hd1 hs1 ht1 hpl hDl
  have HCHK := Lib.hid (fun w => rCheck_any i w)
  obtain ⟨W1, hW1, hb1, hs1, hn1, _⟩ := boxed w (insRow i).toArray 29
  have k1 : W1.heap[w.heap.size]? = some (.cells (insRow i).toArray 29 (0, 0)) := by rw [hW1]; exact heap_alloc_new w _
  have HK1 := Lib.hid k1
  have HW1 := Lib.hid hW1
  have HB1 := Lib.hid hb1
  have HN1 := Lib.hid hn1
  have m1 : w.heap.size < W1.heap.size := by omega
  clear hW1 hb1 hs1 hn1 k1
  go_enter Tryz.func16, Tryz.ntmps16
  go_wp2_with (rw [← HW1.out]; refine wpList_load_row rfl 29 _ rfl w.heap.size rfl 29 (insRow i).toArray (0, 0) _ HK1.out Tryz.underlying29 rfl infoIns ?_)
  refine (HCHK.out W1).mono ?_
  rintro e w2 ⟨rfl, hb2⟩
  rw [HC.out]
  have HB2 := Lib.hid hb2
  unfold errOf
  have n0 := HN1.out 0
  have n1 := HN1.out 1
  have n2 := HN1.out 2
  have n3 := HN1.out 3
  have n4 := HN1.out 4
  have n5 := HN1.out 5
  have q0 := (hb2.cell (p := ⟨w.heap.size, 0, none⟩) m1).trans n0
  have q1 := (hb2.cell (p := ⟨w.heap.size, 1, none⟩) m1).trans n1
  have q2 := (hb2.cell (p := ⟨w.heap.size, 2, none⟩) m1).trans n2
  have q3 := (hb2.cell (p := ⟨w.heap.size, 3, none⟩) m1).trans n3
  have q4 := (hb2.cell (p := ⟨w.heap.size, 4, none⟩) m1).trans n4
  have q5 := (hb2.cell (p := ⟨w.heap.size, 5, none⟩) m1).trans n5
  clear n0 n1 n2 n3 n4 n5 hb2
  simp only [insRow, List.getElem?_toArray, List.getElem?_cons_zero, List.getElem?_cons_succ] at q0 q1 q2 q3 q4 q5
  rw [hop'] at q0
  rw [hD] at q1
  have m2 : w.heap.size < w2.heap.size := Nat.lt_of_lt_of_le m1 HB2.out.size
  obtain ⟨L0, e0⟩ : ∃ q, q = L16 := ⟨_, rfl⟩
  have E := Lib.hid e0
  have H := Lib.hid (Bools.new w w2 w.heap.size i E.out (HB1.out.trans (HB2.out.mono HB1.out.size)) ((HB2.out.block _ m1).trans HK1.out) m2)
  clear e0
  clear hop' hD
  go_upto_region 5 with (((with_reducible refine (Form_27 _).mono ?_); rintro e w3 ⟨rfl, rfl⟩))
  go_wp2_with (first | ((with_reducible refine (Has_lit ⟨#[68, 83]⟩ 68 68 rfl true _ (by decide) rfl).mono ?_); rintro e w3 ⟨rfl, rfl⟩) | ((with_reducible refine wl_id ?_); refine H.out.store D LD.out _ _ rfl rfl rfl rfl ?_; intro W L2 hL hW; have e2 := chain_step hL E.out; clear hL E q0 q1 q2 q3 q4 q5; have E := Lib.hid e2; clear e2; clear H; have H := Lib.hid hW; clear hW; obtain ⟨q0, q1, q2, q3, q4, q5⟩ := H.out.cells; rw [HOP.out] at q0; rw [ED.out] at q1) | ((with_reducible refine wl_id ?_); refine H.out.store 2 (by decide) _ _ rfl rfl rfl rfl ?_; intro W L2 hL hW; have e2 := chain_step hL E.out; clear hL E q0 q1 q2 q3 q4 q5; have E := Lib.hid e2; clear e2; clear H; have H := Lib.hid hW; clear hW; obtain ⟨q0, q1, q2, q3, q4, q5⟩ := H.out.cells; rw [HOP.out] at q0; rw [ED.out] at q1) | ((with_reducible refine wl_id ?_); refine H.out.store 4 (by decide) _ _ rfl rfl rfl rfl ?_; intro W L2 hL hW; have e2 := chain_step hL E.out; clear hL E q0 q1 q2 q3 q4 q5; have E := Lib.hid e2; clear e2; clear H; have H := Lib.hid hW; clear hW; obtain ⟨q0, q1, q2, q3, q4, q5⟩ := H.out.cells; rw [HOP.out] at q0; rw [ED.out] at q1) | ((with_reducible refine wl_id ?_); refine H.out.load _ rfl rfl rfl ?_) | (go_at_call 40; refine (rising_any _ H.out.len _).mono ?_; rintro e w4 ⟨v4, rfl, hI, hb4⟩; have HI := Lib.hid hI; have HB4 := Lib.hid (H.out.below.trans (hb4.mono H.out.below.size)); have HZ := Lib.hid H.out.below.size; clear hI hb4))
  go_ret
  refine ⟨_, rfl, ?_, HB4.out⟩
  have h9 := HI.out.mono (G := fun k => w.heap.size ≤ k ∧ k < w4.heap.size) fun k hk => ⟨Nat.le_trans HZ.out hk.1, hk.2⟩
  have e9 : writesL [68, 83] i = L16.set D true := by simp only [writesL, HOP.out, ED.out]; rfl
  rw [e9, ← E.out]
  exact h9
set_option maxRecDepth 100000 in
set_option maxHeartbeats 3200000 in
theorem Writes_28 (i : Ins) (hop : i.op = 28) (hc : chkP i = true) (w : World) :
    Calls Tryz.prog 16 #[.agg (insRow i).toArray] w fun e w' => ∃ v, e = .returned v ∧ IntsAt w' (fun k => w.heap.size ≤ k ∧ k < w'.heap.size) v (risingF (writesL [83] i)) ∧ Below w.heap.size w w' := by
  obtain ⟨_, _, hd1, hs1, ht1, _⟩ := chk_parts hc
  have hpl := chk_place hc
  rw [hop] at hd1 hs1 ht1 hpl
  have hop' := hop
  have HOP := Lib.hid hop
  have HC := Lib.hid hc
  clear hop hc hd1 hs1 ht1 hpl
  have HCHK := Lib.hid (fun w => rCheck_any i w)
  obtain ⟨W1, hW1, hb1, hs1, hn1, _⟩ := boxed w (insRow i).toArray 29
  have k1 : W1.heap[w.heap.size]? = some (.cells (insRow i).toArray 29 (0, 0)) := by rw [hW1]; exact heap_alloc_new w _
  have HK1 := Lib.hid k1
  have HW1 := Lib.hid hW1
  have HB1 := Lib.hid hb1
  have HN1 := Lib.hid hn1
  have m1 : w.heap.size < W1.heap.size := by omega
  clear hW1 hb1 hs1 hn1 k1
  go_enter Tryz.func16, Tryz.ntmps16
  go_wp2_with (rw [← HW1.out]; refine wpList_load_row rfl 29 _ rfl w.heap.size rfl 29 (insRow i).toArray (0, 0) _ HK1.out Tryz.underlying29 rfl infoIns ?_)
  refine (HCHK.out W1).mono ?_
  rintro e w2 ⟨rfl, hb2⟩
  rw [HC.out]
  have HB2 := Lib.hid hb2
  unfold errOf
  have n0 := HN1.out 0
  have n1 := HN1.out 1
  have n2 := HN1.out 2
  have n3 := HN1.out 3
  have n4 := HN1.out 4
  have n5 := HN1.out 5
  have q0 := (hb2.cell (p := ⟨w.heap.size, 0, none⟩) m1).trans n0
  have q1 := (hb2.cell (p := ⟨w.heap.size, 1, none⟩) m1).trans n1
  have q2 := (hb2.cell (p := ⟨w.heap.size, 2, none⟩) m1).trans n2
  have q3 := (hb2.cell (p := ⟨w.heap.size, 3, none⟩) m1).trans n3
  have q4 := (hb2.cell (p := ⟨w.heap.size, 4, none⟩) m1).trans n4
  have q5 := (hb2.cell (p := ⟨w.heap.size, 5, none⟩) m1).trans n5
  clear n0 n1 n2 n3 n4 n5 hb2
  simp only [insRow, List.getElem?_toArray, List.getElem?_cons_zero, List.getElem?_cons_succ] at q0 q1 q2 q3 q4 q5
  rw [hop'] at q0
  have m2 : w.heap.size < w2.heap.size := Nat.lt_of_lt_of_le m1 HB2.out.size
  obtain ⟨L0, e0⟩ : ∃ q, q = L16 := ⟨_, rfl⟩
  have E := Lib.hid e0
  have H := Lib.hid (Bools.new w w2 w.heap.size i E.out (HB1.out.trans (HB2.out.mono HB1.out.size)) ((HB2.out.block _ m1).trans HK1.out) m2)
  clear e0
  clear hop'
  go_upto_region 5 with (((with_reducible refine (Form_28 _).mono ?_); rintro e w3 ⟨rfl, rfl⟩))
  go_wp2_with (first | ((with_reducible refine (Has_lit ⟨#[83]⟩ 68 68 rfl false _ (by decide) rfl).mono ?_); rintro e w3 ⟨rfl, rfl⟩) | ((with_reducible refine wl_id ?_); refine H.out.store 2 (by decide) _ _ rfl rfl rfl rfl ?_; intro W L2 hL hW; have e2 := chain_step hL E.out; clear hL E q0 q1 q2 q3 q4 q5; have E := Lib.hid e2; clear e2; clear H; have H := Lib.hid hW; clear hW; obtain ⟨q0, q1, q2, q3, q4, q5⟩ := H.out.cells; rw [HOP.out] at q0) | ((with_reducible refine wl_id ?_); refine H.out.store 4 (by decide) _ _ rfl rfl rfl rfl ?_; intro W L2 hL hW; have e2 := chain_step hL E.out; clear hL E q0 q1 q2 q3 q4 q5; have E := Lib.hid e2; clear e2; clear H; have H := Lib.hid hW; clear hW; obtain ⟨q0, q1, q2, q3, q4, q5⟩ := H.out.cells; rw [HOP.out] at q0) | ((with_reducible refine wl_id ?_); refine H.out.load _ rfl rfl rfl ?_) | (go_at_call 40; refine (rising_any _ H.out.len _).mono ?_; rintro e w4 ⟨v4, rfl, hI, hb4⟩; have HI := Lib.hid hI; have HB4 := Lib.hid (H.out.below.trans (hb4.mono H.out.below.size)); have HZ := Lib.hid H.out.below.size; clear hI hb4))
  go_ret
  refine ⟨_, rfl, ?_, HB4.out⟩
  have h9 := HI.out.mono (G := fun k => w.heap.size ≤ k ∧ k < w4.heap.size) fun k hk => ⟨Nat.le_trans HZ.out hk.1, hk.2⟩
  have e9 : writesL [83] i = (L16).set 4 true := by simp only [writesL, HOP.out]; rfl
  rw [e9, ← E.out]
  exact h9
set_option maxRecDepth 100000 in
set_option maxHeartbeats 3200000 in
theorem Writes_29 (i : Ins) (hop : i.op = 29) (hc : chkP i = true) (w : World) :
    Calls Tryz.prog 16 #[.agg (insRow i).toArray] w fun e w' => ∃ v, e = .returned v ∧ IntsAt w' (fun k => w.heap.size ≤ k ∧ k < w'.heap.size) v (risingF (writesL [68] i)) ∧ Below w.heap.size w w' := by
  obtain ⟨_, _, hd1, hs1, ht1, _⟩ := chk_parts hc
  have hpl := chk_place hc
  rw [hop] at hd1 hs1 ht1 hpl
  obtain ⟨D, hD, hDl⟩ := hasOk_yes hd1 (by rfl)
  have lD0 : (0 : Int) ≤ (D : Int) := by omega
  have lD1 : (D : Int) < 16 := by omega
  have LD := Lib.hid hDl
  have hop' := hop
  have HOP := Lib.hid hop
  have HC := Lib.hid hc
  have ED := Lib.hid hD
  clear hop hc hd1 hs1 ht1 hpl hDl
  have HCHK := Lib.hid (fun w => rCheck_any i w)
  obtain ⟨W1, hW1, hb1, hs1, hn1, _⟩ := boxed w (insRow i).toArray 29
  have k1 : W1.heap[w.heap.size]? = some (.cells (insRow i).toArray 29 (0, 0)) := by rw [hW1]; exact heap_alloc_new w _
  have HK1 := Lib.hid k1
  have HW1 := Lib.hid hW1
  have HB1 := Lib.hid hb1
  have HN1 := Lib.hid hn1
  have m1 : w.heap.size < W1.heap.size := by omega
  clear hW1 hb1 hs1 hn1 k1
  go_enter Tryz.func16, Tryz.ntmps16
  go_wp2_with (rw [← HW1.out]; refine wpList_load_row rfl 29 _ rfl w.heap.size rfl 29 (insRow i).toArray (0, 0) _ HK1.out Tryz.underlying29 rfl infoIns ?_)
  refine (HCHK.out W1).mono ?_
  rintro e w2 ⟨rfl, hb2⟩
  rw [HC.out]
  have HB2 := Lib.hid hb2
  unfold errOf
  have n0 := HN1.out 0
  have n1 := HN1.out 1
  have n2 := HN1.out 2
  have n3 := HN1.out 3
  have n4 := HN1.out 4
  have n5 := HN1.out 5
  have q0 := (hb2.cell (p := ⟨w.heap.size, 0, none⟩) m1).trans n0
  have q1 := (hb2.cell (p := ⟨w.heap.size, 1, none⟩) m1).trans n1
  have q2 := (hb2.cell (p := ⟨w.heap.size, 2, none⟩) m1).trans n2
  have q3 := (hb2.cell (p := ⟨w.heap.size, 3, none⟩) m1).trans n3
  have q4 := (hb2.cell (p := ⟨w.heap.size, 4, none⟩) m1).trans n4
  have q5 := (hb2.cell (p := ⟨w.heap.size, 5, none⟩) m1).trans n5
  clear n0 n1 n2 n3 n4 n5 hb2
  simp only [insRow, List.getElem?_toArray, List.getElem?_cons_zero, List.getElem?_cons_succ] at q0 q1 q2 q3 q4 q5
  rw [hop'] at q0
  rw [hD] at q1
  have m2 : w.heap.size < w2.heap.size := Nat.lt_of_lt_of_le m1 HB2.out.size
  obtain ⟨L0, e0⟩ : ∃ q, q = L16 := ⟨_, rfl⟩
  have E := Lib.hid e0
  have H := Lib.hid (Bools.new w w2 w.heap.size i E.out (HB1.out.trans (HB2.out.mono HB1.out.size)) ((HB2.out.block _ m1).trans HK1.out) m2)
  clear e0
  clear hop' hD
  go_upto_region 5 with (((with_reducible refine (Form_29 _).mono ?_); rintro e w3 ⟨rfl, rfl⟩))
  go_wp2_with (first | ((with_reducible refine (Has_lit ⟨#[68]⟩ 68 68 rfl true _ (by decide) rfl).mono ?_); rintro e w3 ⟨rfl, rfl⟩) | ((with_reducible refine wl_id ?_); refine H.out.store D LD.out _ _ rfl rfl rfl rfl ?_; intro W L2 hL hW; have e2 := chain_step hL E.out; clear hL E q0 q1 q2 q3 q4 q5; have E := Lib.hid e2; clear e2; clear H; have H := Lib.hid hW; clear hW; obtain ⟨q0, q1, q2, q3, q4, q5⟩ := H.out.cells; rw [HOP.out] at q0; rw [ED.out] at q1) | ((with_reducible refine wl_id ?_); refine H.out.store 2 (by decide) _ _ rfl rfl rfl rfl ?_; intro W L2 hL hW; have e2 := chain_step hL E.out; clear hL E q0 q1 q2 q3 q4 q5; have E := Lib.hid e2; clear e2; clear H; have H := Lib.hid hW; clear hW; obtain ⟨q0, q1, q2, q3, q4, q5⟩ := H.out.cells; rw [HOP.out] at q0; rw [ED.out] at q1) | ((with_reducible refine wl_id ?_); refine H.out.store 4 (by decide) _ _ rfl rfl rfl rfl ?_; intro W L2 hL hW; have e2 := chain_step hL E.out; clear hL E q0 q1 q2 q3 q4 q5; have E := Lib.hid e2; clear e2; clear H; have H := Lib.hid hW; clear hW; obtain ⟨q0, q1, q2, q3, q4, q5⟩ := H.out.cells; rw [HOP.out] at q0; rw [ED.out] at q1) | ((with_reducible refine wl_id ?_); refine H.out.load _ rfl rfl rfl ?_) | (go_at_call 40; refine (rising_any _ H.out.len _).mono ?_; rintro e w4 ⟨v4, rfl, hI, hb4⟩; have HI := Lib.hid hI; have HB4 := Lib.hid (H.out.below.trans (hb4.mono H.out.below.size)); have HZ := Lib.hid H.out.below.size; clear hI hb4))
  go_ret
  refine ⟨_, rfl, ?_, HB4.out⟩
  have h9 := HI.out.mono (G := fun k => w.heap.size ≤ k ∧ k < w4.heap.size) fun k hk => ⟨Nat.le_trans HZ.out hk.1, hk.2⟩
  have e9 : writesL [68] i = (L16.set D true).set 4 true := by simp only [writesL, HOP.out, ED.out]; rfl
  rw [e9, ← E.out]
  exact h9
set_option maxRecDepth 100000 in
set_option maxHeartbeats 3200000 in
theorem Writes_30 (i : Ins) (hop : i.op = 30) (hc : chkP i = true) (w : World) :
    Calls Tryz.prog 16 #[.agg (insRow i).toArray] w fun e w' => ∃ v, e = .returned v ∧ IntsAt w' (fun k => w.heap.size ≤ k ∧ k < w'.heap.size) v (risingF (writesL [105] i)) ∧ Below w.heap.size w w' := by
  obtain ⟨_, _, hd1, hs1, ht1, _⟩ := chk_parts hc
  have hpl := chk_place hc
  rw [hop] at hd1 hs1 ht1 hpl
  have hop' := hop
  have HOP := Lib.hid hop
  have HC := Lib.hid hc
  clear hop hc hd1 hs1 ht1 hpl
  have HCHK := Lib.hid (fun w => rCheck_any i w)
  obtain ⟨W1, hW1, hb1, hs1, hn1, _⟩ := boxed w (insRow i).toArray 29
  have k1 : W1.heap[w.heap.size]? = some (.cells (insRow i).toArray 29 (0, 0)) := by rw [hW1]; exact heap_alloc_new w _
  have HK1 := Lib.hid k1
  have HW1 := Lib.hid hW1
  have HB1 := Lib.hid hb1
  have HN1 := Lib.hid hn1
  have m1 : w.heap.size < W1.heap.size := by omega
  clear hW1 hb1 hs1 hn1 k1
  go_enter Tryz.func16, Tryz.ntmps16
  go_wp2_with (rw [← HW1.out]; refine wpList_load_row rfl 29 _ rfl w.heap.size rfl 29 (insRow i).toArray (0, 0) _ HK1.out Tryz.underlying29 rfl infoIns ?_)
  refine (HCHK.out W1).mono ?_
  rintro e w2 ⟨rfl, hb2⟩
  rw [HC.out]
  have HB2 := Lib.hid hb2
  unfold errOf
  have n0 := HN1.out 0
  have n1 := HN1.out 1
  have n2 := HN1.out 2
  have n3 := HN1.out 3
  have n4 := HN1.out 4
  have n5 := HN1.out 5
  have q0 := (hb2.cell (p := ⟨w.heap.size, 0, none⟩) m1).trans n0
  have q1 := (hb2.cell (p := ⟨w.heap.size, 1, none⟩) m1).trans n1
  have q2 := (hb2.cell (p := ⟨w.heap.size, 2, none⟩) m1).trans n2
  have q3 := (hb2.cell (p := ⟨w.heap.size, 3, none⟩) m1).trans n3
  have q4 := (hb2.cell (p := ⟨w.heap.size, 4, none⟩) m1).trans n4
  have q5 := (hb2.cell (p := ⟨w.heap.size, 5, none⟩) m1).trans n5
  clear n0 n1 n2 n3 n4 n5 hb2
  simp only [insRow, List.getElem?_toArray, List.getElem?_cons_zero, List.getElem?_cons_succ] at q0 q1 q2 q3 q4 q5
  rw [hop'] at q0
  have m2 : w.heap.size < w2.heap.size := Nat.lt_of_lt_of_le m1 HB2.out.size
  obtain ⟨L0, e0⟩ : ∃ q, q = L16 := ⟨_, rfl⟩
  have E := Lib.hid e0
  have H := Lib.hid (Bools.new w w2 w.heap.size i E.out (HB1.out.trans (HB2.out.mono HB1.out.size)) ((HB2.out.block _ m1).trans HK1.out) m2)
  clear e0
  clear hop'
  go_upto_region 5 with (((with_reducible refine (Form_30 _).mono ?_); rintro e w3 ⟨rfl, rfl⟩))
  go_wp2_with (first | ((with_reducible refine (Has_lit ⟨#[105]⟩ 68 68 rfl false _ (by decide) rfl).mono ?_); rintro e w3 ⟨rfl, rfl⟩) | ((with_reducible refine wl_id ?_); refine H.out.store 2 (by decide) _ _ rfl rfl rfl rfl ?_; intro W L2 hL hW; have e2 := chain_step hL E.out; clear hL E q0 q1 q2 q3 q4 q5; have E := Lib.hid e2; clear e2; clear H; have H := Lib.hid hW; clear hW; obtain ⟨q0, q1, q2, q3, q4, q5⟩ := H.out.cells; rw [HOP.out] at q0) | ((with_reducible refine wl_id ?_); refine H.out.store 4 (by decide) _ _ rfl rfl rfl rfl ?_; intro W L2 hL hW; have e2 := chain_step hL E.out; clear hL E q0 q1 q2 q3 q4 q5; have E := Lib.hid e2; clear e2; clear H; have H := Lib.hid hW; clear hW; obtain ⟨q0, q1, q2, q3, q4, q5⟩ := H.out.cells; rw [HOP.out] at q0) | ((with_reducible refine wl_id ?_); refine H.out.load _ rfl rfl rfl ?_) | (go_at_call 40; refine (rising_any _ H.out.len _).mono ?_; rintro e w4 ⟨v4, rfl, hI, hb4⟩; have HI := Lib.hid hI; have HB4 := Lib.hid (H.out.below.trans (hb4.mono H.out.below.size)); have HZ := Lib.hid H.out.below.size; clear hI hb4))
  go_ret
  refine ⟨_, rfl, ?_, HB4.out⟩
  have h9 := HI.out.mono (G := fun k => w.heap.size ≤ k ∧ k < w4.heap.size) fun k hk => ⟨Nat.le_trans HZ.out hk.1, hk.2⟩
  have e9 : writesL [105] i = L16 := by simp only [writesL, HOP.out]; rfl
  rw [e9, ← E.out]
  exact h9
set_option maxRecDepth 100000 in
set_option maxHeartbeats 3200000 in
theorem Writes_31 (i : Ins) (hop : i.op = 31) (hc : chkP i = true) (w : World) :
    Calls Tryz.prog 16 #[.agg (insRow i).toArray] w fun e w' => ∃ v, e = .returned v ∧ IntsAt w' (fun k => w.heap.size ≤ k ∧ k < w'.heap.size) v (risingF (writesL [105] i)) ∧ Below w.heap.size w w' := by
  obtain ⟨_, _, hd1, hs1, ht1, _⟩ := chk_parts hc
  have hpl := chk_place hc
  rw [hop] at hd1 hs1 ht1 hpl
  have hop' := hop
  have HOP := Lib.hid hop
  have HC := Lib.hid hc
  clear hop hc hd1 hs1 ht1 hpl
  have HCHK := Lib.hid (fun w => rCheck_any i w)
  obtain ⟨W1, hW1, hb1, hs1, hn1, _⟩ := boxed w (insRow i).toArray 29
  have k1 : W1.heap[w.heap.size]? = some (.cells (insRow i).toArray 29 (0, 0)) := by rw [hW1]; exact heap_alloc_new w _
  have HK1 := Lib.hid k1
  have HW1 := Lib.hid hW1
  have HB1 := Lib.hid hb1
  have HN1 := Lib.hid hn1
  have m1 : w.heap.size < W1.heap.size := by omega
  clear hW1 hb1 hs1 hn1 k1
  go_enter Tryz.func16, Tryz.ntmps16
  go_wp2_with (rw [← HW1.out]; refine wpList_load_row rfl 29 _ rfl w.heap.size rfl 29 (insRow i).toArray (0, 0) _ HK1.out Tryz.underlying29 rfl infoIns ?_)
  refine (HCHK.out W1).mono ?_
  rintro e w2 ⟨rfl, hb2⟩
  rw [HC.out]
  have HB2 := Lib.hid hb2
  unfold errOf
  have n0 := HN1.out 0
  have n1 := HN1.out 1
  have n2 := HN1.out 2
  have n3 := HN1.out 3
  have n4 := HN1.out 4
  have n5 := HN1.out 5
  have q0 := (hb2.cell (p := ⟨w.heap.size, 0, none⟩) m1).trans n0
  have q1 := (hb2.cell (p := ⟨w.heap.size, 1, none⟩) m1).trans n1
  have q2 := (hb2.cell (p := ⟨w.heap.size, 2, none⟩) m1).trans n2
  have q3 := (hb2.cell (p := ⟨w.heap.size, 3, none⟩) m1).trans n3
  have q4 := (hb2.cell (p := ⟨w.heap.size, 4, none⟩) m1).trans n4
  have q5 := (hb2.cell (p := ⟨w.heap.size, 5, none⟩) m1).trans n5
  clear n0 n1 n2 n3 n4 n5 hb2
  simp only [insRow, List.getElem?_toArray, List.getElem?_cons_zero, List.getElem?_cons_succ] at q0 q1 q2 q3 q4 q5
  rw [hop'] at q0
  have m2 : w.heap.size < w2.heap.size := Nat.lt_of_lt_of_le m1 HB2.out.size
  obtain ⟨L0, e0⟩ : ∃ q, q = L16 := ⟨_, rfl⟩
  have E := Lib.hid e0
  have H := Lib.hid (Bools.new w w2 w.heap.size i E.out (HB1.out.trans (HB2.out.mono HB1.out.size)) ((HB2.out.block _ m1).trans HK1.out) m2)
  clear e0
  clear hop'
  go_upto_region 5 with (((with_reducible refine (Form_31 _).mono ?_); rintro e w3 ⟨rfl, rfl⟩))
  go_wp2_with (first | ((with_reducible refine (Has_lit ⟨#[105]⟩ 68 68 rfl false _ (by decide) rfl).mono ?_); rintro e w3 ⟨rfl, rfl⟩) | ((with_reducible refine wl_id ?_); refine H.out.store 2 (by decide) _ _ rfl rfl rfl rfl ?_; intro W L2 hL hW; have e2 := chain_step hL E.out; clear hL E q0 q1 q2 q3 q4 q5; have E := Lib.hid e2; clear e2; clear H; have H := Lib.hid hW; clear hW; obtain ⟨q0, q1, q2, q3, q4, q5⟩ := H.out.cells; rw [HOP.out] at q0) | ((with_reducible refine wl_id ?_); refine H.out.store 4 (by decide) _ _ rfl rfl rfl rfl ?_; intro W L2 hL hW; have e2 := chain_step hL E.out; clear hL E q0 q1 q2 q3 q4 q5; have E := Lib.hid e2; clear e2; clear H; have H := Lib.hid hW; clear hW; obtain ⟨q0, q1, q2, q3, q4, q5⟩ := H.out.cells; rw [HOP.out] at q0) | ((with_reducible refine wl_id ?_); refine H.out.load _ rfl rfl rfl ?_) | (go_at_call 40; refine (rising_any _ H.out.len _).mono ?_; rintro e w4 ⟨v4, rfl, hI, hb4⟩; have HI := Lib.hid hI; have HB4 := Lib.hid (H.out.below.trans (hb4.mono H.out.below.size)); have HZ := Lib.hid H.out.below.size; clear hI hb4))
  go_ret
  refine ⟨_, rfl, ?_, HB4.out⟩
  have h9 := HI.out.mono (G := fun k => w.heap.size ≤ k ∧ k < w4.heap.size) fun k hk => ⟨Nat.le_trans HZ.out hk.1, hk.2⟩
  have e9 : writesL [105] i = L16 := by simp only [writesL, HOP.out]; rfl
  rw [e9, ← E.out]
  exact h9
set_option maxRecDepth 100000 in
set_option maxHeartbeats 3200000 in
theorem Writes_32 (i : Ins) (hop : i.op = 32) (hc : chkP i = true) (w : World) :
    Calls Tryz.prog 16 #[.agg (insRow i).toArray] w fun e w' => ∃ v, e = .returned v ∧ IntsAt w' (fun k => w.heap.size ≤ k ∧ k < w'.heap.size) v (risingF (writesL [105] i)) ∧ Below w.heap.size w w' := by
  obtain ⟨_, _, hd1, hs1, ht1, _⟩ := chk_parts hc
  have hpl := chk_place hc
  rw [hop] at hd1 hs1 ht1 hpl
  have hop' := hop
  have HOP := Lib.hid hop
  have HC := Lib.hid hc
  clear hop hc hd1 hs1 ht1 hpl
  have HCHK := Lib.hid (fun w => rCheck_any i w)
  obtain ⟨W1, hW1, hb1, hs1, hn1, _⟩ := boxed w (insRow i).toArray 29
  have k1 : W1.heap[w.heap.size]? = some (.cells (insRow i).toArray 29 (0, 0)) := by rw [hW1]; exact heap_alloc_new w _
  have HK1 := Lib.hid k1
  have HW1 := Lib.hid hW1
  have HB1 := Lib.hid hb1
  have HN1 := Lib.hid hn1
  have m1 : w.heap.size < W1.heap.size := by omega
  clear hW1 hb1 hs1 hn1 k1
  go_enter Tryz.func16, Tryz.ntmps16
  go_wp2_with (rw [← HW1.out]; refine wpList_load_row rfl 29 _ rfl w.heap.size rfl 29 (insRow i).toArray (0, 0) _ HK1.out Tryz.underlying29 rfl infoIns ?_)
  refine (HCHK.out W1).mono ?_
  rintro e w2 ⟨rfl, hb2⟩
  rw [HC.out]
  have HB2 := Lib.hid hb2
  unfold errOf
  have n0 := HN1.out 0
  have n1 := HN1.out 1
  have n2 := HN1.out 2
  have n3 := HN1.out 3
  have n4 := HN1.out 4
  have n5 := HN1.out 5
  have q0 := (hb2.cell (p := ⟨w.heap.size, 0, none⟩) m1).trans n0
  have q1 := (hb2.cell (p := ⟨w.heap.size, 1, none⟩) m1).trans n1
  have q2 := (hb2.cell (p := ⟨w.heap.size, 2, none⟩) m1).trans n2
  have q3 := (hb2.cell (p := ⟨w.heap.size, 3, none⟩) m1).trans n3
  have q4 := (hb2.cell (p := ⟨w.heap.size, 4, none⟩) m1).trans n4
  have q5 := (hb2.cell (p := ⟨w.heap.size, 5, none⟩) m1).trans n5
  clear n0 n1 n2 n3 n4 n5 hb2
  simp only [insRow, List.getElem?_toArray, List.getElem?_cons_zero, List.getElem?_cons_succ] at q0 q1 q2 q3 q4 q5
  rw [hop'] at q0
  have m2 : w.heap.size < w2.heap.size := Nat.lt_of_lt_of_le m1 HB2.out.size
  obtain ⟨L0, e0⟩ : ∃ q, q = L16 := ⟨_, rfl⟩
  have E := Lib.hid e0
  have H := Lib.hid (Bools.new w w2 w.heap.size i E.out (HB1.out.trans (HB2.out.mono HB1.out.size)) ((HB2.out.block _ m1).trans HK1.out) m2)
  clear e0
  clear hop'
  go_upto_region 5 with (((with_reducible refine (Form_32 _).mono ?_); rintro e w3 ⟨rfl, rfl⟩))
  go_wp2_with (first | ((with_reducible refine (Has_lit ⟨#[105]⟩ 68 68 rfl false _ (by decide) rfl).mono ?_); rintro e w3 ⟨rfl, rfl⟩) | ((with_reducible refine wl_id ?_); refine H.out.store 2 (by decide) _ _ rfl rfl rfl rfl ?_; intro W L2 hL hW; have e2 := chain_step hL E.out; clear hL E q0 q1 q2 q3 q4 q5; have E := Lib.hid e2; clear e2; clear H; have H := Lib.hid hW; clear hW; obtain ⟨q0, q1, q2, q3, q4, q5⟩ := H.out.cells; rw [HOP.out] at q0) | ((with_reducible refine wl_id ?_); refine H.out.store 4 (by decide) _ _ rfl rfl rfl rfl ?_; intro W L2 hL hW; have e2 := chain_step hL E.out; clear hL E q0 q1 q2 q3 q4 q5; have E := Lib.hid e2; clear e2; clear H; have H := Lib.hid hW; clear hW; obtain ⟨q0, q1, q2, q3, q4, q5⟩ := H.out.cells; rw [HOP.out] at q0) | ((with_reducible refine wl_id ?_); refine H.out.load _ rfl rfl rfl ?_) | (go_at_call 40; refine (rising_any _ H.out.len _).mono ?_; rintro e w4 ⟨v4, rfl, hI, hb4⟩; have HI := Lib.hid hI; have HB4 := Lib.hid (H.out.below.trans (hb4.mono H.out.below.size)); have HZ := Lib.hid H.out.below.size; clear hI hb4))
  go_ret
  refine ⟨_, rfl, ?_, HB4.out⟩
  have h9 := HI.out.mono (G := fun k => w.heap.size ≤ k ∧ k < w4.heap.size) fun k hk => ⟨Nat.le_trans HZ.out hk.1, hk.2⟩
  have e9 : writesL [105] i = L16 := by simp only [writesL, HOP.out]; rfl
  rw [e9, ← E.out]
  exact h9
set_option maxRecDepth 100000 in
set_option maxHeartbeats 3200000 in
theorem Writes_33 (i : Ins) (hop : i.op = 33) (hc : chkP i = true) (w : World) :
    Calls Tryz.prog 16 #[.agg (insRow i).toArray] w fun e w' => ∃ v, e = .returned v ∧ IntsAt w' (fun k => w.heap.size ≤ k ∧ k < w'.heap.size) v (risingF (writesL [45] i)) ∧ Below w.heap.size w w' := by
  obtain ⟨_, _, hd1, hs1, ht1, _⟩ := chk_parts hc
  have hpl := chk_place hc
  rw [hop] at hd1 hs1 ht1 hpl
  have hop' := hop
  have HOP := Lib.hid hop
  have HC := Lib.hid hc
  clear hop hc hd1 hs1 ht1 hpl
  have HCHK := Lib.hid (fun w => rCheck_any i w)
  obtain ⟨W1, hW1, hb1, hs1, hn1, _⟩ := boxed w (insRow i).toArray 29
  have k1 : W1.heap[w.heap.size]? = some (.cells (insRow i).toArray 29 (0, 0)) := by rw [hW1]; exact heap_alloc_new w _
  have HK1 := Lib.hid k1
  have HW1 := Lib.hid hW1
  have HB1 := Lib.hid hb1
  have HN1 := Lib.hid hn1
  have m1 : w.heap.size < W1.heap.size := by omega
  clear hW1 hb1 hs1 hn1 k1
  go_enter Tryz.func16, Tryz.ntmps16
  go_wp2_with (rw [← HW1.out]; refine wpList_load_row rfl 29 _ rfl w.heap.size rfl 29 (insRow i).toArray (0, 0) _ HK1.out Tryz.underlying29 rfl infoIns ?_)
  refine (HCHK.out W1).mono ?_
  rintro e w2 ⟨rfl, hb2⟩
  rw [HC.out]
  have HB2 := Lib.hid hb2
  unfold errOf
  have n0 := HN1.out 0
  have n1 := HN1.out 1
  have n2 := HN1.out 2
  have n3 := HN1.out 3
  have n4 := HN1.out 4
  have n5 := HN1.out 5
  have q0 := (hb2.cell (p := ⟨w.heap.size, 0, none⟩) m1).trans n0
  have q1 := (hb2.cell (p := ⟨w.heap.size, 1, none⟩) m1).trans n1
  have q2 := (hb2.cell (p := ⟨w.heap.size, 2, none⟩) m1).trans n2
  have q3 := (hb2.cell (p := ⟨w.heap.size, 3, none⟩) m1).trans n3
  have q4 := (hb2.cell (p := ⟨w.heap.size, 4, none⟩) m1).trans n4
  have q5 := (hb2.cell (p := ⟨w.heap.size, 5, none⟩) m1).trans n5
  clear n0 n1 n2 n3 n4 n5 hb2
  simp only [insRow, List.getElem?_toArray, List.getElem?_cons_zero, List.getElem?_cons_succ] at q0 q1 q2 q3 q4 q5
  rw [hop'] at q0
  have m2 : w.heap.size < w2.heap.size := Nat.lt_of_lt_of_le m1 HB2.out.size
  obtain ⟨L0, e0⟩ : ∃ q, q = L16 := ⟨_, rfl⟩
  have E := Lib.hid e0
  have H := Lib.hid (Bools.new w w2 w.heap.size i E.out (HB1.out.trans (HB2.out.mono HB1.out.size)) ((HB2.out.block _ m1).trans HK1.out) m2)
  clear e0
  clear hop'
  go_upto_region 5 with (((with_reducible refine (Form_33 _).mono ?_); rintro e w3 ⟨rfl, rfl⟩))
  go_wp2_with (first | ((with_reducible refine (Has_lit ⟨#[45]⟩ 68 68 rfl false _ (by decide) rfl).mono ?_); rintro e w3 ⟨rfl, rfl⟩) | ((with_reducible refine wl_id ?_); refine H.out.store 2 (by decide) _ _ rfl rfl rfl rfl ?_; intro W L2 hL hW; have e2 := chain_step hL E.out; clear hL E q0 q1 q2 q3 q4 q5; have E := Lib.hid e2; clear e2; clear H; have H := Lib.hid hW; clear hW; obtain ⟨q0, q1, q2, q3, q4, q5⟩ := H.out.cells; rw [HOP.out] at q0) | ((with_reducible refine wl_id ?_); refine H.out.store 4 (by decide) _ _ rfl rfl rfl rfl ?_; intro W L2 hL hW; have e2 := chain_step hL E.out; clear hL E q0 q1 q2 q3 q4 q5; have E := Lib.hid e2; clear e2; clear H; have H := Lib.hid hW; clear hW; obtain ⟨q0, q1, q2, q3, q4, q5⟩ := H.out.cells; rw [HOP.out] at q0) | ((with_reducible refine wl_id ?_); refine H.out.load _ rfl rfl rfl ?_) | (go_at_call 40; refine (rising_any _ H.out.len _).mono ?_; rintro e w4 ⟨v4, rfl, hI, hb4⟩; have HI := Lib.hid hI; have HB4 := Lib.hid (H.out.below.trans (hb4.mono H.out.below.size)); have HZ := Lib.hid H.out.below.size; clear hI hb4))
  go_ret
  refine ⟨_, rfl, ?_, HB4.out⟩
  have h9 := HI.out.mono (G := fun k => w.heap.size ≤ k ∧ k < w4.heap.size) fun k hk => ⟨Nat.le_trans HZ.out hk.1, hk.2⟩
  have e9 : writesL [45] i = (L16).set 4 true := by simp only [writesL, HOP.out]; rfl
  rw [e9, ← E.out]
  exact h9
theorem Writes_any (i : Ins) (w : World) :
    Calls Tryz.prog 16 #[.agg (insRow i).toArray] w fun e w' => ∃ v, e = .returned v ∧ IntsAt w' (fun k => w.heap.size ≤ k ∧ k < w'.heap.size) v (writesI i) ∧ Below w.heap.size w w' := by
  cases hc : chkP i with
  | false => rw [writesI, hc]; exact Writes_none i hc w
  | true =>
    rw [writesI, hc]
    rcases (by have := chk_range hc; omega : i.op = 1 ∨ i.op = 2 ∨ i.op = 3 ∨ i.op = 4 ∨ i.op = 5 ∨ i.op = 6 ∨ i.op = 7 ∨ i.op = 8 ∨ i.op = 9 ∨ i.op = 10 ∨ i.op = 11 ∨ i.op = 12 ∨ i.op = 13 ∨ i.op = 14 ∨ i.op = 15 ∨ i.op = 16 ∨ i.op = 17 ∨ i.op = 18 ∨ i.op = 19 ∨ i.op = 20 ∨ i.op = 21 ∨ i.op = 22 ∨ i.op = 23 ∨ i.op = 24 ∨ i.op = 25 ∨ i.op = 26 ∨ i.op = 27 ∨ i.op = 28 ∨ i.op = 29 ∨ i.op = 30 ∨ i.op = 31 ∨ i.op = 32 ∨ i.op = 33) with h | h | h | h | h | h | h | h | h | h | h | h | h | h | h | h | h | h | h | h | h | h | h | h | h | h | h | h | h | h | h | h | h
    · have := Writes_1 i h hc w; rw [h]; exact this
    · have := Writes_2 i h hc w; rw [h]; exact this
    · have := Writes_3 i h hc w; rw [h]; exact this
    · have := Writes_4 i h hc w; rw [h]; exact this
    · have := Writes_5 i h hc w; rw [h]; exact this
    · have := Writes_6 i h hc w; rw [h]; exact this
    · have := Writes_7 i h hc w; rw [h]; exact this
    · have := Writes_8 i h hc w; rw [h]; exact this
    · have := Writes_9 i h hc w; rw [h]; exact this
    · have := Writes_10 i h hc w; rw [h]; exact this
    · have := Writes_11 i h hc w; rw [h]; exact this
    · have := Writes_12 i h hc w; rw [h]; exact this
    · have := Writes_13 i h hc w; rw [h]; exact this
    · have := Writes_14 i h hc w; rw [h]; exact this
    · have := Writes_15 i h hc w; rw [h]; exact this
    · have := Writes_16 i h hc w; rw [h]; exact this
    · have := Writes_17 i h hc w; rw [h]; exact this
    · have := Writes_18 i h hc w; rw [h]; exact this
    · have := Writes_19 i h hc w; rw [h]; exact this
    · have := Writes_20 i h hc w; rw [h]; exact this
    · have := Writes_21 i h hc w; rw [h]; exact this
    · have := Writes_22 i h hc w; rw [h]; exact this
    · have := Writes_23 i h hc w; rw [h]; exact this
    · have := Writes_24 i h hc w; rw [h]; exact this
    · have := Writes_25 i h hc w; rw [h]; exact this
    · have := Writes_26 i h hc w; rw [h]; exact this
    · have := Writes_27 i h hc w; rw [h]; exact this
    · have := Writes_28 i h hc w; rw [h]; exact this
    · have := Writes_29 i h hc w; rw [h]; exact this
    · have := Writes_30 i h hc w; rw [h]; exact this
    · have := Writes_31 i h hc w; rw [h]; exact this
    · have := Writes_32 i h hc w; rw [h]; exact this
    · have := Writes_33 i h hc w; rw [h]; exact this
end Go.Proofs.YtmanhikpccnfaaaGreat
