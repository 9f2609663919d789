/- law21: example. -/
import Derived.Test.YtjbabpnepjhllaaGreatLo3
namespace Go.Proofs.YtjbabpnepjhllaaGreat
open Go.RowKit

theorem row_block {w : World} {g sz t n cap : Nat} {fr : Nat × Nat} {cur : Array Value} {rows : List (List Value)} (h : w.heap[g]? = some (.cells cur t fr)) (hc : ∀ (i j : Nat) (r : List Value) (u : Value), rows[i]? = some r → r[j]? = some u → cur[i * sz + j]? = some u) (hs : ∀ r ∈ rows, r.length = sz) (hn : rows.length = n) (hcap : n ≤ cap) : Rows w (fun k => k = g) sz (.slice (some ⟨g, 0, none⟩) n cap) rows :=
  ⟨_, cap, by rw [hn], by omega, hs, fun _ => ⟨g, 0, rfl, rfl, fun i j r u hr hu => by
    rw [Nat.zero_add]
    simp only [World.cell?, h]
    exact hc i j r u hr hu⟩⟩
theorem infoVar : (Tryz.prog.info? 60).map (fun i => (i.zero, i.size, i.bytes)) = some (some (.agg #[.int .i64 0, .bool false, .int .i64 0]), 3, 24) := by kernel_rfl
theorem infoKop : (Tryz.prog.info? 43).map (fun i => (i.zero, i.size, i.bytes)) = some (some (.agg #[.int .i64 0, .int .i64 0, .int .i64 0, .int .i64 0, .int .i64 0, .int .i64 0, .int .u64 0]), 7, 56) := by kernel_rfl
/-- The chapter's product. -/
def exK : Krn := ⟨[⟨1, true, 2⟩, ⟨1, true, 2⟩, ⟨1, true, 3⟩], [⟨12, 2, -1, 0, 0, 1, 0⟩], [⟨17, -1, -1, 1, -1, -1, 1⟩, ⟨17, -1, -1, 0, 1, -1, 2⟩]⟩
def vCells : Array Value := #[.int .i64 1, .bool true, .int .i64 2, .int .i64 1, .bool true, .int .i64 2, .int .i64 1, .bool true, .int .i64 3]
def oCells : Array Value := #[.int .i64 12, .int .i64 2, .int .i64 (-1), .int .i64 0, .int .i64 0, .int .i64 1, .int .u64 0]
def rCells : Array Value := #[.int .i64 17, .int .i64 (-1), .int .i64 (-1), .int .i64 1, .int .i64 (-1), .int .i64 (-1), .int .u64 1, .int .i64 17, .int .i64 (-1), .int .i64 (-1), .int .i64 0, .int .i64 1, .int .i64 (-1), .int .u64 2]
section
variable {o : Oper} {a : Act} {w : World}
theorem exec_vars (x y z : Operand) (ho : o.op = .buildSlice 22 3 #[(0, x), (1, y), (2, z)]) (hx : a.eval x = .agg #[.int .i64 1, .bool true, .int .i64 2]) (hy : a.eval y = .agg #[.int .i64 1, .bool true, .int .i64 2]) (hz : a.eval z = .agg #[.int .i64 1, .bool true, .int .i64 3]) :
    (execOp a.eval o).run Tryz.prog w = .ok (.value (.slice (some ⟨w.heap.size, 0, none⟩) 3 3)) (w.alloc (.cells vCells 60)) := by
  obtain ⟨j0, hie, hy0, hy1, hy2⟩ := info_parts infoVar
  have hr := run_buildSlice (P := Tryz.prog) w 22 60 3 #[(0, .agg #[.int .i64 1, .bool true, .int .i64 2]), (1, .agg #[.int .i64 1, .bool true, .int .i64 2]), (2, .agg #[.int .i64 1, .bool true, .int .i64 3])] vCells j0 _ Tryz.underlying22 hie hy0 (by rw [hy1]; decide) (by rw [hy1]; decide) (by rw [hy1]; kernel_rfl)
  unfold execOp
  simp only [ho, hx, hy, hz, List.map_toArray, List.map_cons, List.map_nil, Sem.run_bind, hr, Result.andThen_ok, Sem.run_pure]
theorem exec_kop1 (x : Operand) (ho : o.op = .buildSlice 23 1 #[(0, x)]) (hx : a.eval x = .agg oCells) :
    (execOp a.eval o).run Tryz.prog w = .ok (.value (.slice (some ⟨w.heap.size, 0, none⟩) 1 1)) (w.alloc (.cells oCells 43)) := by
  obtain ⟨j0, hie, hy0, hy1, hy2⟩ := info_parts infoKop
  have hr := run_buildSlice (P := Tryz.prog) w 23 43 1 #[(0, .agg oCells)] oCells j0 _ Tryz.underlying23 hie hy0 (by rw [hy1]; decide) (by rw [hy1]; decide) (by rw [hy1]; kernel_rfl)
  unfold execOp
  simp only [ho, hx, List.map_toArray, List.map_cons, List.map_nil, Sem.run_bind, hr, Result.andThen_ok, Sem.run_pure]
theorem exec_kop2 (x y : Operand) (ho : o.op = .buildSlice 23 2 #[(0, x), (1, y)]) (hx : a.eval x = .agg #[.int .i64 17, .int .i64 (-1), .int .i64 (-1), .int .i64 1, .int .i64 (-1), .int .i64 (-1), .int .u64 1]) (hy : a.eval y = .agg #[.int .i64 17, .int .i64 (-1), .int .i64 (-1), .int .i64 0, .int .i64 1, .int .i64 (-1), .int .u64 2]) :
    (execOp a.eval o).run Tryz.prog w = .ok (.value (.slice (some ⟨w.heap.size, 0, none⟩) 2 2)) (w.alloc (.cells rCells 43)) := by
  obtain ⟨j0, hie, hy0, hy1, hy2⟩ := info_parts infoKop
  have hr := run_buildSlice (P := Tryz.prog) w 23 43 2 #[(0, .agg #[.int .i64 17, .int .i64 (-1), .int .i64 (-1), .int .i64 1, .int .i64 (-1), .int .i64 (-1), .int .u64 1]), (1, .agg #[.int .i64 17, .int .i64 (-1), .int .i64 (-1), .int .i64 0, .int .i64 1, .int .i64 (-1), .int .u64 2])] rCells j0 _ Tryz.underlying23 hie hy0 (by rw [hy1]; decide) (by rw [hy1]; decide) (by rw [hy1]; kernel_rfl)
  unfold execOp
  simp only [ho, hx, hy, List.map_toArray, List.map_cons, List.map_nil, Sem.run_bind, hr, Result.andThen_ok, Sem.run_pure]
end
section
variable {P : Program} {ops : Array Oper} {S : World → Prop} {Q : Act → World → Prop}
theorem runB_three {n : Nat} {l : List Nat} {a : Act} {w : World} (j k m : Nat) (hL : nextT ops l = [j, k, m]) (hs : stuckB ops l = true) {o p q : Oper} (ho : oAt ops.toList j = some o) (hw : Region.wanted o (yielded ops a.tmps) = true) (hp : oAt ops.toList k = some p) (hwp : Region.wanted p (yielded ops a.tmps) = true) (hq : oAt ops.toList m = some q) (hwq : Region.wanted q (yielded ops a.tmps) = true)
    (h : TDoes P o a w fun v w' => S w' ∧ runB P ops S Q n (l.erase j) (a.put o.dst v) w') (h' : TDoes P p a w fun v w' => S w' ∧ runB P ops S Q n (l.erase k) (a.put p.dst v) w') (h'' : TDoes P q a w fun v w' => S w' ∧ runB P ops S Q n (l.erase m) (a.put q.dst v) w') : runB P ops S Q (n + 1) l a w :=
  runB_next [j, k, m] hL hs fun x hx => by
    rcases List.mem_cons.1 hx with rfl | hx
    · exact ⟨o, oAt_get ho, hw, h⟩
    · rcases List.mem_cons.1 hx with rfl | hx
      · exact ⟨p, oAt_get hp, hwp, h'⟩
      · rw [List.mem_singleton] at hx; subst hx; exact ⟨q, oAt_get hq, hwq, h''⟩
end
/-- What stays, while the example is made. -/
structure ExS (w : World) (B : Nat) (w_ : World) : Prop where
  below : Below w.heap.size w w_
  lt : B < w_.heap.size
  ge : w.heap.size < B
  v0 : w_.cell? ⟨B, 0, none⟩ = some (.int .i64 1)
  v1 : w_.cell? ⟨B, 1, none⟩ = some (.bool true)
  v2 : w_.cell? ⟨B, 2, none⟩ = some (.int .i64 2)
theorem ExS.next {w w_ w' : World} {B : Nat} (h : ExS w B w_) (hb : Below w_.heap.size w_ w') : ExS w B w' := ⟨h.below.trans (hb.mono h.below.size), Nat.lt_of_lt_of_le h.lt hb.size, h.ge, (hb.cell (p := ⟨B, 0, none⟩) h.lt).trans h.v0, (hb.cell (p := ⟨B, 1, none⟩) h.lt).trans h.v1, (hb.cell (p := ⟨B, 2, none⟩) h.lt).trans h.v2⟩
theorem cell_other {w : World} {g B j : Nat} (cs : Array Value) (h : B ≠ g) : (w.setRow g cs).cell? ⟨B, j, none⟩ = w.cell? ⟨B, j, none⟩ := World.cell?_of_block (w := w) (a := ⟨B, j, none⟩) (setRow_other _ _ _ _ h)
theorem ExS.store {w w_ : World} {B : Nat} (h : ExS w B w_) (cs : Array Value) : ExS w B (w_.setRow w.heap.size cs) := by
  have hne : B ≠ w.heap.size := by have := h.ge; omega
  have hsz : (w_.setRow w.heap.size cs).heap.size = w_.heap.size := by simp [World.setRow]
  exact ⟨below_setRow h.below (Nat.le_refl _) cs, by rw [hsz]; exact h.lt, h.ge, (cell_other cs hne).trans h.v0, (cell_other cs hne).trans h.v1, (cell_other cs hne).trans h.v2⟩
theorem keep_blk {w_ w' : World} {g : Nat} {o : Obj} (h : w_.heap[g]? = some o) (hb : Below w_.heap.size w_ w') : w'.heap[g]? = some o := (hb.block g (lt_of_block h)).trans h
/-- What example tells. -/
def ExSay (w : World) (e : Ending) (w' : World) : Prop := ∃ b1 b2 b3 : Nat, e = .returned (.agg #[.slice (some ⟨b1, 0, none⟩) 3 3, .slice (some ⟨b2, 0, none⟩) 1 1, .slice (some ⟨b3, 0, none⟩) 2 2]) ∧ w.heap.size ≤ b1 ∧ w.heap.size ≤ b2 ∧ w.heap.size ≤ b3 ∧
  w'.heap[b1]? = some (.cells vCells 60 (0, 0)) ∧ w'.heap[b2]? = some (.cells oCells 43 (0, 0)) ∧ w'.heap[b3]? = some (.cells rCells 43 (0, 0)) ∧ Below w.heap.size w w'
set_option maxRecDepth 100000 in
set_option maxHeartbeats 20000000 in
/-- example. -/
theorem example_any (w : World) : Calls Tryz.prog 24 #[] w (ExSay w) := by
  obtain ⟨W1, hW1⟩ : ∃ W, W = w.alloc (.cells #[.slice none 0 0, .slice none 0 0, .slice none 0 0] 25) := ⟨_, rfl⟩
  have hb1 : Below w.heap.size w W1 := by rw [hW1]; exact (Below.refl _ _).alloc (Nat.le_refl _) _
  have hz1 : W1.heap.size = w.heap.size + 1 := by rw [hW1]; simp
  have hk1 : W1.heap[w.heap.size]? = some (.cells #[.slice none 0 0, .slice none 0 0, .slice none 0 0] 25 (0, 0)) := by rw [hW1]; exact heap_alloc_new w _
  go_enter Tryz.func24, Tryz.ntmps24
  go_upto_region 1 with fail
  rw [← hW1]
  have HF0 := Lib.hid hk1
  have HB1 := Lib.hid hb1
  have HZ1 := Lib.hid hz1
  clear hW1 hk1 hb1 hz1
  go_upto_region 2 with fail
  obtain ⟨x0, hx0⟩ : ∃ q, q = (W1.alloc (.cells #[.int .i64 1, .bool true, .int .i64 2] 60)).drew := ⟨_, rfl⟩
  have hbd : Below W1.heap.size W1 x0 := by rw [hx0]; exact ((Below.refl _ _).alloc (Nat.le_refl _) _).drew
  have hc : ∀ (j : Nat) (v : Value), #[Value.int .i64 1, .bool true, .int .i64 2][j]? = some v → x0.cell? ⟨W1.heap.size, j, none⟩ = some v := fun j v h => by rw [hx0]; exact cell_new W1 _ _ h
  have hzx : x0.heap.size = W1.heap.size + 1 := by rw [hx0]; simp
  have hSx0 : ExS w W1.heap.size x0 := ⟨HB1.out.trans (hbd.mono HB1.out.size), by omega, by have := HZ1.out; omega, hc 0 _ rfl, hc 1 _ rfl, hc 2 _ rfl⟩
  have F0 := keep_blk HF0.out hbd
  refine wp_region_branch (ExS w W1.heap.size) (by kernel_rfl) (by kernel_rfl) (hx0 ▸ hSx0) ?_
  rw [← hx0]
  clear hx0 hbd hc hzx HF0 HB1
  show runB _ _ _ _ 11 [0, 1, 2, 3, 4, 5, 6, 7, 8, 9, 10] _ _
  refine runB_at 0 (v := ?_) (by rfl) (by rfl) (by rfl) (by kernel_rfl) (by rfl) ?_ ?_
  rotate_left
  focus (intro w_ hw_; have f0_ := hw_.v0; have f1_ := hw_.v1; have f2_ := hw_.v2; go_simp; (try with_reducible rfl); done)
  (try dsimp only [Act.put])
  show runB _ _ _ _ 10 [1, 2, 3, 4, 5, 6, 7, 8, 9, 10] _ _
  try simp only [List.setIfInBounds_toArray, List.set_cons_zero, List.set_cons_succ]
  refine runB_at 1 (v := ?_) (by rfl) (by rfl) (by rfl) (by kernel_rfl) (by rfl) ?_ ?_
  rotate_left
  focus (intro w_ hw_; have f0_ := hw_.v0; have f1_ := hw_.v1; have f2_ := hw_.v2; go_simp; (try with_reducible rfl); done)
  (try dsimp only [Act.put])
  show runB _ _ _ _ 9 [2, 3, 4, 5, 6, 7, 8, 9, 10] _ _
  try simp only [List.setIfInBounds_toArray, List.set_cons_zero, List.set_cons_succ]
  refine runB_at 2 (v := ?_) (by rfl) (by rfl) (by rfl) (by kernel_rfl) (by rfl) ?_ ?_
  rotate_left
  focus (intro w_ hw_; have f0_ := hw_.v0; have f1_ := hw_.v1; have f2_ := hw_.v2; go_simp; (try with_reducible rfl); done)
  (try dsimp only [Act.put])
  show runB _ _ _ _ 8 [3, 4, 5, 6, 7, 8, 9, 10] _ _
  try simp only [List.setIfInBounds_toArray, List.set_cons_zero, List.set_cons_succ]
  refine runB_two 3 4 (by kernel_rfl) (by kernel_rfl) (by rfl) (by rfl) (by rfl) (by rfl) ?_ ?_
  · refine tdoes_op (w1 := x0.alloc (.cells vCells 60)) (v := .slice (some ⟨x0.heap.size, 0, none⟩) 3 3) (exec_vars _ _ _ rfl rfl rfl rfl) ⟨hSx0.next ((Below.refl _ _).alloc (Nat.le_refl _) _), ?_⟩
    (try dsimp only [Act.put])
    try simp only [List.setIfInBounds_toArray, List.set_cons_zero, List.set_cons_succ]
    obtain ⟨x1, h_⟩ : ∃ q, q = x0.alloc (.cells vCells 60) := ⟨_, rfl⟩
    obtain ⟨b1, hg_⟩ : ∃ q, q = x0.heap.size := ⟨_, rfl⟩
    have hb_ : Below x0.heap.size x0 x1 := by rw [h_]; exact (Below.refl _ _).alloc (Nat.le_refl _) _
    have Fb1 : x1.heap[b1]? = some (.cells vCells 60 (0, 0)) := by rw [h_, hg_]; exact heap_alloc_new x0 _
    have Gb1 : w.heap.size < b1 := by rw [hg_]; exact lt_of_block F0
    have hSx1 := hSx0.next hb_
    rw [← h_, ← hg_]
    clear h_ hg_
    replace F0 := keep_blk F0 hb_
    clear hb_
    show runB _ _ _ _ 7 [4, 5, 6, 7, 8, 9, 10] _ _
    refine runB_one 4 (by kernel_rfl) (by kernel_rfl) (by rfl) (by rfl) ?_
    refine tdoes_call (f := ?_) (args := ?_) (w1 := ?_) ?_ ?_
    rotate_left 3
    focus (go_simp; refine ⟨⟨?_, ?_⟩, ?_⟩ <;> with_reducible rfl)
    refine (op_any 12 2 0 0 1 0 x1).mono ?_
    rintro e_ x2 ⟨rfl, hb_⟩
    have hSx2 := hSx1.next hb_
    refine ⟨_, rfl, hSx2, ?_⟩
    (try dsimp only [Act.put])
    try simp only [List.setIfInBounds_toArray, List.set_cons_zero, List.set_cons_succ]
    replace F0 := keep_blk F0 hb_
    replace Fb1 := keep_blk Fb1 hb_
    clear hb_
    show runB _ _ _ _ 6 [5, 6, 7, 8, 9, 10] _ _
    refine runB_two 5 6 (by kernel_rfl) (by kernel_rfl) (by rfl) (by rfl) (by rfl) (by rfl) ?_ ?_
    · refine tdoes_op (w1 := x2.alloc (.cells oCells 43)) (v := .slice (some ⟨x2.heap.size, 0, none⟩) 1 1) (exec_kop1 _ rfl rfl) ⟨hSx2.next ((Below.refl _ _).alloc (Nat.le_refl _) _), ?_⟩
      (try dsimp only [Act.put])
      try simp only [List.setIfInBounds_toArray, List.set_cons_zero, List.set_cons_succ]
      obtain ⟨x3, h_⟩ : ∃ q, q = x2.alloc (.cells oCells 43) := ⟨_, rfl⟩
      obtain ⟨b2, hg_⟩ : ∃ q, q = x2.heap.size := ⟨_, rfl⟩
      have hb_ : Below x2.heap.size x2 x3 := by rw [h_]; exact (Below.refl _ _).alloc (Nat.le_refl _) _
      have Fb2 : x3.heap[b2]? = some (.cells oCells 43 (0, 0)) := by rw [h_, hg_]; exact heap_alloc_new x2 _
      have Gb2 : w.heap.size < b2 := by rw [hg_]; exact lt_of_block F0
      have hSx3 := hSx2.next hb_
      rw [← h_, ← hg_]
      clear h_ hg_
      replace F0 := keep_blk F0 hb_
      replace Fb1 := keep_blk Fb1 hb_
      clear hb_
      show runB _ _ _ _ 5 [6, 7, 8, 9, 10] _ _
      refine runB_one 6 (by kernel_rfl) (by kernel_rfl) (by rfl) (by rfl) ?_
      refine tdoes_call (f := ?_) (args := ?_) (w1 := ?_) ?_ ?_
      rotate_left 3
      focus (go_simp; refine ⟨⟨?_, ?_⟩, ?_⟩ <;> with_reducible rfl)
      refine (lneed_any 1 1 (-1) (by decide) x3).mono ?_
      rintro e_ x4 ⟨rfl, hb_⟩
      have hSx4 := hSx3.next hb_
      refine ⟨_, rfl, hSx4, ?_⟩
      (try dsimp only [Act.put])
      try simp only [List.setIfInBounds_toArray, List.set_cons_zero, List.set_cons_succ]
      replace F0 := keep_blk F0 hb_
      replace Fb1 := keep_blk Fb1 hb_
      replace Fb2 := keep_blk Fb2 hb_
      clear hb_
      show runB _ _ _ _ 4 [7, 8, 9, 10] _ _
      refine runB_one 7 (by kernel_rfl) (by kernel_rfl) (by rfl) (by rfl) ?_
      refine tdoes_call (f := ?_) (args := ?_) (w1 := ?_) ?_ ?_
      rotate_left 3
      focus (go_simp; refine ⟨⟨?_, ?_⟩, ?_⟩ <;> with_reducible rfl)
      refine (lneed_any 2 0 1 (by decide) x4).mono ?_
      rintro e_ x5 ⟨rfl, hb_⟩
      have hSx5 := hSx4.next hb_
      refine ⟨_, rfl, hSx5, ?_⟩
      (try dsimp only [Act.put])
      try simp only [List.setIfInBounds_toArray, List.set_cons_zero, List.set_cons_succ]
      replace F0 := keep_blk F0 hb_
      replace Fb1 := keep_blk Fb1 hb_
      replace Fb2 := keep_blk Fb2 hb_
      clear hb_
      show runB _ _ _ _ 3 [8, 9, 10] _ _
      refine runB_one 8 (by kernel_rfl) (by kernel_rfl) (by rfl) (by rfl) ?_
      refine tdoes_op (w1 := x5.alloc (.cells rCells 43)) (v := .slice (some ⟨x5.heap.size, 0, none⟩) 2 2) (exec_kop2 _ _ rfl rfl rfl) ⟨hSx5.next ((Below.refl _ _).alloc (Nat.le_refl _) _), ?_⟩
      (try dsimp only [Act.put])
      try simp only [List.setIfInBounds_toArray, List.set_cons_zero, List.set_cons_succ]
      obtain ⟨x6, h_⟩ : ∃ q, q = x5.alloc (.cells rCells 43) := ⟨_, rfl⟩
      obtain ⟨b3, hg_⟩ : ∃ q, q = x5.heap.size := ⟨_, rfl⟩
      have hb_ : Below x5.heap.size x5 x6 := by rw [h_]; exact (Below.refl _ _).alloc (Nat.le_refl _) _
      have Fb3 : x6.heap[b3]? = some (.cells rCells 43 (0, 0)) := by rw [h_, hg_]; exact heap_alloc_new x5 _
      have Gb3 : w.heap.size < b3 := by rw [hg_]; exact lt_of_block F0
      have hSx6 := hSx5.next hb_
      rw [← h_, ← hg_]
      clear h_ hg_
      replace F0 := keep_blk F0 hb_
      replace Fb1 := keep_blk Fb1 hb_
      replace Fb2 := keep_blk Fb2 hb_
      clear hb_
      show runB _ _ _ _ 2 [9, 10] _ _
      refine runB_at 9 (v := ?_) (by rfl) (by rfl) (by rfl) (by kernel_rfl) (by rfl) ?_ ?_
      rotate_left
      focus (intro w_ hw_; have f0_ := hw_.v0; have f1_ := hw_.v1; have f2_ := hw_.v2; go_simp; (try with_reducible rfl); done)
      (try dsimp only [Act.put])
      show runB _ _ _ _ 1 [10] _ _
      try simp only [List.setIfInBounds_toArray, List.set_cons_zero, List.set_cons_succ]
      refine runB_one 10 (by kernel_rfl) (by kernel_rfl) (by rfl) (by rfl) ?_
      refine tdoes_skip (w1 := x6.setRow w.heap.size #[.slice (some ⟨b1, 0, none⟩) 3 3, .slice (some ⟨b2, 0, none⟩) 1 1, .slice (some ⟨b3, 0, none⟩) 2 2]) (sep_store 25 _ _ rfl w.heap.size #[.slice (some ⟨b1, 0, none⟩) 3 3, .slice (some ⟨b2, 0, none⟩) 1 1, .slice (some ⟨b3, 0, none⟩) 2 2] rfl rfl 25 #[.slice none 0 0, .slice none 0 0, .slice none 0 0] F0 (by kernel_rfl) (by rfl) (by kernel_rfl)) ⟨hSx6.store _, ?_⟩
      show runB _ _ _ _ 0 [] _ _
      refine runB_nil ?_
      (try dsimp only [Act.put])
      try simp only [List.setIfInBounds_toArray, List.set_cons_zero, List.set_cons_succ]
      go_wp2_with fail
      refine bodyPost_ret (results_cell_row (ty := 25) rfl _ _ w.heap.size 25 _ (0, 0) _ rfl (setRow_heap _ _ _ _ _ _ F0) Tryz.underlying25 rfl (by kernel_rfl)) rfl ?_
      exact ⟨b1, b2, b3, rfl, Nat.le_of_lt Gb1, Nat.le_of_lt Gb2, Nat.le_of_lt Gb3, (setRow_other _ _ _ _ (by omega)).trans Fb1, (setRow_other _ _ _ _ (by omega)).trans Fb2, (setRow_other _ _ _ _ (by omega)).trans Fb3, (hSx6.store _).below⟩
    · refine tdoes_call (f := ?_) (args := ?_) (w1 := ?_) ?_ ?_
      rotate_left 3
      focus (go_simp; refine ⟨⟨?_, ?_⟩, ?_⟩ <;> with_reducible rfl)
      refine (lneed_any 1 1 (-1) (by decide) x2).mono ?_
      rintro e_ x3 ⟨rfl, hb_⟩
      have hSx3 := hSx2.next hb_
      refine ⟨_, rfl, hSx3, ?_⟩
      (try dsimp only [Act.put])
      try simp only [List.setIfInBounds_toArray, List.set_cons_zero, List.set_cons_succ]
      replace F0 := keep_blk F0 hb_
      replace Fb1 := keep_blk Fb1 hb_
      clear hb_
      show runB _ _ _ _ 5 [5, 7, 8, 9, 10] _ _
      refine runB_two 5 7 (by kernel_rfl) (by kernel_rfl) (by rfl) (by rfl) (by rfl) (by rfl) ?_ ?_
      · refine tdoes_op (w1 := x3.alloc (.cells oCells 43)) (v := .slice (some ⟨x3.heap.size, 0, none⟩) 1 1) (exec_kop1 _ rfl rfl) ⟨hSx3.next ((Below.refl _ _).alloc (Nat.le_refl _) _), ?_⟩
        (try dsimp only [Act.put])
        try simp only [List.setIfInBounds_toArray, List.set_cons_zero, List.set_cons_succ]
        obtain ⟨x4, h_⟩ : ∃ q, q = x3.alloc (.cells oCells 43) := ⟨_, rfl⟩
        obtain ⟨b2, hg_⟩ : ∃ q, q = x3.heap.size := ⟨_, rfl⟩
        have hb_ : Below x3.heap.size x3 x4 := by rw [h_]; exact (Below.refl _ _).alloc (Nat.le_refl _) _
        have Fb2 : x4.heap[b2]? = some (.cells oCells 43 (0, 0)) := by rw [h_, hg_]; exact heap_alloc_new x3 _
        have Gb2 : w.heap.size < b2 := by rw [hg_]; exact lt_of_block F0
        have hSx4 := hSx3.next hb_
        rw [← h_, ← hg_]
        clear h_ hg_
        replace F0 := keep_blk F0 hb_
        replace Fb1 := keep_blk Fb1 hb_
        clear hb_
        show runB _ _ _ _ 4 [7, 8, 9, 10] _ _
        refine runB_one 7 (by kernel_rfl) (by kernel_rfl) (by rfl) (by rfl) ?_
        refine tdoes_call (f := ?_) (args := ?_) (w1 := ?_) ?_ ?_
        rotate_left 3
        focus (go_simp; refine ⟨⟨?_, ?_⟩, ?_⟩ <;> with_reducible rfl)
        refine (lneed_any 2 0 1 (by decide) x4).mono ?_
        rintro e_ x5 ⟨rfl, hb_⟩
        have hSx5 := hSx4.next hb_
        refine ⟨_, rfl, hSx5, ?_⟩
        (try dsimp only [Act.put])
        try simp only [List.setIfInBounds_toArray, List.set_cons_zero, List.set_cons_succ]
        replace F0 := keep_blk F0 hb_
        replace Fb1 := keep_blk Fb1 hb_
        replace Fb2 := keep_blk Fb2 hb_
        clear hb_
        show runB _ _ _ _ 3 [8, 9, 10] _ _
        refine runB_one 8 (by kernel_rfl) (by kernel_rfl) (by rfl) (by rfl) ?_
        refine tdoes_op (w1 := x5.alloc (.cells rCells 43)) (v := .slice (some ⟨x5.heap.size, 0, none⟩) 2 2) (exec_kop2 _ _ rfl rfl rfl) ⟨hSx5.next ((Below.refl _ _).alloc (Nat.le_refl _) _), ?_⟩
        (try dsimp only [Act.put])
        try simp only [List.setIfInBounds_toArray, List.set_cons_zero, List.set_cons_succ]
        obtain ⟨x6, h_⟩ : ∃ q, q = x5.alloc (.cells rCells 43) := ⟨_, rfl⟩
        obtain ⟨b3, hg_⟩ : ∃ q, q = x5.heap.size := ⟨_, rfl⟩
        have hb_ : Below x5.heap.size x5 x6 := by rw [h_]; exact (Below.refl _ _).alloc (Nat.le_refl _) _
        have Fb3 : x6.heap[b3]? = some (.cells rCells 43 (0, 0)) := by rw [h_, hg_]; exact heap_alloc_new x5 _
        have Gb3 : w.heap.size < b3 := by rw [hg_]; exact lt_of_block F0
        have hSx6 := hSx5.next hb_
        rw [← h_, ← hg_]
        clear h_ hg_
        replace F0 := keep_blk F0 hb_
        replace Fb1 := keep_blk Fb1 hb_
        replace Fb2 := keep_blk Fb2 hb_
        clear hb_
        show runB _ _ _ _ 2 [9, 10] _ _
        refine runB_at 9 (v := ?_) (by rfl) (by rfl) (by rfl) (by kernel_rfl) (by rfl) ?_ ?_
        rotate_left
        focus (intro w_ hw_; have f0_ := hw_.v0; have f1_ := hw_.v1; have f2_ := hw_.v2; go_simp; (try with_reducible rfl); done)
        (try dsimp only [Act.put])
        show runB _ _ _ _ 1 [10] _ _
        try simp only [List.setIfInBounds_toArray, List.set_cons_zero, List.set_cons_succ]
        refine runB_one 10 (by kernel_rfl) (by kernel_rfl) (by rfl) (by rfl) ?_
        refine tdoes_skip (w1 := x6.setRow w.heap.size #[.slice (some ⟨b1, 0, none⟩) 3 3, .slice (some ⟨b2, 0, none⟩) 1 1, .slice (some ⟨b3, 0, none⟩) 2 2]) (sep_store 25 _ _ rfl w.heap.size #[.slice (some ⟨b1, 0, none⟩) 3 3, .slice (some ⟨b2, 0, none⟩) 1 1, .slice (some ⟨b3, 0, none⟩) 2 2] rfl rfl 25 #[.slice none 0 0, .slice none 0 0, .slice none 0 0] F0 (by kernel_rfl) (by rfl) (by kernel_rfl)) ⟨hSx6.store _, ?_⟩
        show runB _ _ _ _ 0 [] _ _
        refine runB_nil ?_
        (try dsimp only [Act.put])
        try simp only [List.setIfInBounds_toArray, List.set_cons_zero, List.set_cons_succ]
        go_wp2_with fail
        refine bodyPost_ret (results_cell_row (ty := 25) rfl _ _ w.heap.size 25 _ (0, 0) _ rfl (setRow_heap _ _ _ _ _ _ F0) Tryz.underlying25 rfl (by kernel_rfl)) rfl ?_
        exact ⟨b1, b2, b3, rfl, Nat.le_of_lt Gb1, Nat.le_of_lt Gb2, Nat.le_of_lt Gb3, (setRow_other _ _ _ _ (by omega)).trans Fb1, (setRow_other _ _ _ _ (by omega)).trans Fb2, (setRow_other _ _ _ _ (by omega)).trans Fb3, (hSx6.store _).below⟩
      · refine tdoes_call (f := ?_) (args := ?_) (w1 := ?_) ?_ ?_
        rotate_left 3
        focus (go_simp; refine ⟨⟨?_, ?_⟩, ?_⟩ <;> with_reducible rfl)
        refine (lneed_any 2 0 1 (by decide) x3).mono ?_
        rintro e_ x4 ⟨rfl, hb_⟩
        have hSx4 := hSx3.next hb_
        refine ⟨_, rfl, hSx4, ?_⟩
        (try dsimp only [Act.put])
        try simp only [List.setIfInBounds_toArray, List.set_cons_zero, List.set_cons_succ]
        replace F0 := keep_blk F0 hb_
        replace Fb1 := keep_blk Fb1 hb_
        clear hb_
        show runB _ _ _ _ 4 [5, 8, 9, 10] _ _
        refine runB_two 5 8 (by kernel_rfl) (by kernel_rfl) (by rfl) (by rfl) (by rfl) (by rfl) ?_ ?_
        · refine tdoes_op (w1 := x4.alloc (.cells oCells 43)) (v := .slice (some ⟨x4.heap.size, 0, none⟩) 1 1) (exec_kop1 _ rfl rfl) ⟨hSx4.next ((Below.refl _ _).alloc (Nat.le_refl _) _), ?_⟩
          (try dsimp only [Act.put])
          try simp only [List.setIfInBounds_toArray, List.set_cons_zero, List.set_cons_succ]
          obtain ⟨x5, h_⟩ : ∃ q, q = x4.alloc (.cells oCells 43) := ⟨_, rfl⟩
          obtain ⟨b2, hg_⟩ : ∃ q, q = x4.heap.size := ⟨_, rfl⟩
          have hb_ : Below x4.heap.size x4 x5 := by rw [h_]; exact (Below.refl _ _).alloc (Nat.le_refl _) _
          have Fb2 : x5.heap[b2]? = some (.cells oCells 43 (0, 0)) := by rw [h_, hg_]; exact heap_alloc_new x4 _
          have Gb2 : w.heap.size < b2 := by rw [hg_]; exact lt_of_block F0
          have hSx5 := hSx4.next hb_
          rw [← h_, ← hg_]
          clear h_ hg_
          replace F0 := keep_blk F0 hb_
          replace Fb1 := keep_blk Fb1 hb_
          clear hb_
          show runB _ _ _ _ 3 [8, 9, 10] _ _
          refine runB_one 8 (by kernel_rfl) (by kernel_rfl) (by rfl) (by rfl) ?_
          refine tdoes_op (w1 := x5.alloc (.cells rCells 43)) (v := .slice (some ⟨x5.heap.size, 0, none⟩) 2 2) (exec_kop2 _ _ rfl rfl rfl) ⟨hSx5.next ((Below.refl _ _).alloc (Nat.le_refl _) _), ?_⟩
          (try dsimp only [Act.put])
          try simp only [List.setIfInBounds_toArray, List.set_cons_zero, List.set_cons_succ]
          obtain ⟨x6, h_⟩ : ∃ q, q = x5.alloc (.cells rCells 43) := ⟨_, rfl⟩
          obtain ⟨b3, hg_⟩ : ∃ q, q = x5.heap.size := ⟨_, rfl⟩
          have hb_ : Below x5.heap.size x5 x6 := by rw [h_]; exact (Below.refl _ _).alloc (Nat.le_refl _) _
          have Fb3 : x6.heap[b3]? = some (.cells rCells 43 (0, 0)) := by rw [h_, hg_]; exact heap_alloc_new x5 _
          have Gb3 : w.heap.size < b3 := by rw [hg_]; exact lt_of_block F0
          have hSx6 := hSx5.next hb_
          rw [← h_, ← hg_]
          clear h_ hg_
          replace F0 := keep_blk F0 hb_
          replace Fb1 := keep_blk Fb1 hb_
          replace Fb2 := keep_blk Fb2 hb_
          clear hb_
          show runB _ _ _ _ 2 [9, 10] _ _
          refine runB_at 9 (v := ?_) (by rfl) (by rfl) (by rfl) (by kernel_rfl) (by rfl) ?_ ?_
          rotate_left
          focus (intro w_ hw_; have f0_ := hw_.v0; have f1_ := hw_.v1; have f2_ := hw_.v2; go_simp; (try with_reducible rfl); done)
          (try dsimp only [Act.put])
          show runB _ _ _ _ 1 [10] _ _
          try simp only [List.setIfInBounds_toArray, List.set_cons_zero, List.set_cons_succ]
          refine runB_one 10 (by kernel_rfl) (by kernel_rfl) (by rfl) (by rfl) ?_
          refine tdoes_skip (w1 := x6.setRow w.heap.size #[.slice (some ⟨b1, 0, none⟩) 3 3, .slice (some ⟨b2, 0, none⟩) 1 1, .slice (some ⟨b3, 0, none⟩) 2 2]) (sep_store 25 _ _ rfl w.heap.size #[.slice (some ⟨b1, 0, none⟩) 3 3, .slice (some ⟨b2, 0, none⟩) 1 1, .slice (some ⟨b3, 0, none⟩) 2 2] rfl rfl 25 #[.slice none 0 0, .slice none 0 0, .slice none 0 0] F0 (by kernel_rfl) (by rfl) (by kernel_rfl)) ⟨hSx6.store _, ?_⟩
          show runB _ _ _ _ 0 [] _ _
          refine runB_nil ?_
          (try dsimp only [Act.put])
          try simp only [List.setIfInBounds_toArray, List.set_cons_zero, List.set_cons_succ]
          go_wp2_with fail
          refine bodyPost_ret (results_cell_row (ty := 25) rfl _ _ w.heap.size 25 _ (0, 0) _ rfl (setRow_heap _ _ _ _ _ _ F0) Tryz.underlying25 rfl (by kernel_rfl)) rfl ?_
          exact ⟨b1, b2, b3, rfl, Nat.le_of_lt Gb1, Nat.le_of_lt Gb2, Nat.le_of_lt Gb3, (setRow_other _ _ _ _ (by omega)).trans Fb1, (setRow_other _ _ _ _ (by omega)).trans Fb2, (setRow_other _ _ _ _ (by omega)).trans Fb3, (hSx6.store _).below⟩
        · refine tdoes_op (w1 := x4.alloc (.cells rCells 43)) (v := .slice (some ⟨x4.heap.size, 0, none⟩) 2 2) (exec_kop2 _ _ rfl rfl rfl) ⟨hSx4.next ((Below.refl _ _).alloc (Nat.le_refl _) _), ?_⟩
          (try dsimp only [Act.put])
          try simp only [List.setIfInBounds_toArray, List.set_cons_zero, List.set_cons_succ]
          obtain ⟨x5, h_⟩ : ∃ q, q = x4.alloc (.cells rCells 43) := ⟨_, rfl⟩
          obtain ⟨b3, hg_⟩ : ∃ q, q = x4.heap.size := ⟨_, rfl⟩
          have hb_ : Below x4.heap.size x4 x5 := by rw [h_]; exact (Below.refl _ _).alloc (Nat.le_refl _) _
          have Fb3 : x5.heap[b3]? = some (.cells rCells 43 (0, 0)) := by rw [h_, hg_]; exact heap_alloc_new x4 _
          have Gb3 : w.heap.size < b3 := by rw [hg_]; exact lt_of_block F0
          have hSx5 := hSx4.next hb_
          rw [← h_, ← hg_]
          clear h_ hg_
          replace F0 := keep_blk F0 hb_
          replace Fb1 := keep_blk Fb1 hb_
          clear hb_
          show runB _ _ _ _ 3 [5, 9, 10] _ _
          refine runB_one 5 (by kernel_rfl) (by kernel_rfl) (by rfl) (by rfl) ?_
          refine tdoes_op (w1 := x5.alloc (.cells oCells 43)) (v := .slice (some ⟨x5.heap.size, 0, none⟩) 1 1) (exec_kop1 _ rfl rfl) ⟨hSx5.next ((Below.refl _ _).alloc (Nat.le_refl _) _), ?_⟩
          (try dsimp only [Act.put])
          try simp only [List.setIfInBounds_toArray, List.set_cons_zero, List.set_cons_succ]
          obtain ⟨x6, h_⟩ : ∃ q, q = x5.alloc (.cells oCells 43) := ⟨_, rfl⟩
          obtain ⟨b2, hg_⟩ : ∃ q, q = x5.heap.size := ⟨_, rfl⟩
          have hb_ : Below x5.heap.size x5 x6 := by rw [h_]; exact (Below.refl _ _).alloc (Nat.le_refl _) _
          have Fb2 : x6.heap[b2]? = some (.cells oCells 43 (0, 0)) := by rw [h_, hg_]; exact heap_alloc_new x5 _
          have Gb2 : w.heap.size < b2 := by rw [hg_]; exact lt_of_block F0
          have hSx6 := hSx5.next hb_
          rw [← h_, ← hg_]
          clear h_ hg_
          replace F0 := keep_blk F0 hb_
          replace Fb1 := keep_blk Fb1 hb_
          replace Fb3 := keep_blk Fb3 hb_
          clear hb_
          show runB _ _ _ _ 2 [9, 10] _ _
          refine runB_at 9 (v := ?_) (by rfl) (by rfl) (by rfl) (by kernel_rfl) (by rfl) ?_ ?_
          rotate_left
          focus (intro w_ hw_; have f0_ := hw_.v0; have f1_ := hw_.v1; have f2_ := hw_.v2; go_simp; (try with_reducible rfl); done)
          (try dsimp only [Act.put])
          show runB _ _ _ _ 1 [10] _ _
          try simp only [List.setIfInBounds_toArray, List.set_cons_zero, List.set_cons_succ]
          refine runB_one 10 (by kernel_rfl) (by kernel_rfl) (by rfl) (by rfl) ?_
          refine tdoes_skip (w1 := x6.setRow w.heap.size #[.slice (some ⟨b1, 0, none⟩) 3 3, .slice (some ⟨b2, 0, none⟩) 1 1, .slice (some ⟨b3, 0, none⟩) 2 2]) (sep_store 25 _ _ rfl w.heap.size #[.slice (some ⟨b1, 0, none⟩) 3 3, .slice (some ⟨b2, 0, none⟩) 1 1, .slice (some ⟨b3, 0, none⟩) 2 2] rfl rfl 25 #[.slice none 0 0, .slice none 0 0, .slice none 0 0] F0 (by kernel_rfl) (by rfl) (by kernel_rfl)) ⟨hSx6.store _, ?_⟩
          show runB _ _ _ _ 0 [] _ _
          refine runB_nil ?_
          (try dsimp only [Act.put])
          try simp only [List.setIfInBounds_toArray, List.set_cons_zero, List.set_cons_succ]
          go_wp2_with fail
          refine bodyPost_ret (results_cell_row (ty := 25) rfl _ _ w.heap.size 25 _ (0, 0) _ rfl (setRow_heap _ _ _ _ _ _ F0) Tryz.underlying25 rfl (by kernel_rfl)) rfl ?_
          exact ⟨b1, b2, b3, rfl, Nat.le_of_lt Gb1, Nat.le_of_lt Gb2, Nat.le_of_lt Gb3, (setRow_other _ _ _ _ (by omega)).trans Fb1, (setRow_other _ _ _ _ (by omega)).trans Fb2, (setRow_other _ _ _ _ (by omega)).trans Fb3, (hSx6.store _).below⟩
  · refine tdoes_call (f := ?_) (args := ?_) (w1 := ?_) ?_ ?_
    rotate_left 3
    focus (go_simp; refine ⟨⟨?_, ?_⟩, ?_⟩ <;> with_reducible rfl)
    refine (op_any 12 2 0 0 1 0 x0).mono ?_
    rintro e_ x1 ⟨rfl, hb_⟩
    have hSx1 := hSx0.next hb_
    refine ⟨_, rfl, hSx1, ?_⟩
    (try dsimp only [Act.put])
    try simp only [List.setIfInBounds_toArray, List.set_cons_zero, List.set_cons_succ]
    replace F0 := keep_blk F0 hb_
    clear hb_
    show runB _ _ _ _ 7 [3, 5, 6, 7, 8, 9, 10] _ _
    refine runB_three 3 5 6 (by kernel_rfl) (by kernel_rfl) (by rfl) (by rfl) (by rfl) (by rfl) (by rfl) (by rfl) ?_ ?_ ?_
    · refine tdoes_op (w1 := x1.alloc (.cells vCells 60)) (v := .slice (some ⟨x1.heap.size, 0, none⟩) 3 3) (exec_vars _ _ _ rfl rfl rfl rfl) ⟨hSx1.next ((Below.refl _ _).alloc (Nat.le_refl _) _), ?_⟩
      (try dsimp only [Act.put])
      try simp only [List.setIfInBounds_toArray, List.set_cons_zero, List.set_cons_succ]
      obtain ⟨x2, h_⟩ : ∃ q, q = x1.alloc (.cells vCells 60) := ⟨_, rfl⟩
      obtain ⟨b1, hg_⟩ : ∃ q, q = x1.heap.size := ⟨_, rfl⟩
      have hb_ : Below x1.heap.size x1 x2 := by rw [h_]; exact (Below.refl _ _).alloc (Nat.le_refl _) _
      have Fb1 : x2.heap[b1]? = some (.cells vCells 60 (0, 0)) := by rw [h_, hg_]; exact heap_alloc_new x1 _
      have Gb1 : w.heap.size < b1 := by rw [hg_]; exact lt_of_block F0
      have hSx2 := hSx1.next hb_
      rw [← h_, ← hg_]
      clear h_ hg_
      replace F0 := keep_blk F0 hb_
      clear hb_
      show runB _ _ _ _ 6 [5, 6, 7, 8, 9, 10] _ _
      refine runB_two 5 6 (by kernel_rfl) (by kernel_rfl) (by rfl) (by rfl) (by rfl) (by rfl) ?_ ?_
      · refine tdoes_op (w1 := x2.alloc (.cells oCells 43)) (v := .slice (some ⟨x2.heap.size, 0, none⟩) 1 1) (exec_kop1 _ rfl rfl) ⟨hSx2.next ((Below.refl _ _).alloc (Nat.le_refl _) _), ?_⟩
        (try dsimp only [Act.put])
        try simp only [List.setIfInBounds_toArray, List.set_cons_zero, List.set_cons_succ]
        obtain ⟨x3, h_⟩ : ∃ q, q = x2.alloc (.cells oCells 43) := ⟨_, rfl⟩
        obtain ⟨b2, hg_⟩ : ∃ q, q = x2.heap.size := ⟨_, rfl⟩
        have hb_ : Below x2.heap.size x2 x3 := by rw [h_]; exact (Below.refl _ _).alloc (Nat.le_refl _) _
        have Fb2 : x3.heap[b2]? = some (.cells oCells 43 (0, 0)) := by rw [h_, hg_]; exact heap_alloc_new x2 _
        have Gb2 : w.heap.size < b2 := by rw [hg_]; exact lt_of_block F0
        have hSx3 := hSx2.next hb_
        rw [← h_, ← hg_]
        clear h_ hg_
        replace F0 := keep_blk F0 hb_
        replace Fb1 := keep_blk Fb1 hb_
        clear hb_
        show runB _ _ _ _ 5 [6, 7, 8, 9, 10] _ _
        refine runB_one 6 (by kernel_rfl) (by kernel_rfl) (by rfl) (by rfl) ?_
        refine tdoes_call (f := ?_) (args := ?_) (w1 := ?_) ?_ ?_
        rotate_left 3
        focus (go_simp; refine ⟨⟨?_, ?_⟩, ?_⟩ <;> with_reducible rfl)
        refine (lneed_any 1 1 (-1) (by decide) x3).mono ?_
        rintro e_ x4 ⟨rfl, hb_⟩
        have hSx4 := hSx3.next hb_
        refine ⟨_, rfl, hSx4, ?_⟩
        (try dsimp only [Act.put])
        try simp only [List.setIfInBounds_toArray, List.set_cons_zero, List.set_cons_succ]
        replace F0 := keep_blk F0 hb_
        replace Fb1 := keep_blk Fb1 hb_
        replace Fb2 := keep_blk Fb2 hb_
        clear hb_
        show runB _ _ _ _ 4 [7, 8, 9, 10] _ _
        refine runB_one 7 (by kernel_rfl) (by kernel_rfl) (by rfl) (by rfl) ?_
        refine tdoes_call (f := ?_) (args := ?_) (w1 := ?_) ?_ ?_
        rotate_left 3
        focus (go_simp; refine ⟨⟨?_, ?_⟩, ?_⟩ <;> with_reducible rfl)
        refine (lneed_any 2 0 1 (by decide) x4).mono ?_
        rintro e_ x5 ⟨rfl, hb_⟩
        have hSx5 := hSx4.next hb_
        refine ⟨_, rfl, hSx5, ?_⟩
        (try dsimp only [Act.put])
        try simp only [List.setIfInBounds_toArray, List.set_cons_zero, List.set_cons_succ]
        replace F0 := keep_blk F0 hb_
        replace Fb1 := keep_blk Fb1 hb_
        replace Fb2 := keep_blk Fb2 hb_
        clear hb_
        show runB _ _ _ _ 3 [8, 9, 10] _ _
        refine runB_one 8 (by kernel_rfl) (by kernel_rfl) (by rfl) (by rfl) ?_
        refine tdoes_op (w1 := x5.alloc (.cells rCells 43)) (v := .slice (some ⟨x5.heap.size, 0, none⟩) 2 2) (exec_kop2 _ _ rfl rfl rfl) ⟨hSx5.next ((Below.refl _ _).alloc (Nat.le_refl _) _), ?_⟩
        (try dsimp only [Act.put])
        try simp only [List.setIfInBounds_toArray, List.set_cons_zero, List.set_cons_succ]
        obtain ⟨x6, h_⟩ : ∃ q, q = x5.alloc (.cells rCells 43) := ⟨_, rfl⟩
        obtain ⟨b3, hg_⟩ : ∃ q, q = x5.heap.size := ⟨_, rfl⟩
        have hb_ : Below x5.heap.size x5 x6 := by rw [h_]; exact (Below.refl _ _).alloc (Nat.le_refl _) _
        have Fb3 : x6.heap[b3]? = some (.cells rCells 43 (0, 0)) := by rw [h_, hg_]; exact heap_alloc_new x5 _
        have Gb3 : w.heap.size < b3 := by rw [hg_]; exact lt_of_block F0
        have hSx6 := hSx5.next hb_
        rw [← h_, ← hg_]
        clear h_ hg_
        replace F0 := keep_blk F0 hb_
        replace Fb1 := keep_blk Fb1 hb_
        replace Fb2 := keep_blk Fb2 hb_
        clear hb_
        show runB _ _ _ _ 2 [9, 10] _ _
        refine runB_at 9 (v := ?_) (by rfl) (by rfl) (by rfl) (by kernel_rfl) (by rfl) ?_ ?_
        rotate_left
        focus (intro w_ hw_; have f0_ := hw_.v0; have f1_ := hw_.v1; have f2_ := hw_.v2; go_simp; (try with_reducible rfl); done)
        (try dsimp only [Act.put])
        show runB _ _ _ _ 1 [10] _ _
        try simp only [List.setIfInBounds_toArray, List.set_cons_zero, List.set_cons_succ]
        refine runB_one 10 (by kernel_rfl) (by kernel_rfl) (by rfl) (by rfl) ?_
        refine tdoes_skip (w1 := x6.setRow w.heap.size #[.slice (some ⟨b1, 0, none⟩) 3 3, .slice (some ⟨b2, 0, none⟩) 1 1, .slice (some ⟨b3, 0, none⟩) 2 2]) (sep_store 25 _ _ rfl w.heap.size #[.slice (some ⟨b1, 0, none⟩) 3 3, .slice (some ⟨b2, 0, none⟩) 1 1, .slice (some ⟨b3, 0, none⟩) 2 2] rfl rfl 25 #[.slice none 0 0, .slice none 0 0, .slice none 0 0] F0 (by kernel_rfl) (by rfl) (by kernel_rfl)) ⟨hSx6.store _, ?_⟩
        show runB _ _ _ _ 0 [] _ _
        refine runB_nil ?_
        (try dsimp only [Act.put])
        try simp only [List.setIfInBounds_toArray, List.set_cons_zero, List.set_cons_succ]
        go_wp2_with fail
        refine bodyPost_ret (results_cell_row (ty := 25) rfl _ _ w.heap.size 25 _ (0, 0) _ rfl (setRow_heap _ _ _ _ _ _ F0) Tryz.underlying25 rfl (by kernel_rfl)) rfl ?_
        exact ⟨b1, b2, b3, rfl, Nat.le_of_lt Gb1, Nat.le_of_lt Gb2, Nat.le_of_lt Gb3, (setRow_other _ _ _ _ (by omega)).trans Fb1, (setRow_other _ _ _ _ (by omega)).trans Fb2, (setRow_other _ _ _ _ (by omega)).trans Fb3, (hSx6.store _).below⟩
      · refine tdoes_call (f := ?_) (args := ?_) (w1 := ?_) ?_ ?_
        rotate_left 3
        focus (go_simp; refine ⟨⟨?_, ?_⟩, ?_⟩ <;> with_reducible rfl)
        refine (lneed_any 1 1 (-1) (by decide) x2).mono ?_
        rintro e_ x3 ⟨rfl, hb_⟩
        have hSx3 := hSx2.next hb_
        refine ⟨_, rfl, hSx3, ?_⟩
        (try dsimp only [Act.put])
        try simp only [List.setIfInBounds_toArray, List.set_cons_zero, List.set_cons_succ]
        replace F0 := keep_blk F0 hb_
        replace Fb1 := keep_blk Fb1 hb_
        clear hb_
        show runB _ _ _ _ 5 [5, 7, 8, 9, 10] _ _
        refine runB_two 5 7 (by kernel_rfl) (by kernel_rfl) (by rfl) (by rfl) (by rfl) (by rfl) ?_ ?_
        · refine tdoes_op (w1 := x3.alloc (.cells oCells 43)) (v := .slice (some ⟨x3.heap.size, 0, none⟩) 1 1) (exec_kop1 _ rfl rfl) ⟨hSx3.next ((Below.refl _ _).alloc (Nat.le_refl _) _), ?_⟩
          (try dsimp only [Act.put])
          try simp only [List.setIfInBounds_toArray, List.set_cons_zero, List.set_cons_succ]
          obtain ⟨x4, h_⟩ : ∃ q, q = x3.alloc (.cells oCells 43) := ⟨_, rfl⟩
          obtain ⟨b2, hg_⟩ : ∃ q, q = x3.heap.size := ⟨_, rfl⟩
          have hb_ : Below x3.heap.size x3 x4 := by rw [h_]; exact (Below.refl _ _).alloc (Nat.le_refl _) _
          have Fb2 : x4.heap[b2]? = some (.cells oCells 43 (0, 0)) := by rw [h_, hg_]; exact heap_alloc_new x3 _
          have Gb2 : w.heap.size < b2 := by rw [hg_]; exact lt_of_block F0
          have hSx4 := hSx3.next hb_
          rw [← h_, ← hg_]
          clear h_ hg_
          replace F0 := keep_blk F0 hb_
          replace Fb1 := keep_blk Fb1 hb_
          clear hb_
          show runB _ _ _ _ 4 [7, 8, 9, 10] _ _
          refine runB_one 7 (by kernel_rfl) (by kernel_rfl) (by rfl) (by rfl) ?_
          refine tdoes_call (f := ?_) (args := ?_) (w1 := ?_) ?_ ?_
          rotate_left 3
          focus (go_simp; refine ⟨⟨?_, ?_⟩, ?_⟩ <;> with_reducible rfl)
          refine (lneed_any 2 0 1 (by decide) x4).mono ?_
          rintro e_ x5 ⟨rfl, hb_⟩
          have hSx5 := hSx4.next hb_
          refine ⟨_, rfl, hSx5, ?_⟩
          (try dsimp only [Act.put])
          try simp only [List.setIfInBounds_toArray, List.set_cons_zero, List.set_cons_succ]
          replace F0 := keep_blk F0 hb_
          replace Fb1 := keep_blk Fb1 hb_
          replace Fb2 := keep_blk Fb2 hb_
          clear hb_
          show runB _ _ _ _ 3 [8, 9, 10] _ _
          refine runB_one 8 (by kernel_rfl) (by kernel_rfl) (by rfl) (by rfl) ?_
          refine tdoes_op (w1 := x5.alloc (.cells rCells 43)) (v := .slice (some ⟨x5.heap.size, 0, none⟩) 2 2) (exec_kop2 _ _ rfl rfl rfl) ⟨hSx5.next ((Below.refl _ _).alloc (Nat.le_refl _) _), ?_⟩
          (try dsimp only [Act.put])
          try simp only [List.setIfInBounds_toArray, List.set_cons_zero, List.set_cons_succ]
          obtain ⟨x6, h_⟩ : ∃ q, q = x5.alloc (.cells rCells 43) := ⟨_, rfl⟩
          obtain ⟨b3, hg_⟩ : ∃ q, q = x5.heap.size := ⟨_, rfl⟩
          have hb_ : Below x5.heap.size x5 x6 := by rw [h_]; exact (Below.refl _ _).alloc (Nat.le_refl _) _
          have Fb3 : x6.heap[b3]? = some (.cells rCells 43 (0, 0)) := by rw [h_, hg_]; exact heap_alloc_new x5 _
          have Gb3 : w.heap.size < b3 := by rw [hg_]; exact lt_of_block F0
          have hSx6 := hSx5.next hb_
          rw [← h_, ← hg_]
          clear h_ hg_
          replace F0 := keep_blk F0 hb_
          replace Fb1 := keep_blk Fb1 hb_
          replace Fb2 := keep_blk Fb2 hb_
          clear hb_
          show runB _ _ _ _ 2 [9, 10] _ _
          refine runB_at 9 (v := ?_) (by rfl) (by rfl) (by rfl) (by kernel_rfl) (by rfl) ?_ ?_
          rotate_left
          focus (intro w_ hw_; have f0_ := hw_.v0; have f1_ := hw_.v1; have f2_ := hw_.v2; go_simp; (try with_reducible rfl); done)
          (try dsimp only [Act.put])
          show runB _ _ _ _ 1 [10] _ _
          try simp only [List.setIfInBounds_toArray, List.set_cons_zero, List.set_cons_succ]
          refine runB_one 10 (by kernel_rfl) (by kernel_rfl) (by rfl) (by rfl) ?_
          refine tdoes_skip (w1 := x6.setRow w.heap.size #[.slice (some ⟨b1, 0, none⟩) 3 3, .slice (some ⟨b2, 0, none⟩) 1 1, .slice (some ⟨b3, 0, none⟩) 2 2]) (sep_store 25 _ _ rfl w.heap.size #[.slice (some ⟨b1, 0, none⟩) 3 3, .slice (some ⟨b2, 0, none⟩) 1 1, .slice (some ⟨b3, 0, none⟩) 2 2] rfl rfl 25 #[.slice none 0 0, .slice none 0 0, .slice none 0 0] F0 (by kernel_rfl) (by rfl) (by kernel_rfl)) ⟨hSx6.store _, ?_⟩
          show runB _ _ _ _ 0 [] _ _
          refine runB_nil ?_
          (try dsimp only [Act.put])
          try simp only [List.setIfInBounds_toArray, List.set_cons_zero, List.set_cons_succ]
          go_wp2_with fail
          refine bodyPost_ret (results_cell_row (ty := 25) rfl _ _ w.heap.size 25 _ (0, 0) _ rfl (setRow_heap _ _ _ _ _ _ F0) Tryz.underlying25 rfl (by kernel_rfl)) rfl ?_
          exact ⟨b1, b2, b3, rfl, Nat.le_of_lt Gb1, Nat.le_of_lt Gb2, Nat.le_of_lt Gb3, (setRow_other _ _ _ _ (by omega)).trans Fb1, (setRow_other _ _ _ _ (by omega)).trans Fb2, (setRow_other _ _ _ _ (by omega)).trans Fb3, (hSx6.store _).below⟩
        · refine tdoes_call (f := ?_) (args := ?_) (w1 := ?_) ?_ ?_
          rotate_left 3
          focus (go_simp; refine ⟨⟨?_, ?_⟩, ?_⟩ <;> with_reducible rfl)
          refine (lneed_any 2 0 1 (by decide) x3).mono ?_
          rintro e_ x4 ⟨rfl, hb_⟩
          have hSx4 := hSx3.next hb_
          refine ⟨_, rfl, hSx4, ?_⟩
          (try dsimp only [Act.put])
          try simp only [List.setIfInBounds_toArray, List.set_cons_zero, List.set_cons_succ]
          replace F0 := keep_blk F0 hb_
          replace Fb1 := keep_blk Fb1 hb_
          clear hb_
          show runB _ _ _ _ 4 [5, 8, 9, 10] _ _
          refine runB_two 5 8 (by kernel_rfl) (by kernel_rfl) (by rfl) (by rfl) (by rfl) (by rfl) ?_ ?_
          · refine tdoes_op (w1 := x4.alloc (.cells oCells 43)) (v := .slice (some ⟨x4.heap.size, 0, none⟩) 1 1) (exec_kop1 _ rfl rfl) ⟨hSx4.next ((Below.refl _ _).alloc (Nat.le_refl _) _), ?_⟩
            (try dsimp only [Act.put])
            try simp only [List.setIfInBounds_toArray, List.set_cons_zero, List.set_cons_succ]
            obtain ⟨x5, h_⟩ : ∃ q, q = x4.alloc (.cells oCells 43) := ⟨_, rfl⟩
            obtain ⟨b2, hg_⟩ : ∃ q, q = x4.heap.size := ⟨_, rfl⟩
            have hb_ : Below x4.heap.size x4 x5 := by rw [h_]; exact (Below.refl _ _).alloc (Nat.le_refl _) _
            have Fb2 : x5.heap[b2]? = some (.cells oCells 43 (0, 0)) := by rw [h_, hg_]; exact heap_alloc_new x4 _
            have Gb2 : w.heap.size < b2 := by rw [hg_]; exact lt_of_block F0
            have hSx5 := hSx4.next hb_
            rw [← h_, ← hg_]
            clear h_ hg_
            replace F0 := keep_blk F0 hb_
            replace Fb1 := keep_blk Fb1 hb_
            clear hb_
            show runB _ _ _ _ 3 [8, 9, 10] _ _
            refine runB_one 8 (by kernel_rfl) (by kernel_rfl) (by rfl) (by rfl) ?_
            refine tdoes_op (w1 := x5.alloc (.cells rCells 43)) (v := .slice (some ⟨x5.heap.size, 0, none⟩) 2 2) (exec_kop2 _ _ rfl rfl rfl) ⟨hSx5.next ((Below.refl _ _).alloc (Nat.le_refl _) _), ?_⟩
            (try dsimp only [Act.put])
            try simp only [List.setIfInBounds_toArray, List.set_cons_zero, List.set_cons_succ]
            obtain ⟨x6, h_⟩ : ∃ q, q = x5.alloc (.cells rCells 43) := ⟨_, rfl⟩
            obtain ⟨b3, hg_⟩ : ∃ q, q = x5.heap.size := ⟨_, rfl⟩
            have hb_ : Below x5.heap.size x5 x6 := by rw [h_]; exact (Below.refl _ _).alloc (Nat.le_refl _) _
            have Fb3 : x6.heap[b3]? = some (.cells rCells 43 (0, 0)) := by rw [h_, hg_]; exact heap_alloc_new x5 _
            have Gb3 : w.heap.size < b3 := by rw [hg_]; exact lt_of_block F0
            have hSx6 := hSx5.next hb_
            rw [← h_, ← hg_]
            clear h_ hg_
            replace F0 := keep_blk F0 hb_
            replace Fb1 := keep_blk Fb1 hb_
            replace Fb2 := keep_blk Fb2 hb_
            clear hb_
            show runB _ _ _ _ 2 [9, 10] _ _
            refine runB_at 9 (v := ?_) (by rfl) (by rfl) (by rfl) (by kernel_rfl) (by rfl) ?_ ?_
            rotate_left
            focus (intro w_ hw_; have f0_ := hw_.v0; have f1_ := hw_.v1; have f2_ := hw_.v2; go_simp; (try with_reducible rfl); done)
            (try dsimp only [Act.put])
            show runB _ _ _ _ 1 [10] _ _
            try simp only [List.setIfInBounds_toArray, List.set_cons_zero, List.set_cons_succ]
            refine runB_one 10 (by kernel_rfl) (by kernel_rfl) (by rfl) (by rfl) ?_
            refine tdoes_skip (w1 := x6.setRow w.heap.size #[.slice (some ⟨b1, 0, none⟩) 3 3, .slice (some ⟨b2, 0, none⟩) 1 1, .slice (some ⟨b3, 0, none⟩) 2 2]) (sep_store 25 _ _ rfl w.heap.size #[.slice (some ⟨b1, 0, none⟩) 3 3, .slice (some ⟨b2, 0, none⟩) 1 1, .slice (some ⟨b3, 0, none⟩) 2 2] rfl rfl 25 #[.slice none 0 0, .slice none 0 0, .slice none 0 0] F0 (by kernel_rfl) (by rfl) (by kernel_rfl)) ⟨hSx6.store _, ?_⟩
            show runB _ _ _ _ 0 [] _ _
            refine runB_nil ?_
            (try dsimp only [Act.put])
            try simp only [List.setIfInBounds_toArray, List.set_cons_zero, List.set_cons_succ]
            go_wp2_with fail
            refine bodyPost_ret (results_cell_row (ty := 25) rfl _ _ w.heap.size 25 _ (0, 0) _ rfl (setRow_heap _ _ _ _ _ _ F0) Tryz.underlying25 rfl (by kernel_rfl)) rfl ?_
            exact ⟨b1, b2, b3, rfl, Nat.le_of_lt Gb1, Nat.le_of_lt Gb2, Nat.le_of_lt Gb3, (setRow_other _ _ _ _ (by omega)).trans Fb1, (setRow_other _ _ _ _ (by omega)).trans Fb2, (setRow_other _ _ _ _ (by omega)).trans Fb3, (hSx6.store _).below⟩
          · refine tdoes_op (w1 := x4.alloc (.cells rCells 43)) (v := .slice (some ⟨x4.heap.size, 0, none⟩) 2 2) (exec_kop2 _ _ rfl rfl rfl) ⟨hSx4.next ((Below.refl _ _).alloc (Nat.le_refl _) _), ?_⟩
            (try dsimp only [Act.put])
            try simp only [List.setIfInBounds_toArray, List.set_cons_zero, List.set_cons_succ]
            obtain ⟨x5, h_⟩ : ∃ q, q = x4.alloc (.cells rCells 43) := ⟨_, rfl⟩
            obtain ⟨b3, hg_⟩ : ∃ q, q = x4.heap.size := ⟨_, rfl⟩
            have hb_ : Below x4.heap.size x4 x5 := by rw [h_]; exact (Below.refl _ _).alloc (Nat.le_refl _) _
            have Fb3 : x5.heap[b3]? = some (.cells rCells 43 (0, 0)) := by rw [h_, hg_]; exact heap_alloc_new x4 _
            have Gb3 : w.heap.size < b3 := by rw [hg_]; exact lt_of_block F0
            have hSx5 := hSx4.next hb_
            rw [← h_, ← hg_]
            clear h_ hg_
            replace F0 := keep_blk F0 hb_
            replace Fb1 := keep_blk Fb1 hb_
            clear hb_
            show runB _ _ _ _ 3 [5, 9, 10] _ _
            refine runB_one 5 (by kernel_rfl) (by kernel_rfl) (by rfl) (by rfl) ?_
            refine tdoes_op (w1 := x5.alloc (.cells oCells 43)) (v := .slice (some ⟨x5.heap.size, 0, none⟩) 1 1) (exec_kop1 _ rfl rfl) ⟨hSx5.next ((Below.refl _ _).alloc (Nat.le_refl _) _), ?_⟩
            (try dsimp only [Act.put])
            try simp only [List.setIfInBounds_toArray, List.set_cons_zero, List.set_cons_succ]
            obtain ⟨x6, h_⟩ : ∃ q, q = x5.alloc (.cells oCells 43) := ⟨_, rfl⟩
            obtain ⟨b2, hg_⟩ : ∃ q, q = x5.heap.size := ⟨_, rfl⟩
            have hb_ : Below x5.heap.size x5 x6 := by rw [h_]; exact (Below.refl _ _).alloc (Nat.le_refl _) _
            have Fb2 : x6.heap[b2]? = some (.cells oCells 43 (0, 0)) := by rw [h_, hg_]; exact heap_alloc_new x5 _
            have Gb2 : w.heap.size < b2 := by rw [hg_]; exact lt_of_block F0
            have hSx6 := hSx5.next hb_
            rw [← h_, ← hg_]
            clear h_ hg_
            replace F0 := keep_blk F0 hb_
            replace Fb1 := keep_blk Fb1 hb_
            replace Fb3 := keep_blk Fb3 hb_
            clear hb_
            show runB _ _ _ _ 2 [9, 10] _ _
            refine runB_at 9 (v := ?_) (by rfl) (by rfl) (by rfl) (by kernel_rfl) (by rfl) ?_ ?_
            rotate_left
            focus (intro w_ hw_; have f0_ := hw_.v0; have f1_ := hw_.v1; have f2_ := hw_.v2; go_simp; (try with_reducible rfl); done)
            (try dsimp only [Act.put])
            show runB _ _ _ _ 1 [10] _ _
            try simp only [List.setIfInBounds_toArray, List.set_cons_zero, List.set_cons_succ]
            refine runB_one 10 (by kernel_rfl) (by kernel_rfl) (by rfl) (by rfl) ?_
            refine tdoes_skip (w1 := x6.setRow w.heap.size #[.slice (some ⟨b1, 0, none⟩) 3 3, .slice (some ⟨b2, 0, none⟩) 1 1, .slice (some ⟨b3, 0, none⟩) 2 2]) (sep_store 25 _ _ rfl w.heap.size #[.slice (some ⟨b1, 0, none⟩) 3 3, .slice (some ⟨b2, 0, none⟩) 1 1, .slice (some ⟨b3, 0, none⟩) 2 2] rfl rfl 25 #[.slice none 0 0, .slice none 0 0, .slice none 0 0] F0 (by kernel_rfl) (by rfl) (by kernel_rfl)) ⟨hSx6.store _, ?_⟩
            show runB _ _ _ _ 0 [] _ _
            refine runB_nil ?_
            (try dsimp only [Act.put])
            try simp only [List.setIfInBounds_toArray, List.set_cons_zero, List.set_cons_succ]
            go_wp2_with fail
            refine bodyPost_ret (results_cell_row (ty := 25) rfl _ _ w.heap.size 25 _ (0, 0) _ rfl (setRow_heap _ _ _ _ _ _ F0) Tryz.underlying25 rfl (by kernel_rfl)) rfl ?_
            exact ⟨b1, b2, b3, rfl, Nat.le_of_lt Gb1, Nat.le_of_lt Gb2, Nat.le_of_lt Gb3, (setRow_other _ _ _ _ (by omega)).trans Fb1, (setRow_other _ _ _ _ (by omega)).trans Fb2, (setRow_other _ _ _ _ (by omega)).trans Fb3, (hSx6.store _).below⟩
    · refine tdoes_op (w1 := x1.alloc (.cells oCells 43)) (v := .slice (some ⟨x1.heap.size, 0, none⟩) 1 1) (exec_kop1 _ rfl rfl) ⟨hSx1.next ((Below.refl _ _).alloc (Nat.le_refl _) _), ?_⟩
      (try dsimp only [Act.put])
      try simp only [List.setIfInBounds_toArray, List.set_cons_zero, List.set_cons_succ]
      obtain ⟨x2, h_⟩ : ∃ q, q = x1.alloc (.cells oCells 43) := ⟨_, rfl⟩
      obtain ⟨b2, hg_⟩ : ∃ q, q = x1.heap.size := ⟨_, rfl⟩
      have hb_ : Below x1.heap.size x1 x2 := by rw [h_]; exact (Below.refl _ _).alloc (Nat.le_refl _) _
      have Fb2 : x2.heap[b2]? = some (.cells oCells 43 (0, 0)) := by rw [h_, hg_]; exact heap_alloc_new x1 _
      have Gb2 : w.heap.size < b2 := by rw [hg_]; exact lt_of_block F0
      have hSx2 := hSx1.next hb_
      rw [← h_, ← hg_]
      clear h_ hg_
      replace F0 := keep_blk F0 hb_
      clear hb_
      show runB _ _ _ _ 6 [3, 6, 7, 8, 9, 10] _ _
      refine runB_two 3 6 (by kernel_rfl) (by kernel_rfl) (by rfl) (by rfl) (by rfl) (by rfl) ?_ ?_
      · refine tdoes_op (w1 := x2.alloc (.cells vCells 60)) (v := .slice (some ⟨x2.heap.size, 0, none⟩) 3 3) (exec_vars _ _ _ rfl rfl rfl rfl) ⟨hSx2.next ((Below.refl _ _).alloc (Nat.le_refl _) _), ?_⟩
        (try dsimp only [Act.put])
        try simp only [List.setIfInBounds_toArray, List.set_cons_zero, List.set_cons_succ]
        obtain ⟨x3, h_⟩ : ∃ q, q = x2.alloc (.cells vCells 60) := ⟨_, rfl⟩
        obtain ⟨b1, hg_⟩ : ∃ q, q = x2.heap.size := ⟨_, rfl⟩
        have hb_ : Below x2.heap.size x2 x3 := by rw [h_]; exact (Below.refl _ _).alloc (Nat.le_refl _) _
        have Fb1 : x3.heap[b1]? = some (.cells vCells 60 (0, 0)) := by rw [h_, hg_]; exact heap_alloc_new x2 _
        have Gb1 : w.heap.size < b1 := by rw [hg_]; exact lt_of_block F0
        have hSx3 := hSx2.next hb_
        rw [← h_, ← hg_]
        clear h_ hg_
        replace F0 := keep_blk F0 hb_
        replace Fb2 := keep_blk Fb2 hb_
        clear hb_
        show runB _ _ _ _ 5 [6, 7, 8, 9, 10] _ _
        refine runB_one 6 (by kernel_rfl) (by kernel_rfl) (by rfl) (by rfl) ?_
        refine tdoes_call (f := ?_) (args := ?_) (w1 := ?_) ?_ ?_
        rotate_left 3
        focus (go_simp; refine ⟨⟨?_, ?_⟩, ?_⟩ <;> with_reducible rfl)
        refine (lneed_any 1 1 (-1) (by decide) x3).mono ?_
        rintro e_ x4 ⟨rfl, hb_⟩
        have hSx4 := hSx3.next hb_
        refine ⟨_, rfl, hSx4, ?_⟩
        (try dsimp only [Act.put])
        try simp only [List.setIfInBounds_toArray, List.set_cons_zero, List.set_cons_succ]
        replace F0 := keep_blk F0 hb_
        replace Fb2 := keep_blk Fb2 hb_
        replace Fb1 := keep_blk Fb1 hb_
        clear hb_
        show runB _ _ _ _ 4 [7, 8, 9, 10] _ _
        refine runB_one 7 (by kernel_rfl) (by kernel_rfl) (by rfl) (by rfl) ?_
        refine tdoes_call (f := ?_) (args := ?_) (w1 := ?_) ?_ ?_
        rotate_left 3
        focus (go_simp; refine ⟨⟨?_, ?_⟩, ?_⟩ <;> with_reducible rfl)
        refine (lneed_any 2 0 1 (by decide) x4).mono ?_
        rintro e_ x5 ⟨rfl, hb_⟩
        have hSx5 := hSx4.next hb_
        refine ⟨_, rfl, hSx5, ?_⟩
        (try dsimp only [Act.put])
        try simp only [List.setIfInBounds_toArray, List.set_cons_zero, List.set_cons_succ]
        replace F0 := keep_blk F0 hb_
        replace Fb2 := keep_blk Fb2 hb_
        replace Fb1 := keep_blk Fb1 hb_
        clear hb_
        show runB _ _ _ _ 3 [8, 9, 10] _ _
        refine runB_one 8 (by kernel_rfl) (by kernel_rfl) (by rfl) (by rfl) ?_
        refine tdoes_op (w1 := x5.alloc (.cells rCells 43)) (v := .slice (some ⟨x5.heap.size, 0, none⟩) 2 2) (exec_kop2 _ _ rfl rfl rfl) ⟨hSx5.next ((Below.refl _ _).alloc (Nat.le_refl _) _), ?_⟩
        (try dsimp only [Act.put])
        try simp only [List.setIfInBounds_toArray, List.set_cons_zero, List.set_cons_succ]
        obtain ⟨x6, h_⟩ : ∃ q, q = x5.alloc (.cells rCells 43) := ⟨_, rfl⟩
        obtain ⟨b3, hg_⟩ : ∃ q, q = x5.heap.size := ⟨_, rfl⟩
        have hb_ : Below x5.heap.size x5 x6 := by rw [h_]; exact (Below.refl _ _).alloc (Nat.le_refl _) _
        have Fb3 : x6.heap[b3]? = some (.cells rCells 43 (0, 0)) := by rw [h_, hg_]; exact heap_alloc_new x5 _
        have Gb3 : w.heap.size < b3 := by rw [hg_]; exact lt_of_block F0
        have hSx6 := hSx5.next hb_
        rw [← h_, ← hg_]
        clear h_ hg_
        replace F0 := keep_blk F0 hb_
        replace Fb2 := keep_blk Fb2 hb_
        replace Fb1 := keep_blk Fb1 hb_
        clear hb_
        show runB _ _ _ _ 2 [9, 10] _ _
        refine runB_at 9 (v := ?_) (by rfl) (by rfl) (by rfl) (by kernel_rfl) (by rfl) ?_ ?_
        rotate_left
        focus (intro w_ hw_; have f0_ := hw_.v0; have f1_ := hw_.v1; have f2_ := hw_.v2; go_simp; (try with_reducible rfl); done)
        (try dsimp only [Act.put])
        show runB _ _ _ _ 1 [10] _ _
        try simp only [List.setIfInBounds_toArray, List.set_cons_zero, List.set_cons_succ]
        refine runB_one 10 (by kernel_rfl) (by kernel_rfl) (by rfl) (by rfl) ?_
        refine tdoes_skip (w1 := x6.setRow w.heap.size #[.slice (some ⟨b1, 0, none⟩) 3 3, .slice (some ⟨b2, 0, none⟩) 1 1, .slice (some ⟨b3, 0, none⟩) 2 2]) (sep_store 25 _ _ rfl w.heap.size #[.slice (some ⟨b1, 0, none⟩) 3 3, .slice (some ⟨b2, 0, none⟩) 1 1, .slice (some ⟨b3, 0, none⟩) 2 2] rfl rfl 25 #[.slice none 0 0, .slice none 0 0, .slice none 0 0] F0 (by kernel_rfl) (by rfl) (by kernel_rfl)) ⟨hSx6.store _, ?_⟩
        show runB _ _ _ _ 0 [] _ _
        refine runB_nil ?_
        (try dsimp only [Act.put])
        try simp only [List.setIfInBounds_toArray, List.set_cons_zero, List.set_cons_succ]
        go_wp2_with fail
        refine bodyPost_ret (results_cell_row (ty := 25) rfl _ _ w.heap.size 25 _ (0, 0) _ rfl (setRow_heap _ _ _ _ _ _ F0) Tryz.underlying25 rfl (by kernel_rfl)) rfl ?_
        exact ⟨b1, b2, b3, rfl, Nat.le_of_lt Gb1, Nat.le_of_lt Gb2, Nat.le_of_lt Gb3, (setRow_other _ _ _ _ (by omega)).trans Fb1, (setRow_other _ _ _ _ (by omega)).trans Fb2, (setRow_other _ _ _ _ (by omega)).trans Fb3, (hSx6.store _).below⟩
      · refine tdoes_call (f := ?_) (args := ?_) (w1 := ?_) ?_ ?_
        rotate_left 3
        focus (go_simp; refine ⟨⟨?_, ?_⟩, ?_⟩ <;> with_reducible rfl)
        refine (lneed_any 1 1 (-1) (by decide) x2).mono ?_
        rintro e_ x3 ⟨rfl, hb_⟩
        have hSx3 := hSx2.next hb_
        refine ⟨_, rfl, hSx3, ?_⟩
        (try dsimp only [Act.put])
        try simp only [List.setIfInBounds_toArray, List.set_cons_zero, List.set_cons_succ]
        replace F0 := keep_blk F0 hb_
        replace Fb2 := keep_blk Fb2 hb_
        clear hb_
        show runB _ _ _ _ 5 [3, 7, 8, 9, 10] _ _
        refine runB_two 3 7 (by kernel_rfl) (by kernel_rfl) (by rfl) (by rfl) (by rfl) (by rfl) ?_ ?_
        · refine tdoes_op (w1 := x3.alloc (.cells vCells 60)) (v := .slice (some ⟨x3.heap.size, 0, none⟩) 3 3) (exec_vars _ _ _ rfl rfl rfl rfl) ⟨hSx3.next ((Below.refl _ _).alloc (Nat.le_refl _) _), ?_⟩
          (try dsimp only [Act.put])
          try simp only [List.setIfInBounds_toArray, List.set_cons_zero, List.set_cons_succ]
          obtain ⟨x4, h_⟩ : ∃ q, q = x3.alloc (.cells vCells 60) := ⟨_, rfl⟩
          obtain ⟨b1, hg_⟩ : ∃ q, q = x3.heap.size := ⟨_, rfl⟩
          have hb_ : Below x3.heap.size x3 x4 := by rw [h_]; exact (Below.refl _ _).alloc (Nat.le_refl _) _
          have Fb1 : x4.heap[b1]? = some (.cells vCells 60 (0, 0)) := by rw [h_, hg_]; exact heap_alloc_new x3 _
          have Gb1 : w.heap.size < b1 := by rw [hg_]; exact lt_of_block F0
          have hSx4 := hSx3.next hb_
          rw [← h_, ← hg_]
          clear h_ hg_
          replace F0 := keep_blk F0 hb_
          replace Fb2 := keep_blk Fb2 hb_
          clear hb_
          show runB _ _ _ _ 4 [7, 8, 9, 10] _ _
          refine runB_one 7 (by kernel_rfl) (by kernel_rfl) (by rfl) (by rfl) ?_
          refine tdoes_call (f := ?_) (args := ?_) (w1 := ?_) ?_ ?_
          rotate_left 3
          focus (go_simp; refine ⟨⟨?_, ?_⟩, ?_⟩ <;> with_reducible rfl)
          refine (lneed_any 2 0 1 (by decide) x4).mono ?_
          rintro e_ x5 ⟨rfl, hb_⟩
          have hSx5 := hSx4.next hb_
          refine ⟨_, rfl, hSx5, ?_⟩
          (try dsimp only [Act.put])
          try simp only [List.setIfInBounds_toArray, List.set_cons_zero, List.set_cons_succ]
          replace F0 := keep_blk F0 hb_
          replace Fb2 := keep_blk Fb2 hb_
          replace Fb1 := keep_blk Fb1 hb_
          clear hb_
          show runB _ _ _ _ 3 [8, 9, 10] _ _
          refine runB_one 8 (by kernel_rfl) (by kernel_rfl) (by rfl) (by rfl) ?_
          refine tdoes_op (w1 := x5.alloc (.cells rCells 43)) (v := .slice (some ⟨x5.heap.size, 0, none⟩) 2 2) (exec_kop2 _ _ rfl rfl rfl) ⟨hSx5.next ((Below.refl _ _).alloc (Nat.le_refl _) _), ?_⟩
          (try dsimp only [Act.put])
          try simp only [List.setIfInBounds_toArray, List.set_cons_zero, List.set_cons_succ]
          obtain ⟨x6, h_⟩ : ∃ q, q = x5.alloc (.cells rCells 43) := ⟨_, rfl⟩
          obtain ⟨b3, hg_⟩ : ∃ q, q = x5.heap.size := ⟨_, rfl⟩
          have hb_ : Below x5.heap.size x5 x6 := by rw [h_]; exact (Below.refl _ _).alloc (Nat.le_refl _) _
          have Fb3 : x6.heap[b3]? = some (.cells rCells 43 (0, 0)) := by rw [h_, hg_]; exact heap_alloc_new x5 _
          have Gb3 : w.heap.size < b3 := by rw [hg_]; exact lt_of_block F0
          have hSx6 := hSx5.next hb_
          rw [← h_, ← hg_]
          clear h_ hg_
          replace F0 := keep_blk F0 hb_
          replace Fb2 := keep_blk Fb2 hb_
          replace Fb1 := keep_blk Fb1 hb_
          clear hb_
          show runB _ _ _ _ 2 [9, 10] _ _
          refine runB_at 9 (v := ?_) (by rfl) (by rfl) (by rfl) (by kernel_rfl) (by rfl) ?_ ?_
          rotate_left
          focus (intro w_ hw_; have f0_ := hw_.v0; have f1_ := hw_.v1; have f2_ := hw_.v2; go_simp; (try with_reducible rfl); done)
          (try dsimp only [Act.put])
          show runB _ _ _ _ 1 [10] _ _
          try simp only [List.setIfInBounds_toArray, List.set_cons_zero, List.set_cons_succ]
          refine runB_one 10 (by kernel_rfl) (by kernel_rfl) (by rfl) (by rfl) ?_
          refine tdoes_skip (w1 := x6.setRow w.heap.size #[.slice (some ⟨b1, 0, none⟩) 3 3, .slice (some ⟨b2, 0, none⟩) 1 1, .slice (some ⟨b3, 0, none⟩) 2 2]) (sep_store 25 _ _ rfl w.heap.size #[.slice (some ⟨b1, 0, none⟩) 3 3, .slice (some ⟨b2, 0, none⟩) 1 1, .slice (some ⟨b3, 0, none⟩) 2 2] rfl rfl 25 #[.slice none 0 0, .slice none 0 0, .slice none 0 0] F0 (by kernel_rfl) (by rfl) (by kernel_rfl)) ⟨hSx6.store _, ?_⟩
          show runB _ _ _ _ 0 [] _ _
          refine runB_nil ?_
          (try dsimp only [Act.put])
          try simp only [List.setIfInBounds_toArray, List.set_cons_zero, List.set_cons_succ]
          go_wp2_with fail
          refine bodyPost_ret (results_cell_row (ty := 25) rfl _ _ w.heap.size 25 _ (0, 0) _ rfl (setRow_heap _ _ _ _ _ _ F0) Tryz.underlying25 rfl (by kernel_rfl)) rfl ?_
          exact ⟨b1, b2, b3, rfl, Nat.le_of_lt Gb1, Nat.le_of_lt Gb2, Nat.le_of_lt Gb3, (setRow_other _ _ _ _ (by omega)).trans Fb1, (setRow_other _ _ _ _ (by omega)).trans Fb2, (setRow_other _ _ _ _ (by omega)).trans Fb3, (hSx6.store _).below⟩
        · refine tdoes_call (f := ?_) (args := ?_) (w1 := ?_) ?_ ?_
          rotate_left 3
          focus (go_simp; refine ⟨⟨?_, ?_⟩, ?_⟩ <;> with_reducible rfl)
          refine (lneed_any 2 0 1 (by decide) x3).mono ?_
          rintro e_ x4 ⟨rfl, hb_⟩
          have hSx4 := hSx3.next hb_
          refine ⟨_, rfl, hSx4, ?_⟩
          (try dsimp only [Act.put])
          try simp only [List.setIfInBounds_toArray, List.set_cons_zero, List.set_cons_succ]
          replace F0 := keep_blk F0 hb_
          replace Fb2 := keep_blk Fb2 hb_
          clear hb_
          show runB _ _ _ _ 4 [3, 8, 9, 10] _ _
          refine runB_two 3 8 (by kernel_rfl) (by kernel_rfl) (by rfl) (by rfl) (by rfl) (by rfl) ?_ ?_
          · refine tdoes_op (w1 := x4.alloc (.cells vCells 60)) (v := .slice (some ⟨x4.heap.size, 0, none⟩) 3 3) (exec_vars _ _ _ rfl rfl rfl rfl) ⟨hSx4.next ((Below.refl _ _).alloc (Nat.le_refl _) _), ?_⟩
            (try dsimp only [Act.put])
            try simp only [List.setIfInBounds_toArray, List.set_cons_zero, List.set_cons_succ]
            obtain ⟨x5, h_⟩ : ∃ q, q = x4.alloc (.cells vCells 60) := ⟨_, rfl⟩
            obtain ⟨b1, hg_⟩ : ∃ q, q = x4.heap.size := ⟨_, rfl⟩
            have hb_ : Below x4.heap.size x4 x5 := by rw [h_]; exact (Below.refl _ _).alloc (Nat.le_refl _) _
            have Fb1 : x5.heap[b1]? = some (.cells vCells 60 (0, 0)) := by rw [h_, hg_]; exact heap_alloc_new x4 _
            have Gb1 : w.heap.size < b1 := by rw [hg_]; exact lt_of_block F0
            have hSx5 := hSx4.next hb_
            rw [← h_, ← hg_]
            clear h_ hg_
            replace F0 := keep_blk F0 hb_
            replace Fb2 := keep_blk Fb2 hb_
            clear hb_
            show runB _ _ _ _ 3 [8, 9, 10] _ _
            refine runB_one 8 (by kernel_rfl) (by kernel_rfl) (by rfl) (by rfl) ?_
            refine tdoes_op (w1 := x5.alloc (.cells rCells 43)) (v := .slice (some ⟨x5.heap.size, 0, none⟩) 2 2) (exec_kop2 _ _ rfl rfl rfl) ⟨hSx5.next ((Below.refl _ _).alloc (Nat.le_refl _) _), ?_⟩
            (try dsimp only [Act.put])
            try simp only [List.setIfInBounds_toArray, List.set_cons_zero, List.set_cons_succ]
            obtain ⟨x6, h_⟩ : ∃ q, q = x5.alloc (.cells rCells 43) := ⟨_, rfl⟩
            obtain ⟨b3, hg_⟩ : ∃ q, q = x5.heap.size := ⟨_, rfl⟩
            have hb_ : Below x5.heap.size x5 x6 := by rw [h_]; exact (Below.refl _ _).alloc (Nat.le_refl _) _
            have Fb3 : x6.heap[b3]? = some (.cells rCells 43 (0, 0)) := by rw [h_, hg_]; exact heap_alloc_new x5 _
            have Gb3 : w.heap.size < b3 := by rw [hg_]; exact lt_of_block F0
            have hSx6 := hSx5.next hb_
            rw [← h_, ← hg_]
            clear h_ hg_
            replace F0 := keep_blk F0 hb_
            replace Fb2 := keep_blk Fb2 hb_
            replace Fb1 := keep_blk Fb1 hb_
            clear hb_
            show runB _ _ _ _ 2 [9, 10] _ _
            refine runB_at 9 (v := ?_) (by rfl) (by rfl) (by rfl) (by kernel_rfl) (by rfl) ?_ ?_
            rotate_left
            focus (intro w_ hw_; have f0_ := hw_.v0; have f1_ := hw_.v1; have f2_ := hw_.v2; go_simp; (try with_reducible rfl); done)
            (try dsimp only [Act.put])
            show runB _ _ _ _ 1 [10] _ _
            try simp only [List.setIfInBounds_toArray, List.set_cons_zero, List.set_cons_succ]
            refine runB_one 10 (by kernel_rfl) (by kernel_rfl) (by rfl) (by rfl) ?_
            refine tdoes_skip (w1 := x6.setRow w.heap.size #[.slice (some ⟨b1, 0, none⟩) 3 3, .slice (some ⟨b2, 0, none⟩) 1 1, .slice (some ⟨b3, 0, none⟩) 2 2]) (sep_store 25 _ _ rfl w.heap.size #[.slice (some ⟨b1, 0, none⟩) 3 3, .slice (some ⟨b2, 0, none⟩) 1 1, .slice (some ⟨b3, 0, none⟩) 2 2] rfl rfl 25 #[.slice none 0 0, .slice none 0 0, .slice none 0 0] F0 (by kernel_rfl) (by rfl) (by kernel_rfl)) ⟨hSx6.store _, ?_⟩
            show runB _ _ _ _ 0 [] _ _
            refine runB_nil ?_
            (try dsimp only [Act.put])
            try simp only [List.setIfInBounds_toArray, List.set_cons_zero, List.set_cons_succ]
            go_wp2_with fail
            refine bodyPost_ret (results_cell_row (ty := 25) rfl _ _ w.heap.size 25 _ (0, 0) _ rfl (setRow_heap _ _ _ _ _ _ F0) Tryz.underlying25 rfl (by kernel_rfl)) rfl ?_
            exact ⟨b1, b2, b3, rfl, Nat.le_of_lt Gb1, Nat.le_of_lt Gb2, Nat.le_of_lt Gb3, (setRow_other _ _ _ _ (by omega)).trans Fb1, (setRow_other _ _ _ _ (by omega)).trans Fb2, (setRow_other _ _ _ _ (by omega)).trans Fb3, (hSx6.store _).below⟩
          · refine tdoes_op (w1 := x4.alloc (.cells rCells 43)) (v := .slice (some ⟨x4.heap.size, 0, none⟩) 2 2) (exec_kop2 _ _ rfl rfl rfl) ⟨hSx4.next ((Below.refl _ _).alloc (Nat.le_refl _) _), ?_⟩
            (try dsimp only [Act.put])
            try simp only [List.setIfInBounds_toArray, List.set_cons_zero, List.set_cons_succ]
            obtain ⟨x5, h_⟩ : ∃ q, q = x4.alloc (.cells rCells 43) := ⟨_, rfl⟩
            obtain ⟨b3, hg_⟩ : ∃ q, q = x4.heap.size := ⟨_, rfl⟩
            have hb_ : Below x4.heap.size x4 x5 := by rw [h_]; exact (Below.refl _ _).alloc (Nat.le_refl _) _
            have Fb3 : x5.heap[b3]? = some (.cells rCells 43 (0, 0)) := by rw [h_, hg_]; exact heap_alloc_new x4 _
            have Gb3 : w.heap.size < b3 := by rw [hg_]; exact lt_of_block F0
            have hSx5 := hSx4.next hb_
            rw [← h_, ← hg_]
            clear h_ hg_
            replace F0 := keep_blk F0 hb_
            replace Fb2 := keep_blk Fb2 hb_
            clear hb_
            show runB _ _ _ _ 3 [3, 9, 10] _ _
            refine runB_one 3 (by kernel_rfl) (by kernel_rfl) (by rfl) (by rfl) ?_
            refine tdoes_op (w1 := x5.alloc (.cells vCells 60)) (v := .slice (some ⟨x5.heap.size, 0, none⟩) 3 3) (exec_vars _ _ _ rfl rfl rfl rfl) ⟨hSx5.next ((Below.refl _ _).alloc (Nat.le_refl _) _), ?_⟩
            (try dsimp only [Act.put])
            try simp only [List.setIfInBounds_toArray, List.set_cons_zero, List.set_cons_succ]
            obtain ⟨x6, h_⟩ : ∃ q, q = x5.alloc (.cells vCells 60) := ⟨_, rfl⟩
            obtain ⟨b1, hg_⟩ : ∃ q, q = x5.heap.size := ⟨_, rfl⟩
            have hb_ : Below x5.heap.size x5 x6 := by rw [h_]; exact (Below.refl _ _).alloc (Nat.le_refl _) _
            have Fb1 : x6.heap[b1]? = some (.cells vCells 60 (0, 0)) := by rw [h_, hg_]; exact heap_alloc_new x5 _
            have Gb1 : w.heap.size < b1 := by rw [hg_]; exact lt_of_block F0
            have hSx6 := hSx5.next hb_
            rw [← h_, ← hg_]
            clear h_ hg_
            replace F0 := keep_blk F0 hb_
            replace Fb2 := keep_blk Fb2 hb_
            replace Fb3 := keep_blk Fb3 hb_
            clear hb_
            show runB _ _ _ _ 2 [9, 10] _ _
            refine runB_at 9 (v := ?_) (by rfl) (by rfl) (by rfl) (by kernel_rfl) (by rfl) ?_ ?_
            rotate_left
            focus (intro w_ hw_; have f0_ := hw_.v0; have f1_ := hw_.v1; have f2_ := hw_.v2; go_simp; (try with_reducible rfl); done)
            (try dsimp only [Act.put])
            show runB _ _ _ _ 1 [10] _ _
            try simp only [List.setIfInBounds_toArray, List.set_cons_zero, List.set_cons_succ]
            refine runB_one 10 (by kernel_rfl) (by kernel_rfl) (by rfl) (by rfl) ?_
            refine tdoes_skip (w1 := x6.setRow w.heap.size #[.slice (some ⟨b1, 0, none⟩) 3 3, .slice (some ⟨b2, 0, none⟩) 1 1, .slice (some ⟨b3, 0, none⟩) 2 2]) (sep_store 25 _ _ rfl w.heap.size #[.slice (some ⟨b1, 0, none⟩) 3 3, .slice (some ⟨b2, 0, none⟩) 1 1, .slice (some ⟨b3, 0, none⟩) 2 2] rfl rfl 25 #[.slice none 0 0, .slice none 0 0, .slice none 0 0] F0 (by kernel_rfl) (by rfl) (by kernel_rfl)) ⟨hSx6.store _, ?_⟩
            show runB _ _ _ _ 0 [] _ _
            refine runB_nil ?_
            (try dsimp only [Act.put])
            try simp only [List.setIfInBounds_toArray, List.set_cons_zero, List.set_cons_succ]
            go_wp2_with fail
            refine bodyPost_ret (results_cell_row (ty := 25) rfl _ _ w.heap.size 25 _ (0, 0) _ rfl (setRow_heap _ _ _ _ _ _ F0) Tryz.underlying25 rfl (by kernel_rfl)) rfl ?_
            exact ⟨b1, b2, b3, rfl, Nat.le_of_lt Gb1, Nat.le_of_lt Gb2, Nat.le_of_lt Gb3, (setRow_other _ _ _ _ (by omega)).trans Fb1, (setRow_other _ _ _ _ (by omega)).trans Fb2, (setRow_other _ _ _ _ (by omega)).trans Fb3, (hSx6.store _).below⟩
    · refine tdoes_call (f := ?_) (args := ?_) (w1 := ?_) ?_ ?_
      rotate_left 3
      focus (go_simp; refine ⟨⟨?_, ?_⟩, ?_⟩ <;> with_reducible rfl)
      refine (lneed_any 1 1 (-1) (by decide) x1).mono ?_
      rintro e_ x2 ⟨rfl, hb_⟩
      have hSx2 := hSx1.next hb_
      refine ⟨_, rfl, hSx2, ?_⟩
      (try dsimp only [Act.put])
      try simp only [List.setIfInBounds_toArray, List.set_cons_zero, List.set_cons_succ]
      replace F0 := keep_blk F0 hb_
      clear hb_
      show runB _ _ _ _ 6 [3, 5, 7, 8, 9, 10] _ _
      refine runB_three 3 5 7 (by kernel_rfl) (by kernel_rfl) (by rfl) (by rfl) (by rfl) (by rfl) (by rfl) (by rfl) ?_ ?_ ?_
      · refine tdoes_op (w1 := x2.alloc (.cells vCells 60)) (v := .slice (some ⟨x2.heap.size, 0, none⟩) 3 3) (exec_vars _ _ _ rfl rfl rfl rfl) ⟨hSx2.next ((Below.refl _ _).alloc (Nat.le_refl _) _), ?_⟩
        (try dsimp only [Act.put])
        try simp only [List.setIfInBounds_toArray, List.set_cons_zero, List.set_cons_succ]
        obtain ⟨x3, h_⟩ : ∃ q, q = x2.alloc (.cells vCells 60) := ⟨_, rfl⟩
        obtain ⟨b1, hg_⟩ : ∃ q, q = x2.heap.size := ⟨_, rfl⟩
        have hb_ : Below x2.heap.size x2 x3 := by rw [h_]; exact (Below.refl _ _).alloc (Nat.le_refl _) _
        have Fb1 : x3.heap[b1]? = some (.cells vCells 60 (0, 0)) := by rw [h_, hg_]; exact heap_alloc_new x2 _
        have Gb1 : w.heap.size < b1 := by rw [hg_]; exact lt_of_block F0
        have hSx3 := hSx2.next hb_
        rw [← h_, ← hg_]
        clear h_ hg_
        replace F0 := keep_blk F0 hb_
        clear hb_
        show runB _ _ _ _ 5 [5, 7, 8, 9, 10] _ _
        refine runB_two 5 7 (by kernel_rfl) (by kernel_rfl) (by rfl) (by rfl) (by rfl) (by rfl) ?_ ?_
        · refine tdoes_op (w1 := x3.alloc (.cells oCells 43)) (v := .slice (some ⟨x3.heap.size, 0, none⟩) 1 1) (exec_kop1 _ rfl rfl) ⟨hSx3.next ((Below.refl _ _).alloc (Nat.le_refl _) _), ?_⟩
          (try dsimp only [Act.put])
          try simp only [List.setIfInBounds_toArray, List.set_cons_zero, List.set_cons_succ]
          obtain ⟨x4, h_⟩ : ∃ q, q = x3.alloc (.cells oCells 43) := ⟨_, rfl⟩
          obtain ⟨b2, hg_⟩ : ∃ q, q = x3.heap.size := ⟨_, rfl⟩
          have hb_ : Below x3.heap.size x3 x4 := by rw [h_]; exact (Below.refl _ _).alloc (Nat.le_refl _) _
          have Fb2 : x4.heap[b2]? = some (.cells oCells 43 (0, 0)) := by rw [h_, hg_]; exact heap_alloc_new x3 _
          have Gb2 : w.heap.size < b2 := by rw [hg_]; exact lt_of_block F0
          have hSx4 := hSx3.next hb_
          rw [← h_, ← hg_]
          clear h_ hg_
          replace F0 := keep_blk F0 hb_
          replace Fb1 := keep_blk Fb1 hb_
          clear hb_
          show runB _ _ _ _ 4 [7, 8, 9, 10] _ _
          refine runB_one 7 (by kernel_rfl) (by kernel_rfl) (by rfl) (by rfl) ?_
          refine tdoes_call (f := ?_) (args := ?_) (w1 := ?_) ?_ ?_
          rotate_left 3
          focus (go_simp; refine ⟨⟨?_, ?_⟩, ?_⟩ <;> with_reducible rfl)
          refine (lneed_any 2 0 1 (by decide) x4).mono ?_
          rintro e_ x5 ⟨rfl, hb_⟩
          have hSx5 := hSx4.next hb_
          refine ⟨_, rfl, hSx5, ?_⟩
          (try dsimp only [Act.put])
          try simp only [List.setIfInBounds_toArray, List.set_cons_zero, List.set_cons_succ]
          replace F0 := keep_blk F0 hb_
          replace Fb1 := keep_blk Fb1 hb_
          replace Fb2 := keep_blk Fb2 hb_
          clear hb_
          show runB _ _ _ _ 3 [8, 9, 10] _ _
          refine runB_one 8 (by kernel_rfl) (by kernel_rfl) (by rfl) (by rfl) ?_
          refine tdoes_op (w1 := x5.alloc (.cells rCells 43)) (v := .slice (some ⟨x5.heap.size, 0, none⟩) 2 2) (exec_kop2 _ _ rfl rfl rfl) ⟨hSx5.next ((Below.refl _ _).alloc (Nat.le_refl _) _), ?_⟩
          (try dsimp only [Act.put])
          try simp only [List.setIfInBounds_toArray, List.set_cons_zero, List.set_cons_succ]
          obtain ⟨x6, h_⟩ : ∃ q, q = x5.alloc (.cells rCells 43) := ⟨_, rfl⟩
          obtain ⟨b3, hg_⟩ : ∃ q, q = x5.heap.size := ⟨_, rfl⟩
          have hb_ : Below x5.heap.size x5 x6 := by rw [h_]; exact (Below.refl _ _).alloc (Nat.le_refl _) _
          have Fb3 : x6.heap[b3]? = some (.cells rCells 43 (0, 0)) := by rw [h_, hg_]; exact heap_alloc_new x5 _
          have Gb3 : w.heap.size < b3 := by rw [hg_]; exact lt_of_block F0
          have hSx6 := hSx5.next hb_
          rw [← h_, ← hg_]
          clear h_ hg_
          replace F0 := keep_blk F0 hb_
          replace Fb1 := keep_blk Fb1 hb_
          replace Fb2 := keep_blk Fb2 hb_
          clear hb_
          show runB _ _ _ _ 2 [9, 10] _ _
          refine runB_at 9 (v := ?_) (by rfl) (by rfl) (by rfl) (by kernel_rfl) (by rfl) ?_ ?_
          rotate_left
          focus (intro w_ hw_; have f0_ := hw_.v0; have f1_ := hw_.v1; have f2_ := hw_.v2; go_simp; (try with_reducible rfl); done)
          (try dsimp only [Act.put])
          show runB _ _ _ _ 1 [10] _ _
          try simp only [List.setIfInBounds_toArray, List.set_cons_zero, List.set_cons_succ]
          refine runB_one 10 (by kernel_rfl) (by kernel_rfl) (by rfl) (by rfl) ?_
          refine tdoes_skip (w1 := x6.setRow w.heap.size #[.slice (some ⟨b1, 0, none⟩) 3 3, .slice (some ⟨b2, 0, none⟩) 1 1, .slice (some ⟨b3, 0, none⟩) 2 2]) (sep_store 25 _ _ rfl w.heap.size #[.slice (some ⟨b1, 0, none⟩) 3 3, .slice (some ⟨b2, 0, none⟩) 1 1, .slice (some ⟨b3, 0, none⟩) 2 2] rfl rfl 25 #[.slice none 0 0, .slice none 0 0, .slice none 0 0] F0 (by kernel_rfl) (by rfl) (by kernel_rfl)) ⟨hSx6.store _, ?_⟩
          show runB _ _ _ _ 0 [] _ _
          refine runB_nil ?_
          (try dsimp only [Act.put])
          try simp only [List.setIfInBounds_toArray, List.set_cons_zero, List.set_cons_succ]
          go_wp2_with fail
          refine bodyPost_ret (results_cell_row (ty := 25) rfl _ _ w.heap.size 25 _ (0, 0) _ rfl (setRow_heap _ _ _ _ _ _ F0) Tryz.underlying25 rfl (by kernel_rfl)) rfl ?_
          exact ⟨b1, b2, b3, rfl, Nat.le_of_lt Gb1, Nat.le_of_lt Gb2, Nat.le_of_lt Gb3, (setRow_other _ _ _ _ (by omega)).trans Fb1, (setRow_other _ _ _ _ (by omega)).trans Fb2, (setRow_other _ _ _ _ (by omega)).trans Fb3, (hSx6.store _).below⟩
        · refine tdoes_call (f := ?_) (args := ?_) (w1 := ?_) ?_ ?_
          rotate_left 3
          focus (go_simp; refine ⟨⟨?_, ?_⟩, ?_⟩ <;> with_reducible rfl)
          refine (lneed_any 2 0 1 (by decide) x3).mono ?_
          rintro e_ x4 ⟨rfl, hb_⟩
          have hSx4 := hSx3.next hb_
          refine ⟨_, rfl, hSx4, ?_⟩
          (try dsimp only [Act.put])
          try simp only [List.setIfInBounds_toArray, List.set_cons_zero, List.set_cons_succ]
          replace F0 := keep_blk F0 hb_
          replace Fb1 := keep_blk Fb1 hb_
          clear hb_
          show runB _ _ _ _ 4 [5, 8, 9, 10] _ _
          refine runB_two 5 8 (by kernel_rfl) (by kernel_rfl) (by rfl) (by rfl) (by rfl) (by rfl) ?_ ?_
          · refine tdoes_op (w1 := x4.alloc (.cells oCells 43)) (v := .slice (some ⟨x4.heap.size, 0, none⟩) 1 1) (exec_kop1 _ rfl rfl) ⟨hSx4.next ((Below.refl _ _).alloc (Nat.le_refl _) _), ?_⟩
            (try dsimp only [Act.put])
            try simp only [List.setIfInBounds_toArray, List.set_cons_zero, List.set_cons_succ]
            obtain ⟨x5, h_⟩ : ∃ q, q = x4.alloc (.cells oCells 43) := ⟨_, rfl⟩
            obtain ⟨b2, hg_⟩ : ∃ q, q = x4.heap.size := ⟨_, rfl⟩
            have hb_ : Below x4.heap.size x4 x5 := by rw [h_]; exact (Below.refl _ _).alloc (Nat.le_refl _) _
            have Fb2 : x5.heap[b2]? = some (.cells oCells 43 (0, 0)) := by rw [h_, hg_]; exact heap_alloc_new x4 _
            have Gb2 : w.heap.size < b2 := by rw [hg_]; exact lt_of_block F0
            have hSx5 := hSx4.next hb_
            rw [← h_, ← hg_]
            clear h_ hg_
            replace F0 := keep_blk F0 hb_
            replace Fb1 := keep_blk Fb1 hb_
            clear hb_
            show runB _ _ _ _ 3 [8, 9, 10] _ _
            refine runB_one 8 (by kernel_rfl) (by kernel_rfl) (by rfl) (by rfl) ?_
            refine tdoes_op (w1 := x5.alloc (.cells rCells 43)) (v := .slice (some ⟨x5.heap.size, 0, none⟩) 2 2) (exec_kop2 _ _ rfl rfl rfl) ⟨hSx5.next ((Below.refl _ _).alloc (Nat.le_refl _) _), ?_⟩
            (try dsimp only [Act.put])
            try simp only [List.setIfInBounds_toArray, List.set_cons_zero, List.set_cons_succ]
            obtain ⟨x6, h_⟩ : ∃ q, q = x5.alloc (.cells rCells 43) := ⟨_, rfl⟩
            obtain ⟨b3, hg_⟩ : ∃ q, q = x5.heap.size := ⟨_, rfl⟩
            have hb_ : Below x5.heap.size x5 x6 := by rw [h_]; exact (Below.refl _ _).alloc (Nat.le_refl _) _
            have Fb3 : x6.heap[b3]? = some (.cells rCells 43 (0, 0)) := by rw [h_, hg_]; exact heap_alloc_new x5 _
            have Gb3 : w.heap.size < b3 := by rw [hg_]; exact lt_of_block F0
            have hSx6 := hSx5.next hb_
            rw [← h_, ← hg_]
            clear h_ hg_
            replace F0 := keep_blk F0 hb_
            replace Fb1 := keep_blk Fb1 hb_
            replace Fb2 := keep_blk Fb2 hb_
            clear hb_
            show runB _ _ _ _ 2 [9, 10] _ _
            refine runB_at 9 (v := ?_) (by rfl) (by rfl) (by rfl) (by kernel_rfl) (by rfl) ?_ ?_
            rotate_left
            focus (intro w_ hw_; have f0_ := hw_.v0; have f1_ := hw_.v1; have f2_ := hw_.v2; go_simp; (try with_reducible rfl); done)
            (try dsimp only [Act.put])
            show runB _ _ _ _ 1 [10] _ _
            try simp only [List.setIfInBounds_toArray, List.set_cons_zero, List.set_cons_succ]
            refine runB_one 10 (by kernel_rfl) (by kernel_rfl) (by rfl) (by rfl) ?_
            refine tdoes_skip (w1 := x6.setRow w.heap.size #[.slice (some ⟨b1, 0, none⟩) 3 3, .slice (some ⟨b2, 0, none⟩) 1 1, .slice (some ⟨b3, 0, none⟩) 2 2]) (sep_store 25 _ _ rfl w.heap.size #[.slice (some ⟨b1, 0, none⟩) 3 3, .slice (some ⟨b2, 0, none⟩) 1 1, .slice (some ⟨b3, 0, none⟩) 2 2] rfl rfl 25 #[.slice none 0 0, .slice none 0 0, .slice none 0 0] F0 (by kernel_rfl) (by rfl) (by kernel_rfl)) ⟨hSx6.store _, ?_⟩
            show runB _ _ _ _ 0 [] _ _
            refine runB_nil ?_
            (try dsimp only [Act.put])
            try simp only [List.setIfInBounds_toArray, List.set_cons_zero, List.set_cons_succ]
            go_wp2_with fail
            refine bodyPost_ret (results_cell_row (ty := 25) rfl _ _ w.heap.size 25 _ (0, 0) _ rfl (setRow_heap _ _ _ _ _ _ F0) Tryz.underlying25 rfl (by kernel_rfl)) rfl ?_
            exact ⟨b1, b2, b3, rfl, Nat.le_of_lt Gb1, Nat.le_of_lt Gb2, Nat.le_of_lt Gb3, (setRow_other _ _ _ _ (by omega)).trans Fb1, (setRow_other _ _ _ _ (by omega)).trans Fb2, (setRow_other _ _ _ _ (by omega)).trans Fb3, (hSx6.store _).below⟩
          · refine tdoes_op (w1 := x4.alloc (.cells rCells 43)) (v := .slice (some ⟨x4.heap.size, 0, none⟩) 2 2) (exec_kop2 _ _ rfl rfl rfl) ⟨hSx4.next ((Below.refl _ _).alloc (Nat.le_refl _) _), ?_⟩
            (try dsimp only [Act.put])
            try simp only [List.setIfInBounds_toArray, List.set_cons_zero, List.set_cons_succ]
            obtain ⟨x5, h_⟩ : ∃ q, q = x4.alloc (.cells rCells 43) := ⟨_, rfl⟩
            obtain ⟨b3, hg_⟩ : ∃ q, q = x4.heap.size := ⟨_, rfl⟩
            have hb_ : Below x4.heap.size x4 x5 := by rw [h_]; exact (Below.refl _ _).alloc (Nat.le_refl _) _
            have Fb3 : x5.heap[b3]? = some (.cells rCells 43 (0, 0)) := by rw [h_, hg_]; exact heap_alloc_new x4 _
            have Gb3 : w.heap.size < b3 := by rw [hg_]; exact lt_of_block F0
            have hSx5 := hSx4.next hb_
            rw [← h_, ← hg_]
            clear h_ hg_
            replace F0 := keep_blk F0 hb_
            replace Fb1 := keep_blk Fb1 hb_
            clear hb_
            show runB _ _ _ _ 3 [5, 9, 10] _ _
            refine runB_one 5 (by kernel_rfl) (by kernel_rfl) (by rfl) (by rfl) ?_
            refine tdoes_op (w1 := x5.alloc (.cells oCells 43)) (v := .slice (some ⟨x5.heap.size, 0, none⟩) 1 1) (exec_kop1 _ rfl rfl) ⟨hSx5.next ((Below.refl _ _).alloc (Nat.le_refl _) _), ?_⟩
            (try dsimp only [Act.put])
            try simp only [List.setIfInBounds_toArray, List.set_cons_zero, List.set_cons_succ]
            obtain ⟨x6, h_⟩ : ∃ q, q = x5.alloc (.cells oCells 43) := ⟨_, rfl⟩
            obtain ⟨b2, hg_⟩ : ∃ q, q = x5.heap.size := ⟨_, rfl⟩
            have hb_ : Below x5.heap.size x5 x6 := by rw [h_]; exact (Below.refl _ _).alloc (Nat.le_refl _) _
            have Fb2 : x6.heap[b2]? = some (.cells oCells 43 (0, 0)) := by rw [h_, hg_]; exact heap_alloc_new x5 _
            have Gb2 : w.heap.size < b2 := by rw [hg_]; exact lt_of_block F0
            have hSx6 := hSx5.next hb_
            rw [← h_, ← hg_]
            clear h_ hg_
            replace F0 := keep_blk F0 hb_
            replace Fb1 := keep_blk Fb1 hb_
            replace Fb3 := keep_blk Fb3 hb_
            clear hb_
            show runB _ _ _ _ 2 [9, 10] _ _
            refine runB_at 9 (v := ?_) (by rfl) (by rfl) (by rfl) (by kernel_rfl) (by rfl) ?_ ?_
            rotate_left
            focus (intro w_ hw_; have f0_ := hw_.v0; have f1_ := hw_.v1; have f2_ := hw_.v2; go_simp; (try with_reducible rfl); done)
            (try dsimp only [Act.put])
            show runB _ _ _ _ 1 [10] _ _
            try simp only [List.setIfInBounds_toArray, List.set_cons_zero, List.set_cons_succ]
            refine runB_one 10 (by kernel_rfl) (by kernel_rfl) (by rfl) (by rfl) ?_
            refine tdoes_skip (w1 := x6.setRow w.heap.size #[.slice (some ⟨b1, 0, none⟩) 3 3, .slice (some ⟨b2, 0, none⟩) 1 1, .slice (some ⟨b3, 0, none⟩) 2 2]) (sep_store 25 _ _ rfl w.heap.size #[.slice (some ⟨b1, 0, none⟩) 3 3, .slice (some ⟨b2, 0, none⟩) 1 1, .slice (some ⟨b3, 0, none⟩) 2 2] rfl rfl 25 #[.slice none 0 0, .slice none 0 0, .slice none 0 0] F0 (by kernel_rfl) (by rfl) (by kernel_rfl)) ⟨hSx6.store _, ?_⟩
            show runB _ _ _ _ 0 [] _ _
            refine runB_nil ?_
            (try dsimp only [Act.put])
            try simp only [List.setIfInBounds_toArray, List.set_cons_zero, List.set_cons_succ]
            go_wp2_with fail
            refine bodyPost_ret (results_cell_row (ty := 25) rfl _ _ w.heap.size 25 _ (0, 0) _ rfl (setRow_heap _ _ _ _ _ _ F0) Tryz.underlying25 rfl (by kernel_rfl)) rfl ?_
            exact ⟨b1, b2, b3, rfl, Nat.le_of_lt Gb1, Nat.le_of_lt Gb2, Nat.le_of_lt Gb3, (setRow_other _ _ _ _ (by omega)).trans Fb1, (setRow_other _ _ _ _ (by omega)).trans Fb2, (setRow_other _ _ _ _ (by omega)).trans Fb3, (hSx6.store _).below⟩
      · refine tdoes_op (w1 := x2.alloc (.cells oCells 43)) (v := .slice (some ⟨x2.heap.size, 0, none⟩) 1 1) (exec_kop1 _ rfl rfl) ⟨hSx2.next ((Below.refl _ _).alloc (Nat.le_refl _) _), ?_⟩
        (try dsimp only [Act.put])
        try simp only [List.setIfInBounds_toArray, List.set_cons_zero, List.set_cons_succ]
        obtain ⟨x3, h_⟩ : ∃ q, q = x2.alloc (.cells oCells 43) := ⟨_, rfl⟩
        obtain ⟨b2, hg_⟩ : ∃ q, q = x2.heap.size := ⟨_, rfl⟩
        have hb_ : Below x2.heap.size x2 x3 := by rw [h_]; exact (Below.refl _ _).alloc (Nat.le_refl _) _
        have Fb2 : x3.heap[b2]? = some (.cells oCells 43 (0, 0)) := by rw [h_, hg_]; exact heap_alloc_new x2 _
        have Gb2 : w.heap.size < b2 := by rw [hg_]; exact lt_of_block F0
        have hSx3 := hSx2.next hb_
        rw [← h_, ← hg_]
        clear h_ hg_
        replace F0 := keep_blk F0 hb_
        clear hb_
        show runB _ _ _ _ 5 [3, 7, 8, 9, 10] _ _
        refine runB_two 3 7 (by kernel_rfl) (by kernel_rfl) (by rfl) (by rfl) (by rfl) (by rfl) ?_ ?_
        · refine tdoes_op (w1 := x3.alloc (.cells vCells 60)) (v := .slice (some ⟨x3.heap.size, 0, none⟩) 3 3) (exec_vars _ _ _ rfl rfl rfl rfl) ⟨hSx3.next ((Below.refl _ _).alloc (Nat.le_refl _) _), ?_⟩
          (try dsimp only [Act.put])
          try simp only [List.setIfInBounds_toArray, List.set_cons_zero, List.set_cons_succ]
          obtain ⟨x4, h_⟩ : ∃ q, q = x3.alloc (.cells vCells 60) := ⟨_, rfl⟩
          obtain ⟨b1, hg_⟩ : ∃ q, q = x3.heap.size := ⟨_, rfl⟩
          have hb_ : Below x3.heap.size x3 x4 := by rw [h_]; exact (Below.refl _ _).alloc (Nat.le_refl _) _
          have Fb1 : x4.heap[b1]? = some (.cells vCells 60 (0, 0)) := by rw [h_, hg_]; exact heap_alloc_new x3 _
          have Gb1 : w.heap.size < b1 := by rw [hg_]; exact lt_of_block F0
          have hSx4 := hSx3.next hb_
          rw [← h_, ← hg_]
          clear h_ hg_
          replace F0 := keep_blk F0 hb_
          replace Fb2 := keep_blk Fb2 hb_
          clear hb_
          show runB _ _ _ _ 4 [7, 8, 9, 10] _ _
          refine runB_one 7 (by kernel_rfl) (by kernel_rfl) (by rfl) (by rfl) ?_
          refine tdoes_call (f := ?_) (args := ?_) (w1 := ?_) ?_ ?_
          rotate_left 3
          focus (go_simp; refine ⟨⟨?_, ?_⟩, ?_⟩ <;> with_reducible rfl)
          refine (lneed_any 2 0 1 (by decide) x4).mono ?_
          rintro e_ x5 ⟨rfl, hb_⟩
          have hSx5 := hSx4.next hb_
          refine ⟨_, rfl, hSx5, ?_⟩
          (try dsimp only [Act.put])
          try simp only [List.setIfInBounds_toArray, List.set_cons_zero, List.set_cons_succ]
          replace F0 := keep_blk F0 hb_
          replace Fb2 := keep_blk Fb2 hb_
          replace Fb1 := keep_blk Fb1 hb_
          clear hb_
          show runB _ _ _ _ 3 [8, 9, 10] _ _
          refine runB_one 8 (by kernel_rfl) (by kernel_rfl) (by rfl) (by rfl) ?_
          refine tdoes_op (w1 := x5.alloc (.cells rCells 43)) (v := .slice (some ⟨x5.heap.size, 0, none⟩) 2 2) (exec_kop2 _ _ rfl rfl rfl) ⟨hSx5.next ((Below.refl _ _).alloc (Nat.le_refl _) _), ?_⟩
          (try dsimp only [Act.put])
          try simp only [List.setIfInBounds_toArray, List.set_cons_zero, List.set_cons_succ]
          obtain ⟨x6, h_⟩ : ∃ q, q = x5.alloc (.cells rCells 43) := ⟨_, rfl⟩
          obtain ⟨b3, hg_⟩ : ∃ q, q = x5.heap.size := ⟨_, rfl⟩
          have hb_ : Below x5.heap.size x5 x6 := by rw [h_]; exact (Below.refl _ _).alloc (Nat.le_refl _) _
          have Fb3 : x6.heap[b3]? = some (.cells rCells 43 (0, 0)) := by rw [h_, hg_]; exact heap_alloc_new x5 _
          have Gb3 : w.heap.size < b3 := by rw [hg_]; exact lt_of_block F0
          have hSx6 := hSx5.next hb_
          rw [← h_, ← hg_]
          clear h_ hg_
          replace F0 := keep_blk F0 hb_
          replace Fb2 := keep_blk Fb2 hb_
          replace Fb1 := keep_blk Fb1 hb_
          clear hb_
          show runB _ _ _ _ 2 [9, 10] _ _
          refine runB_at 9 (v := ?_) (by rfl) (by rfl) (by rfl) (by kernel_rfl) (by rfl) ?_ ?_
          rotate_left
          focus (intro w_ hw_; have f0_ := hw_.v0; have f1_ := hw_.v1; have f2_ := hw_.v2; go_simp; (try with_reducible rfl); done)
          (try dsimp only [Act.put])
          show runB _ _ _ _ 1 [10] _ _
          try simp only [List.setIfInBounds_toArray, List.set_cons_zero, List.set_cons_succ]
          refine runB_one 10 (by kernel_rfl) (by kernel_rfl) (by rfl) (by rfl) ?_
          refine tdoes_skip (w1 := x6.setRow w.heap.size #[.slice (some ⟨b1, 0, none⟩) 3 3, .slice (some ⟨b2, 0, none⟩) 1 1, .slice (some ⟨b3, 0, none⟩) 2 2]) (sep_store 25 _ _ rfl w.heap.size #[.slice (some ⟨b1, 0, none⟩) 3 3, .slice (some ⟨b2, 0, none⟩) 1 1, .slice (some ⟨b3, 0, none⟩) 2 2] rfl rfl 25 #[.slice none 0 0, .slice none 0 0, .slice none 0 0] F0 (by kernel_rfl) (by rfl) (by kernel_rfl)) ⟨hSx6.store _, ?_⟩
          show runB _ _ _ _ 0 [] _ _
          refine runB_nil ?_
          (try dsimp only [Act.put])
          try simp only [List.setIfInBounds_toArray, List.set_cons_zero, List.set_cons_succ]
          go_wp2_with fail
          refine bodyPost_ret (results_cell_row (ty := 25) rfl _ _ w.heap.size 25 _ (0, 0) _ rfl (setRow_heap _ _ _ _ _ _ F0) Tryz.underlying25 rfl (by kernel_rfl)) rfl ?_
          exact ⟨b1, b2, b3, rfl, Nat.le_of_lt Gb1, Nat.le_of_lt Gb2, Nat.le_of_lt Gb3, (setRow_other _ _ _ _ (by omega)).trans Fb1, (setRow_other _ _ _ _ (by omega)).trans Fb2, (setRow_other _ _ _ _ (by omega)).trans Fb3, (hSx6.store _).below⟩
        · refine tdoes_call (f := ?_) (args := ?_) (w1 := ?_) ?_ ?_
          rotate_left 3
          focus (go_simp; refine ⟨⟨?_, ?_⟩, ?_⟩ <;> with_reducible rfl)
          refine (lneed_any 2 0 1 (by decide) x3).mono ?_
          rintro e_ x4 ⟨rfl, hb_⟩
          have hSx4 := hSx3.next hb_
          refine ⟨_, rfl, hSx4, ?_⟩
          (try dsimp only [Act.put])
          try simp only [List.setIfInBounds_toArray, List.set_cons_zero, List.set_cons_succ]
          replace F0 := keep_blk F0 hb_
          replace Fb2 := keep_blk Fb2 hb_
          clear hb_
          show runB _ _ _ _ 4 [3, 8, 9, 10] _ _
          refine runB_two 3 8 (by kernel_rfl) (by kernel_rfl) (by rfl) (by rfl) (by rfl) (by rfl) ?_ ?_
          · refine tdoes_op (w1 := x4.alloc (.cells vCells 60)) (v := .slice (some ⟨x4.heap.size, 0, none⟩) 3 3) (exec_vars _ _ _ rfl rfl rfl rfl) ⟨hSx4.next ((Below.refl _ _).alloc (Nat.le_refl _) _), ?_⟩
            (try dsimp only [Act.put])
            try simp only [List.setIfInBounds_toArray, List.set_cons_zero, List.set_cons_succ]
            obtain ⟨x5, h_⟩ : ∃ q, q = x4.alloc (.cells vCells 60) := ⟨_, rfl⟩
            obtain ⟨b1, hg_⟩ : ∃ q, q = x4.heap.size := ⟨_, rfl⟩
            have hb_ : Below x4.heap.size x4 x5 := by rw [h_]; exact (Below.refl _ _).alloc (Nat.le_refl _) _
            have Fb1 : x5.heap[b1]? = some (.cells vCells 60 (0, 0)) := by rw [h_, hg_]; exact heap_alloc_new x4 _
            have Gb1 : w.heap.size < b1 := by rw [hg_]; exact lt_of_block F0
            have hSx5 := hSx4.next hb_
            rw [← h_, ← hg_]
            clear h_ hg_
            replace F0 := keep_blk F0 hb_
            replace Fb2 := keep_blk Fb2 hb_
            clear hb_
            show runB _ _ _ _ 3 [8, 9, 10] _ _
            refine runB_one 8 (by kernel_rfl) (by kernel_rfl) (by rfl) (by rfl) ?_
            refine tdoes_op (w1 := x5.alloc (.cells rCells 43)) (v := .slice (some ⟨x5.heap.size, 0, none⟩) 2 2) (exec_kop2 _ _ rfl rfl rfl) ⟨hSx5.next ((Below.refl _ _).alloc (Nat.le_refl _) _), ?_⟩
            (try dsimp only [Act.put])
            try simp only [List.setIfInBounds_toArray, List.set_cons_zero, List.set_cons_succ]
            obtain ⟨x6, h_⟩ : ∃ q, q = x5.alloc (.cells rCells 43) := ⟨_, rfl⟩
            obtain ⟨b3, hg_⟩ : ∃ q, q = x5.heap.size := ⟨_, rfl⟩
            have hb_ : Below x5.heap.size x5 x6 := by rw [h_]; exact (Below.refl _ _).alloc (Nat.le_refl _) _
            have Fb3 : x6.heap[b3]? = some (.cells rCells 43 (0, 0)) := by rw [h_, hg_]; exact heap_alloc_new x5 _
            have Gb3 : w.heap.size < b3 := by rw [hg_]; exact lt_of_block F0
            have hSx6 := hSx5.next hb_
            rw [← h_, ← hg_]
            clear h_ hg_
            replace F0 := keep_blk F0 hb_
            replace Fb2 := keep_blk Fb2 hb_
            replace Fb1 := keep_blk Fb1 hb_
            clear hb_
            show runB _ _ _ _ 2 [9, 10] _ _
            refine runB_at 9 (v := ?_) (by rfl) (by rfl) (by rfl) (by kernel_rfl) (by rfl) ?_ ?_
            rotate_left
            focus (intro w_ hw_; have f0_ := hw_.v0; have f1_ := hw_.v1; have f2_ := hw_.v2; go_simp; (try with_reducible rfl); done)
            (try dsimp only [Act.put])
            show runB _ _ _ _ 1 [10] _ _
            try simp only [List.setIfInBounds_toArray, List.set_cons_zero, List.set_cons_succ]
            refine runB_one 10 (by kernel_rfl) (by kernel_rfl) (by rfl) (by rfl) ?_
            refine tdoes_skip (w1 := x6.setRow w.heap.size #[.slice (some ⟨b1, 0, none⟩) 3 3, .slice (some ⟨b2, 0, none⟩) 1 1, .slice (some ⟨b3, 0, none⟩) 2 2]) (sep_store 25 _ _ rfl w.heap.size #[.slice (some ⟨b1, 0, none⟩) 3 3, .slice (some ⟨b2, 0, none⟩) 1 1, .slice (some ⟨b3, 0, none⟩) 2 2] rfl rfl 25 #[.slice none 0 0, .slice none 0 0, .slice none 0 0] F0 (by kernel_rfl) (by rfl) (by kernel_rfl)) ⟨hSx6.store _, ?_⟩
            show runB _ _ _ _ 0 [] _ _
            refine runB_nil ?_
            (try dsimp only [Act.put])
            try simp only [List.setIfInBounds_toArray, List.set_cons_zero, List.set_cons_succ]
            go_wp2_with fail
            refine bodyPost_ret (results_cell_row (ty := 25) rfl _ _ w.heap.size 25 _ (0, 0) _ rfl (setRow_heap _ _ _ _ _ _ F0) Tryz.underlying25 rfl (by kernel_rfl)) rfl ?_
            exact ⟨b1, b2, b3, rfl, Nat.le_of_lt Gb1, Nat.le_of_lt Gb2, Nat.le_of_lt Gb3, (setRow_other _ _ _ _ (by omega)).trans Fb1, (setRow_other _ _ _ _ (by omega)).trans Fb2, (setRow_other _ _ _ _ (by omega)).trans Fb3, (hSx6.store _).below⟩
          · refine tdoes_op (w1 := x4.alloc (.cells rCells 43)) (v := .slice (some ⟨x4.heap.size, 0, none⟩) 2 2) (exec_kop2 _ _ rfl rfl rfl) ⟨hSx4.next ((Below.refl _ _).alloc (Nat.le_refl _) _), ?_⟩
            (try dsimp only [Act.put])
            try simp only [List.setIfInBounds_toArray, List.set_cons_zero, List.set_cons_succ]
            obtain ⟨x5, h_⟩ : ∃ q, q = x4.alloc (.cells rCells 43) := ⟨_, rfl⟩
            obtain ⟨b3, hg_⟩ : ∃ q, q = x4.heap.size := ⟨_, rfl⟩
            have hb_ : Below x4.heap.size x4 x5 := by rw [h_]; exact (Below.refl _ _).alloc (Nat.le_refl _) _
            have Fb3 : x5.heap[b3]? = some (.cells rCells 43 (0, 0)) := by rw [h_, hg_]; exact heap_alloc_new x4 _
            have Gb3 : w.heap.size < b3 := by rw [hg_]; exact lt_of_block F0
            have hSx5 := hSx4.next hb_
            rw [← h_, ← hg_]
            clear h_ hg_
            replace F0 := keep_blk F0 hb_
            replace Fb2 := keep_blk Fb2 hb_
            clear hb_
            show runB _ _ _ _ 3 [3, 9, 10] _ _
            refine runB_one 3 (by kernel_rfl) (by kernel_rfl) (by rfl) (by rfl) ?_
            refine tdoes_op (w1 := x5.alloc (.cells vCells 60)) (v := .slice (some ⟨x5.heap.size, 0, none⟩) 3 3) (exec_vars _ _ _ rfl rfl rfl rfl) ⟨hSx5.next ((Below.refl _ _).alloc (Nat.le_refl _) _), ?_⟩
            (try dsimp only [Act.put])
            try simp only [List.setIfInBounds_toArray, List.set_cons_zero, List.set_cons_succ]
            obtain ⟨x6, h_⟩ : ∃ q, q = x5.alloc (.cells vCells 60) := ⟨_, rfl⟩
            obtain ⟨b1, hg_⟩ : ∃ q, q = x5.heap.size := ⟨_, rfl⟩
            have hb_ : Below x5.heap.size x5 x6 := by rw [h_]; exact (Below.refl _ _).alloc (Nat.le_refl _) _
            have Fb1 : x6.heap[b1]? = some (.cells vCells 60 (0, 0)) := by rw [h_, hg_]; exact heap_alloc_new x5 _
            have Gb1 : w.heap.size < b1 := by rw [hg_]; exact lt_of_block F0
            have hSx6 := hSx5.next hb_
            rw [← h_, ← hg_]
            clear h_ hg_
            replace F0 := keep_blk F0 hb_
            replace Fb2 := keep_blk Fb2 hb_
            replace Fb3 := keep_blk Fb3 hb_
            clear hb_
            show runB _ _ _ _ 2 [9, 10] _ _
            refine runB_at 9 (v := ?_) (by rfl) (by rfl) (by rfl) (by kernel_rfl) (by rfl) ?_ ?_
            rotate_left
            focus (intro w_ hw_; have f0_ := hw_.v0; have f1_ := hw_.v1; have f2_ := hw_.v2; go_simp; (try with_reducible rfl); done)
            (try dsimp only [Act.put])
            show runB _ _ _ _ 1 [10] _ _
            try simp only [List.setIfInBounds_toArray, List.set_cons_zero, List.set_cons_succ]
            refine runB_one 10 (by kernel_rfl) (by kernel_rfl) (by rfl) (by rfl) ?_
            refine tdoes_skip (w1 := x6.setRow w.heap.size #[.slice (some ⟨b1, 0, none⟩) 3 3, .slice (some ⟨b2, 0, none⟩) 1 1, .slice (some ⟨b3, 0, none⟩) 2 2]) (sep_store 25 _ _ rfl w.heap.size #[.slice (some ⟨b1, 0, none⟩) 3 3, .slice (some ⟨b2, 0, none⟩) 1 1, .slice (some ⟨b3, 0, none⟩) 2 2] rfl rfl 25 #[.slice none 0 0, .slice none 0 0, .slice none 0 0] F0 (by kernel_rfl) (by rfl) (by kernel_rfl)) ⟨hSx6.store _, ?_⟩
            show runB _ _ _ _ 0 [] _ _
            refine runB_nil ?_
            (try dsimp only [Act.put])
            try simp only [List.setIfInBounds_toArray, List.set_cons_zero, List.set_cons_succ]
            go_wp2_with fail
            refine bodyPost_ret (results_cell_row (ty := 25) rfl _ _ w.heap.size 25 _ (0, 0) _ rfl (setRow_heap _ _ _ _ _ _ F0) Tryz.underlying25 rfl (by kernel_rfl)) rfl ?_
            exact ⟨b1, b2, b3, rfl, Nat.le_of_lt Gb1, Nat.le_of_lt Gb2, Nat.le_of_lt Gb3, (setRow_other _ _ _ _ (by omega)).trans Fb1, (setRow_other _ _ _ _ (by omega)).trans Fb2, (setRow_other _ _ _ _ (by omega)).trans Fb3, (hSx6.store _).below⟩
      · refine tdoes_call (f := ?_) (args := ?_) (w1 := ?_) ?_ ?_
        rotate_left 3
        focus (go_simp; refine ⟨⟨?_, ?_⟩, ?_⟩ <;> with_reducible rfl)
        refine (lneed_any 2 0 1 (by decide) x2).mono ?_
        rintro e_ x3 ⟨rfl, hb_⟩
        have hSx3 := hSx2.next hb_
        refine ⟨_, rfl, hSx3, ?_⟩
        (try dsimp only [Act.put])
        try simp only [List.setIfInBounds_toArray, List.set_cons_zero, List.set_cons_succ]
        replace F0 := keep_blk F0 hb_
        clear hb_
        show runB _ _ _ _ 5 [3, 5, 8, 9, 10] _ _
        refine runB_three 3 5 8 (by kernel_rfl) (by kernel_rfl) (by rfl) (by rfl) (by rfl) (by rfl) (by rfl) (by rfl) ?_ ?_ ?_
        · refine tdoes_op (w1 := x3.alloc (.cells vCells 60)) (v := .slice (some ⟨x3.heap.size, 0, none⟩) 3 3) (exec_vars _ _ _ rfl rfl rfl rfl) ⟨hSx3.next ((Below.refl _ _).alloc (Nat.le_refl _) _), ?_⟩
          (try dsimp only [Act.put])
          try simp only [List.setIfInBounds_toArray, List.set_cons_zero, List.set_cons_succ]
          obtain ⟨x4, h_⟩ : ∃ q, q = x3.alloc (.cells vCells 60) := ⟨_, rfl⟩
          obtain ⟨b1, hg_⟩ : ∃ q, q = x3.heap.size := ⟨_, rfl⟩
          have hb_ : Below x3.heap.size x3 x4 := by rw [h_]; exact (Below.refl _ _).alloc (Nat.le_refl _) _
          have Fb1 : x4.heap[b1]? = some (.cells vCells 60 (0, 0)) := by rw [h_, hg_]; exact heap_alloc_new x3 _
          have Gb1 : w.heap.size < b1 := by rw [hg_]; exact lt_of_block F0
          have hSx4 := hSx3.next hb_
          rw [← h_, ← hg_]
          clear h_ hg_
          replace F0 := keep_blk F0 hb_
          clear hb_
          show runB _ _ _ _ 4 [5, 8, 9, 10] _ _
          refine runB_two 5 8 (by kernel_rfl) (by kernel_rfl) (by rfl) (by rfl) (by rfl) (by rfl) ?_ ?_
          · refine tdoes_op (w1 := x4.alloc (.cells oCells 43)) (v := .slice (some ⟨x4.heap.size, 0, none⟩) 1 1) (exec_kop1 _ rfl rfl) ⟨hSx4.next ((Below.refl _ _).alloc (Nat.le_refl _) _), ?_⟩
            (try dsimp only [Act.put])
            try simp only [List.setIfInBounds_toArray, List.set_cons_zero, List.set_cons_succ]
            obtain ⟨x5, h_⟩ : ∃ q, q = x4.alloc (.cells oCells 43) := ⟨_, rfl⟩
            obtain ⟨b2, hg_⟩ : ∃ q, q = x4.heap.size := ⟨_, rfl⟩
            have hb_ : Below x4.heap.size x4 x5 := by rw [h_]; exact (Below.refl _ _).alloc (Nat.le_refl _) _
            have Fb2 : x5.heap[b2]? = some (.cells oCells 43 (0, 0)) := by rw [h_, hg_]; exact heap_alloc_new x4 _
            have Gb2 : w.heap.size < b2 := by rw [hg_]; exact lt_of_block F0
            have hSx5 := hSx4.next hb_
            rw [← h_, ← hg_]
            clear h_ hg_
            replace F0 := keep_blk F0 hb_
            replace Fb1 := keep_blk Fb1 hb_
            clear hb_
            show runB _ _ _ _ 3 [8, 9, 10] _ _
            refine runB_one 8 (by kernel_rfl) (by kernel_rfl) (by rfl) (by rfl) ?_
            refine tdoes_op (w1 := x5.alloc (.cells rCells 43)) (v := .slice (some ⟨x5.heap.size, 0, none⟩) 2 2) (exec_kop2 _ _ rfl rfl rfl) ⟨hSx5.next ((Below.refl _ _).alloc (Nat.le_refl _) _), ?_⟩
            (try dsimp only [Act.put])
            try simp only [List.setIfInBounds_toArray, List.set_cons_zero, List.set_cons_succ]
            obtain ⟨x6, h_⟩ : ∃ q, q = x5.alloc (.cells rCells 43) := ⟨_, rfl⟩
            obtain ⟨b3, hg_⟩ : ∃ q, q = x5.heap.size := ⟨_, rfl⟩
            have hb_ : Below x5.heap.size x5 x6 := by rw [h_]; exact (Below.refl _ _).alloc (Nat.le_refl _) _
            have Fb3 : x6.heap[b3]? = some (.cells rCells 43 (0, 0)) := by rw [h_, hg_]; exact heap_alloc_new x5 _
            have Gb3 : w.heap.size < b3 := by rw [hg_]; exact lt_of_block F0
            have hSx6 := hSx5.next hb_
            rw [← h_, ← hg_]
            clear h_ hg_
            replace F0 := keep_blk F0 hb_
            replace Fb1 := keep_blk Fb1 hb_
            replace Fb2 := keep_blk Fb2 hb_
            clear hb_
            show runB _ _ _ _ 2 [9, 10] _ _
            refine runB_at 9 (v := ?_) (by rfl) (by rfl) (by rfl) (by kernel_rfl) (by rfl) ?_ ?_
            rotate_left
            focus (intro w_ hw_; have f0_ := hw_.v0; have f1_ := hw_.v1; have f2_ := hw_.v2; go_simp; (try with_reducible rfl); done)
            (try dsimp only [Act.put])
            show runB _ _ _ _ 1 [10] _ _
            try simp only [List.setIfInBounds_toArray, List.set_cons_zero, List.set_cons_succ]
            refine runB_one 10 (by kernel_rfl) (by kernel_rfl) (by rfl) (by rfl) ?_
            refine tdoes_skip (w1 := x6.setRow w.heap.size #[.slice (some ⟨b1, 0, none⟩) 3 3, .slice (some ⟨b2, 0, none⟩) 1 1, .slice (some ⟨b3, 0, none⟩) 2 2]) (sep_store 25 _ _ rfl w.heap.size #[.slice (some ⟨b1, 0, none⟩) 3 3, .slice (some ⟨b2, 0, none⟩) 1 1, .slice (some ⟨b3, 0, none⟩) 2 2] rfl rfl 25 #[.slice none 0 0, .slice none 0 0, .slice none 0 0] F0 (by kernel_rfl) (by rfl) (by kernel_rfl)) ⟨hSx6.store _, ?_⟩
            show runB _ _ _ _ 0 [] _ _
            refine runB_nil ?_
            (try dsimp only [Act.put])
            try simp only [List.setIfInBounds_toArray, List.set_cons_zero, List.set_cons_succ]
            go_wp2_with fail
            refine bodyPost_ret (results_cell_row (ty := 25) rfl _ _ w.heap.size 25 _ (0, 0) _ rfl (setRow_heap _ _ _ _ _ _ F0) Tryz.underlying25 rfl (by kernel_rfl)) rfl ?_
            exact ⟨b1, b2, b3, rfl, Nat.le_of_lt Gb1, Nat.le_of_lt Gb2, Nat.le_of_lt Gb3, (setRow_other _ _ _ _ (by omega)).trans Fb1, (setRow_other _ _ _ _ (by omega)).trans Fb2, (setRow_other _ _ _ _ (by omega)).trans Fb3, (hSx6.store _).below⟩
          · refine tdoes_op (w1 := x4.alloc (.cells rCells 43)) (v := .slice (some ⟨x4.heap.size, 0, none⟩) 2 2) (exec_kop2 _ _ rfl rfl rfl) ⟨hSx4.next ((Below.refl _ _).alloc (Nat.le_refl _) _), ?_⟩
            (try dsimp only [Act.put])
            try simp only [List.setIfInBounds_toArray, List.set_cons_zero, List.set_cons_succ]
            obtain ⟨x5, h_⟩ : ∃ q, q = x4.alloc (.cells rCells 43) := ⟨_, rfl⟩
            obtain ⟨b3, hg_⟩ : ∃ q, q = x4.heap.size := ⟨_, rfl⟩
            have hb_ : Below x4.heap.size x4 x5 := by rw [h_]; exact (Below.refl _ _).alloc (Nat.le_refl _) _
            have Fb3 : x5.heap[b3]? = some (.cells rCells 43 (0, 0)) := by rw [h_, hg_]; exact heap_alloc_new x4 _
            have Gb3 : w.heap.size < b3 := by rw [hg_]; exact lt_of_block F0
            have hSx5 := hSx4.next hb_
            rw [← h_, ← hg_]
            clear h_ hg_
            replace F0 := keep_blk F0 hb_
            replace Fb1 := keep_blk Fb1 hb_
            clear hb_
            show runB _ _ _ _ 3 [5, 9, 10] _ _
            refine runB_one 5 (by kernel_rfl) (by kernel_rfl) (by rfl) (by rfl) ?_
            refine tdoes_op (w1 := x5.alloc (.cells oCells 43)) (v := .slice (some ⟨x5.heap.size, 0, none⟩) 1 1) (exec_kop1 _ rfl rfl) ⟨hSx5.next ((Below.refl _ _).alloc (Nat.le_refl _) _), ?_⟩
            (try dsimp only [Act.put])
            try simp only [List.setIfInBounds_toArray, List.set_cons_zero, List.set_cons_succ]
            obtain ⟨x6, h_⟩ : ∃ q, q = x5.alloc (.cells oCells 43) := ⟨_, rfl⟩
            obtain ⟨b2, hg_⟩ : ∃ q, q = x5.heap.size := ⟨_, rfl⟩
            have hb_ : Below x5.heap.size x5 x6 := by rw [h_]; exact (Below.refl _ _).alloc (Nat.le_refl _) _
            have Fb2 : x6.heap[b2]? = some (.cells oCells 43 (0, 0)) := by rw [h_, hg_]; exact heap_alloc_new x5 _
            have Gb2 : w.heap.size < b2 := by rw [hg_]; exact lt_of_block F0
            have hSx6 := hSx5.next hb_
            rw [← h_, ← hg_]
            clear h_ hg_
            replace F0 := keep_blk F0 hb_
            replace Fb1 := keep_blk Fb1 hb_
            replace Fb3 := keep_blk Fb3 hb_
            clear hb_
            show runB _ _ _ _ 2 [9, 10] _ _
            refine runB_at 9 (v := ?_) (by rfl) (by rfl) (by rfl) (by kernel_rfl) (by rfl) ?_ ?_
            rotate_left
            focus (intro w_ hw_; have f0_ := hw_.v0; have f1_ := hw_.v1; have f2_ := hw_.v2; go_simp; (try with_reducible rfl); done)
            (try dsimp only [Act.put])
            show runB _ _ _ _ 1 [10] _ _
            try simp only [List.setIfInBounds_toArray, List.set_cons_zero, List.set_cons_succ]
            refine runB_one 10 (by kernel_rfl) (by kernel_rfl) (by rfl) (by rfl) ?_
            refine tdoes_skip (w1 := x6.setRow w.heap.size #[.slice (some ⟨b1, 0, none⟩) 3 3, .slice (some ⟨b2, 0, none⟩) 1 1, .slice (some ⟨b3, 0, none⟩) 2 2]) (sep_store 25 _ _ rfl w.heap.size #[.slice (some ⟨b1, 0, none⟩) 3 3, .slice (some ⟨b2, 0, none⟩) 1 1, .slice (some ⟨b3, 0, none⟩) 2 2] rfl rfl 25 #[.slice none 0 0, .slice none 0 0, .slice none 0 0] F0 (by kernel_rfl) (by rfl) (by kernel_rfl)) ⟨hSx6.store _, ?_⟩
            show runB _ _ _ _ 0 [] _ _
            refine runB_nil ?_
            (try dsimp only [Act.put])
            try simp only [List.setIfInBounds_toArray, List.set_cons_zero, List.set_cons_succ]
            go_wp2_with fail
            refine bodyPost_ret (results_cell_row (ty := 25) rfl _ _ w.heap.size 25 _ (0, 0) _ rfl (setRow_heap _ _ _ _ _ _ F0) Tryz.underlying25 rfl (by kernel_rfl)) rfl ?_
            exact ⟨b1, b2, b3, rfl, Nat.le_of_lt Gb1, Nat.le_of_lt Gb2, Nat.le_of_lt Gb3, (setRow_other _ _ _ _ (by omega)).trans Fb1, (setRow_other _ _ _ _ (by omega)).trans Fb2, (setRow_other _ _ _ _ (by omega)).trans Fb3, (hSx6.store _).below⟩
        · refine tdoes_op (w1 := x3.alloc (.cells oCells 43)) (v := .slice (some ⟨x3.heap.size, 0, none⟩) 1 1) (exec_kop1 _ rfl rfl) ⟨hSx3.next ((Below.refl _ _).alloc (Nat.le_refl _) _), ?_⟩
          (try dsimp only [Act.put])
          try simp only [List.setIfInBounds_toArray, List.set_cons_zero, List.set_cons_succ]
          obtain ⟨x4, h_⟩ : ∃ q, q = x3.alloc (.cells oCells 43) := ⟨_, rfl⟩
          obtain ⟨b2, hg_⟩ : ∃ q, q = x3.heap.size := ⟨_, rfl⟩
          have hb_ : Below x3.heap.size x3 x4 := by rw [h_]; exact (Below.refl _ _).alloc (Nat.le_refl _) _
          have Fb2 : x4.heap[b2]? = some (.cells oCells 43 (0, 0)) := by rw [h_, hg_]; exact heap_alloc_new x3 _
          have Gb2 : w.heap.size < b2 := by rw [hg_]; exact lt_of_block F0
          have hSx4 := hSx3.next hb_
          rw [← h_, ← hg_]
          clear h_ hg_
          replace F0 := keep_blk F0 hb_
          clear hb_
          show runB _ _ _ _ 4 [3, 8, 9, 10] _ _
          refine runB_two 3 8 (by kernel_rfl) (by kernel_rfl) (by rfl) (by rfl) (by rfl) (by rfl) ?_ ?_
          · refine tdoes_op (w1 := x4.alloc (.cells vCells 60)) (v := .slice (some ⟨x4.heap.size, 0, none⟩) 3 3) (exec_vars _ _ _ rfl rfl rfl rfl) ⟨hSx4.next ((Below.refl _ _).alloc (Nat.le_refl _) _), ?_⟩
            (try dsimp only [Act.put])
            try simp only [List.setIfInBounds_toArray, List.set_cons_zero, List.set_cons_succ]
            obtain ⟨x5, h_⟩ : ∃ q, q = x4.alloc (.cells vCells 60) := ⟨_, rfl⟩
            obtain ⟨b1, hg_⟩ : ∃ q, q = x4.heap.size := ⟨_, rfl⟩
            have hb_ : Below x4.heap.size x4 x5 := by rw [h_]; exact (Below.refl _ _).alloc (Nat.le_refl _) _
            have Fb1 : x5.heap[b1]? = some (.cells vCells 60 (0, 0)) := by rw [h_, hg_]; exact heap_alloc_new x4 _
            have Gb1 : w.heap.size < b1 := by rw [hg_]; exact lt_of_block F0
            have hSx5 := hSx4.next hb_
            rw [← h_, ← hg_]
            clear h_ hg_
            replace F0 := keep_blk F0 hb_
            replace Fb2 := keep_blk Fb2 hb_
            clear hb_
            show runB _ _ _ _ 3 [8, 9, 10] _ _
            refine runB_one 8 (by kernel_rfl) (by kernel_rfl) (by rfl) (by rfl) ?_
            refine tdoes_op (w1 := x5.alloc (.cells rCells 43)) (v := .slice (some ⟨x5.heap.size, 0, none⟩) 2 2) (exec_kop2 _ _ rfl rfl rfl) ⟨hSx5.next ((Below.refl _ _).alloc (Nat.le_refl _) _), ?_⟩
            (try dsimp only [Act.put])
            try simp only [List.setIfInBounds_toArray, List.set_cons_zero, List.set_cons_succ]
            obtain ⟨x6, h_⟩ : ∃ q, q = x5.alloc (.cells rCells 43) := ⟨_, rfl⟩
            obtain ⟨b3, hg_⟩ : ∃ q, q = x5.heap.size := ⟨_, rfl⟩
            have hb_ : Below x5.heap.size x5 x6 := by rw [h_]; exact (Below.refl _ _).alloc (Nat.le_refl _) _
            have Fb3 : x6.heap[b3]? = some (.cells rCells 43 (0, 0)) := by rw [h_, hg_]; exact heap_alloc_new x5 _
            have Gb3 : w.heap.size < b3 := by rw [hg_]; exact lt_of_block F0
            have hSx6 := hSx5.next hb_
            rw [← h_, ← hg_]
            clear h_ hg_
            replace F0 := keep_blk F0 hb_
            replace Fb2 := keep_blk Fb2 hb_
            replace Fb1 := keep_blk Fb1 hb_
            clear hb_
            show runB _ _ _ _ 2 [9, 10] _ _
            refine runB_at 9 (v := ?_) (by rfl) (by rfl) (by rfl) (by kernel_rfl) (by rfl) ?_ ?_
            rotate_left
            focus (intro w_ hw_; have f0_ := hw_.v0; have f1_ := hw_.v1; have f2_ := hw_.v2; go_simp; (try with_reducible rfl); done)
            (try dsimp only [Act.put])
            show runB _ _ _ _ 1 [10] _ _
            try simp only [List.setIfInBounds_toArray, List.set_cons_zero, List.set_cons_succ]
            refine runB_one 10 (by kernel_rfl) (by kernel_rfl) (by rfl) (by rfl) ?_
            refine tdoes_skip (w1 := x6.setRow w.heap.size #[.slice (some ⟨b1, 0, none⟩) 3 3, .slice (some ⟨b2, 0, none⟩) 1 1, .slice (some ⟨b3, 0, none⟩) 2 2]) (sep_store 25 _ _ rfl w.heap.size #[.slice (some ⟨b1, 0, none⟩) 3 3, .slice (some ⟨b2, 0, none⟩) 1 1, .slice (some ⟨b3, 0, none⟩) 2 2] rfl rfl 25 #[.slice none 0 0, .slice none 0 0, .slice none 0 0] F0 (by kernel_rfl) (by rfl) (by kernel_rfl)) ⟨hSx6.store _, ?_⟩
            show runB _ _ _ _ 0 [] _ _
            refine runB_nil ?_
            (try dsimp only [Act.put])
            try simp only [List.setIfInBounds_toArray, List.set_cons_zero, List.set_cons_succ]
            go_wp2_with fail
            refine bodyPost_ret (results_cell_row (ty := 25) rfl _ _ w.heap.size 25 _ (0, 0) _ rfl (setRow_heap _ _ _ _ _ _ F0) Tryz.underlying25 rfl (by kernel_rfl)) rfl ?_
            exact ⟨b1, b2, b3, rfl, Nat.le_of_lt Gb1, Nat.le_of_lt Gb2, Nat.le_of_lt Gb3, (setRow_other _ _ _ _ (by omega)).trans Fb1, (setRow_other _ _ _ _ (by omega)).trans Fb2, (setRow_other _ _ _ _ (by omega)).trans Fb3, (hSx6.store _).below⟩
          · refine tdoes_op (w1 := x4.alloc (.cells rCells 43)) (v := .slice (some ⟨x4.heap.size, 0, none⟩) 2 2) (exec_kop2 _ _ rfl rfl rfl) ⟨hSx4.next ((Below.refl _ _).alloc (Nat.le_refl _) _), ?_⟩
            (try dsimp only [Act.put])
            try simp only [List.setIfInBounds_toArray, List.set_cons_zero, List.set_cons_succ]
            obtain ⟨x5, h_⟩ : ∃ q, q = x4.alloc (.cells rCells 43) := ⟨_, rfl⟩
            obtain ⟨b3, hg_⟩ : ∃ q, q = x4.heap.size := ⟨_, rfl⟩
            have hb_ : Below x4.heap.size x4 x5 := by rw [h_]; exact (Below.refl _ _).alloc (Nat.le_refl _) _
            have Fb3 : x5.heap[b3]? = some (.cells rCells 43 (0, 0)) := by rw [h_, hg_]; exact heap_alloc_new x4 _
            have Gb3 : w.heap.size < b3 := by rw [hg_]; exact lt_of_block F0
            have hSx5 := hSx4.next hb_
            rw [← h_, ← hg_]
            clear h_ hg_
            replace F0 := keep_blk F0 hb_
            replace Fb2 := keep_blk Fb2 hb_
            clear hb_
            show runB _ _ _ _ 3 [3, 9, 10] _ _
            refine runB_one 3 (by kernel_rfl) (by kernel_rfl) (by rfl) (by rfl) ?_
            refine tdoes_op (w1 := x5.alloc (.cells vCells 60)) (v := .slice (some ⟨x5.heap.size, 0, none⟩) 3 3) (exec_vars _ _ _ rfl rfl rfl rfl) ⟨hSx5.next ((Below.refl _ _).alloc (Nat.le_refl _) _), ?_⟩
            (try dsimp only [Act.put])
            try simp only [List.setIfInBounds_toArray, List.set_cons_zero, List.set_cons_succ]
            obtain ⟨x6, h_⟩ : ∃ q, q = x5.alloc (.cells vCells 60) := ⟨_, rfl⟩
            obtain ⟨b1, hg_⟩ : ∃ q, q = x5.heap.size := ⟨_, rfl⟩
            have hb_ : Below x5.heap.size x5 x6 := by rw [h_]; exact (Below.refl _ _).alloc (Nat.le_refl _) _
            have Fb1 : x6.heap[b1]? = some (.cells vCells 60 (0, 0)) := by rw [h_, hg_]; exact heap_alloc_new x5 _
            have Gb1 : w.heap.size < b1 := by rw [hg_]; exact lt_of_block F0
            have hSx6 := hSx5.next hb_
            rw [← h_, ← hg_]
            clear h_ hg_
            replace F0 := keep_blk F0 hb_
            replace Fb2 := keep_blk Fb2 hb_
            replace Fb3 := keep_blk Fb3 hb_
            clear hb_
            show runB _ _ _ _ 2 [9, 10] _ _
            refine runB_at 9 (v := ?_) (by rfl) (by rfl) (by rfl) (by kernel_rfl) (by rfl) ?_ ?_
            rotate_left
            focus (intro w_ hw_; have f0_ := hw_.v0; have f1_ := hw_.v1; have f2_ := hw_.v2; go_simp; (try with_reducible rfl); done)
            (try dsimp only [Act.put])
            show runB _ _ _ _ 1 [10] _ _
            try simp only [List.setIfInBounds_toArray, List.set_cons_zero, List.set_cons_succ]
            refine runB_one 10 (by kernel_rfl) (by kernel_rfl) (by rfl) (by rfl) ?_
            refine tdoes_skip (w1 := x6.setRow w.heap.size #[.slice (some ⟨b1, 0, none⟩) 3 3, .slice (some ⟨b2, 0, none⟩) 1 1, .slice (some ⟨b3, 0, none⟩) 2 2]) (sep_store 25 _ _ rfl w.heap.size #[.slice (some ⟨b1, 0, none⟩) 3 3, .slice (some ⟨b2, 0, none⟩) 1 1, .slice (some ⟨b3, 0, none⟩) 2 2] rfl rfl 25 #[.slice none 0 0, .slice none 0 0, .slice none 0 0] F0 (by kernel_rfl) (by rfl) (by kernel_rfl)) ⟨hSx6.store _, ?_⟩
            show runB _ _ _ _ 0 [] _ _
            refine runB_nil ?_
            (try dsimp only [Act.put])
            try simp only [List.setIfInBounds_toArray, List.set_cons_zero, List.set_cons_succ]
            go_wp2_with fail
            refine bodyPost_ret (results_cell_row (ty := 25) rfl _ _ w.heap.size 25 _ (0, 0) _ rfl (setRow_heap _ _ _ _ _ _ F0) Tryz.underlying25 rfl (by kernel_rfl)) rfl ?_
            exact ⟨b1, b2, b3, rfl, Nat.le_of_lt Gb1, Nat.le_of_lt Gb2, Nat.le_of_lt Gb3, (setRow_other _ _ _ _ (by omega)).trans Fb1, (setRow_other _ _ _ _ (by omega)).trans Fb2, (setRow_other _ _ _ _ (by omega)).trans Fb3, (hSx6.store _).below⟩
        · refine tdoes_op (w1 := x3.alloc (.cells rCells 43)) (v := .slice (some ⟨x3.heap.size, 0, none⟩) 2 2) (exec_kop2 _ _ rfl rfl rfl) ⟨hSx3.next ((Below.refl _ _).alloc (Nat.le_refl _) _), ?_⟩
          (try dsimp only [Act.put])
          try simp only [List.setIfInBounds_toArray, List.set_cons_zero, List.set_cons_succ]
          obtain ⟨x4, h_⟩ : ∃ q, q = x3.alloc (.cells rCells 43) := ⟨_, rfl⟩
          obtain ⟨b3, hg_⟩ : ∃ q, q = x3.heap.size := ⟨_, rfl⟩
          have hb_ : Below x3.heap.size x3 x4 := by rw [h_]; exact (Below.refl _ _).alloc (Nat.le_refl _) _
          have Fb3 : x4.heap[b3]? = some (.cells rCells 43 (0, 0)) := by rw [h_, hg_]; exact heap_alloc_new x3 _
          have Gb3 : w.heap.size < b3 := by rw [hg_]; exact lt_of_block F0
          have hSx4 := hSx3.next hb_
          rw [← h_, ← hg_]
          clear h_ hg_
          replace F0 := keep_blk F0 hb_
          clear hb_
          show runB _ _ _ _ 4 [3, 5, 9, 10] _ _
          refine runB_two 3 5 (by kernel_rfl) (by kernel_rfl) (by rfl) (by rfl) (by rfl) (by rfl) ?_ ?_
          · refine tdoes_op (w1 := x4.alloc (.cells vCells 60)) (v := .slice (some ⟨x4.heap.size, 0, none⟩) 3 3) (exec_vars _ _ _ rfl rfl rfl rfl) ⟨hSx4.next ((Below.refl _ _).alloc (Nat.le_refl _) _), ?_⟩
            (try dsimp only [Act.put])
            try simp only [List.setIfInBounds_toArray, List.set_cons_zero, List.set_cons_succ]
            obtain ⟨x5, h_⟩ : ∃ q, q = x4.alloc (.cells vCells 60) := ⟨_, rfl⟩
            obtain ⟨b1, hg_⟩ : ∃ q, q = x4.heap.size := ⟨_, rfl⟩
            have hb_ : Below x4.heap.size x4 x5 := by rw [h_]; exact (Below.refl _ _).alloc (Nat.le_refl _) _
            have Fb1 : x5.heap[b1]? = some (.cells vCells 60 (0, 0)) := by rw [h_, hg_]; exact heap_alloc_new x4 _
            have Gb1 : w.heap.size < b1 := by rw [hg_]; exact lt_of_block F0
            have hSx5 := hSx4.next hb_
            rw [← h_, ← hg_]
            clear h_ hg_
            replace F0 := keep_blk F0 hb_
            replace Fb3 := keep_blk Fb3 hb_
            clear hb_
            show runB _ _ _ _ 3 [5, 9, 10] _ _
            refine runB_one 5 (by kernel_rfl) (by kernel_rfl) (by rfl) (by rfl) ?_
            refine tdoes_op (w1 := x5.alloc (.cells oCells 43)) (v := .slice (some ⟨x5.heap.size, 0, none⟩) 1 1) (exec_kop1 _ rfl rfl) ⟨hSx5.next ((Below.refl _ _).alloc (Nat.le_refl _) _), ?_⟩
            (try dsimp only [Act.put])
            try simp only [List.setIfInBounds_toArray, List.set_cons_zero, List.set_cons_succ]
            obtain ⟨x6, h_⟩ : ∃ q, q = x5.alloc (.cells oCells 43) := ⟨_, rfl⟩
            obtain ⟨b2, hg_⟩ : ∃ q, q = x5.heap.size := ⟨_, rfl⟩
            have hb_ : Below x5.heap.size x5 x6 := by rw [h_]; exact (Below.refl _ _).alloc (Nat.le_refl _) _
            have Fb2 : x6.heap[b2]? = some (.cells oCells 43 (0, 0)) := by rw [h_, hg_]; exact heap_alloc_new x5 _
            have Gb2 : w.heap.size < b2 := by rw [hg_]; exact lt_of_block F0
            have hSx6 := hSx5.next hb_
            rw [← h_, ← hg_]
            clear h_ hg_
            replace F0 := keep_blk F0 hb_
            replace Fb3 := keep_blk Fb3 hb_
            replace Fb1 := keep_blk Fb1 hb_
            clear hb_
            show runB _ _ _ _ 2 [9, 10] _ _
            refine runB_at 9 (v := ?_) (by rfl) (by rfl) (by rfl) (by kernel_rfl) (by rfl) ?_ ?_
            rotate_left
            focus (intro w_ hw_; have f0_ := hw_.v0; have f1_ := hw_.v1; have f2_ := hw_.v2; go_simp; (try with_reducible rfl); done)
            (try dsimp only [Act.put])
            show runB _ _ _ _ 1 [10] _ _
            try simp only [List.setIfInBounds_toArray, List.set_cons_zero, List.set_cons_succ]
            refine runB_one 10 (by kernel_rfl) (by kernel_rfl) (by rfl) (by rfl) ?_
            refine tdoes_skip (w1 := x6.setRow w.heap.size #[.slice (some ⟨b1, 0, none⟩) 3 3, .slice (some ⟨b2, 0, none⟩) 1 1, .slice (some ⟨b3, 0, none⟩) 2 2]) (sep_store 25 _ _ rfl w.heap.size #[.slice (some ⟨b1, 0, none⟩) 3 3, .slice (some ⟨b2, 0, none⟩) 1 1, .slice (some ⟨b3, 0, none⟩) 2 2] rfl rfl 25 #[.slice none 0 0, .slice none 0 0, .slice none 0 0] F0 (by kernel_rfl) (by rfl) (by kernel_rfl)) ⟨hSx6.store _, ?_⟩
            show runB _ _ _ _ 0 [] _ _
            refine runB_nil ?_
            (try dsimp only [Act.put])
            try simp only [List.setIfInBounds_toArray, List.set_cons_zero, List.set_cons_succ]
            go_wp2_with fail
            refine bodyPost_ret (results_cell_row (ty := 25) rfl _ _ w.heap.size 25 _ (0, 0) _ rfl (setRow_heap _ _ _ _ _ _ F0) Tryz.underlying25 rfl (by kernel_rfl)) rfl ?_
            exact ⟨b1, b2, b3, rfl, Nat.le_of_lt Gb1, Nat.le_of_lt Gb2, Nat.le_of_lt Gb3, (setRow_other _ _ _ _ (by omega)).trans Fb1, (setRow_other _ _ _ _ (by omega)).trans Fb2, (setRow_other _ _ _ _ (by omega)).trans Fb3, (hSx6.store _).below⟩
          · refine tdoes_op (w1 := x4.alloc (.cells oCells 43)) (v := .slice (some ⟨x4.heap.size, 0, none⟩) 1 1) (exec_kop1 _ rfl rfl) ⟨hSx4.next ((Below.refl _ _).alloc (Nat.le_refl _) _), ?_⟩
            (try dsimp only [Act.put])
            try simp only [List.setIfInBounds_toArray, List.set_cons_zero, List.set_cons_succ]
            obtain ⟨x5, h_⟩ : ∃ q, q = x4.alloc (.cells oCells 43) := ⟨_, rfl⟩
            obtain ⟨b2, hg_⟩ : ∃ q, q = x4.heap.size := ⟨_, rfl⟩
            have hb_ : Below x4.heap.size x4 x5 := by rw [h_]; exact (Below.refl _ _).alloc (Nat.le_refl _) _
            have Fb2 : x5.heap[b2]? = some (.cells oCells 43 (0, 0)) := by rw [h_, hg_]; exact heap_alloc_new x4 _
            have Gb2 : w.heap.size < b2 := by rw [hg_]; exact lt_of_block F0
            have hSx5 := hSx4.next hb_
            rw [← h_, ← hg_]
            clear h_ hg_
            replace F0 := keep_blk F0 hb_
            replace Fb3 := keep_blk Fb3 hb_
            clear hb_
            show runB _ _ _ _ 3 [3, 9, 10] _ _
            refine runB_one 3 (by kernel_rfl) (by kernel_rfl) (by rfl) (by rfl) ?_
            refine tdoes_op (w1 := x5.alloc (.cells vCells 60)) (v := .slice (some ⟨x5.heap.size, 0, none⟩) 3 3) (exec_vars _ _ _ rfl rfl rfl rfl) ⟨hSx5.next ((Below.refl _ _).alloc (Nat.le_refl _) _), ?_⟩
            (try dsimp only [Act.put])
            try simp only [List.setIfInBounds_toArray, List.set_cons_zero, List.set_cons_succ]
            obtain ⟨x6, h_⟩ : ∃ q, q = x5.alloc (.cells vCells 60) := ⟨_, rfl⟩
            obtain ⟨b1, hg_⟩ : ∃ q, q = x5.heap.size := ⟨_, rfl⟩
            have hb_ : Below x5.heap.size x5 x6 := by rw [h_]; exact (Below.refl _ _).alloc (Nat.le_refl _) _
            have Fb1 : x6.heap[b1]? = some (.cells vCells 60 (0, 0)) := by rw [h_, hg_]; exact heap_alloc_new x5 _
            have Gb1 : w.heap.size < b1 := by rw [hg_]; exact lt_of_block F0
            have hSx6 := hSx5.next hb_
            rw [← h_, ← hg_]
            clear h_ hg_
            replace F0 := keep_blk F0 hb_
            replace Fb3 := keep_blk Fb3 hb_
            replace Fb2 := keep_blk Fb2 hb_
            clear hb_
            show runB _ _ _ _ 2 [9, 10] _ _
            refine runB_at 9 (v := ?_) (by rfl) (by rfl) (by rfl) (by kernel_rfl) (by rfl) ?_ ?_
            rotate_left
            focus (intro w_ hw_; have f0_ := hw_.v0; have f1_ := hw_.v1; have f2_ := hw_.v2; go_simp; (try with_reducible rfl); done)
            (try dsimp only [Act.put])
            show runB _ _ _ _ 1 [10] _ _
            try simp only [List.setIfInBounds_toArray, List.set_cons_zero, List.set_cons_succ]
            refine runB_one 10 (by kernel_rfl) (by kernel_rfl) (by rfl) (by rfl) ?_
            refine tdoes_skip (w1 := x6.setRow w.heap.size #[.slice (some ⟨b1, 0, none⟩) 3 3, .slice (some ⟨b2, 0, none⟩) 1 1, .slice (some ⟨b3, 0, none⟩) 2 2]) (sep_store 25 _ _ rfl w.heap.size #[.slice (some ⟨b1, 0, none⟩) 3 3, .slice (some ⟨b2, 0, none⟩) 1 1, .slice (some ⟨b3, 0, none⟩) 2 2] rfl rfl 25 #[.slice none 0 0, .slice none 0 0, .slice none 0 0] F0 (by kernel_rfl) (by rfl) (by kernel_rfl)) ⟨hSx6.store _, ?_⟩
            show runB _ _ _ _ 0 [] _ _
            refine runB_nil ?_
            (try dsimp only [Act.put])
            try simp only [List.setIfInBounds_toArray, List.set_cons_zero, List.set_cons_succ]
            go_wp2_with fail
            refine bodyPost_ret (results_cell_row (ty := 25) rfl _ _ w.heap.size 25 _ (0, 0) _ rfl (setRow_heap _ _ _ _ _ _ F0) Tryz.underlying25 rfl (by kernel_rfl)) rfl ?_
            exact ⟨b1, b2, b3, rfl, Nat.le_of_lt Gb1, Nat.le_of_lt Gb2, Nat.le_of_lt Gb3, (setRow_other _ _ _ _ (by omega)).trans Fb1, (setRow_other _ _ _ _ (by omega)).trans Fb2, (setRow_other _ _ _ _ (by omega)).trans Fb3, (hSx6.store _).below⟩
end Go.Proofs.YtjbabpnepjhllaaGreat

/- law21: lives. -/
namespace Go.Proofs.YtjbabpnepjhllaaGreat
open Go.RowKit

/-- The product, with mod in place of mont. -/
def exK2 : Krn := { exK with ops := [⟨9, 2, -1, 0, -1, 0, 0⟩] }
theorem ex_check : checkK exK = true ∧ checkK exK2 = true := by constructor <;> kernel_rfl
theorem ex_ahead : AheadIs exK [startF exK] := by
  unfold AheadIs
  rw [if_pos ex_check.1]
  exact ⟨_, .op (show 0 < 1 by decide) rfl (by decide) (.done (Nat.le_refl _))⟩
theorem ex_ahead2 : AheadIs exK2 [startF exK2] := by
  unfold AheadIs
  rw [if_pos ex_check.2]
  exact ⟨_, .op (show 0 < 1 by decide) rfl (by decide) (.done (Nat.le_refl _))⟩
theorem ex_miss : missF exK [startF exK] 0 = false ∧ missF exK2 [startF exK2] 0 = true := by constructor <;> kernel_rfl
theorem ex_is {at_ e : Int} (h : DChk exK [startF exK] at_ e) : at_ = 1 ∧ e = 0 := by
  rcases h with h | ⟨_, h | ⟨i, h1, h2, h3, h4, _⟩⟩
  · rw [ex_check.1] at h; exact absurd h.1 (by decide)
  · exact ⟨h.2.1, h.1⟩
  · have : i = 0 := by have : exK.ops.length = 1 := rfl; omega
    subst this
    rw [ex_miss.1] at h4; exact absurd h4 (by decide)
theorem ex_is2 {at_ e : Int} (h : DChk exK2 [startF exK2] at_ e) : at_ = 0 ∧ e = 9 := by
  rcases h with h | ⟨_, h | ⟨i, h1, h2, h3, h4, _⟩⟩
  · rw [ex_check.2] at h; exact absurd h.1 (by decide)
  · have := h.2.2 0 (by decide)
    rw [ex_miss.2] at this; exact absurd this (by decide)
  · have : i = 0 := by have : exK2.ops.length = 1 := rfl; omega
    subst this
    exact ⟨h3, h2⟩
theorem small64 {x : Int} (h : -100 ≤ x ∧ x ≤ 100) : In64 x := by unfold In64; omega
def smallOp (o : KOp) : Bool := [o.kind, o.d, o.e, o.a, o.b, o.c].all (fun x => decide (-100 ≤ x) && decide (x ≤ 100)) && decide (o.imm ≤ 100)
theorem small_ok {o : KOp} (h : smallOp o = true) : KOpOk o := by
  unfold smallOp at h
  simp only [List.all_cons, List.all_nil, Bool.and_eq_true, decide_eq_true_eq, Bool.and_true] at h
  obtain ⟨⟨h1, h2, h3, h4, h5, h6⟩, h7⟩ := h
  exact ⟨small64 h1, small64 h2, small64 h3, small64 h4, small64 h5, small64 h6, by omega⟩
/-- Rows, off cells. -/
theorem flat_at {rows : List (List Value)} {sz : Nat} (hs : ∀ r ∈ rows, r.length = sz) {i j : Nat} {r : List Value} {u : Value} (hr : rows[i]? = some r) (hu : r[j]? = some u) : rows.flatten.toArray[i * sz + j]? = some u := by
  rw [List.getElem?_toArray]
  induction rows generalizing i with
  | nil => cases hr
  | cons a l ih =>
    have ha := hs a (by simp)
    cases i with
    | zero =>
      simp only [List.getElem?_cons_zero, Option.some.injEq] at hr
      subst hr
      rw [List.flatten_cons, Nat.zero_mul, Nat.zero_add, List.getElem?_append_left (List.getElem?_eq_some_iff.1 hu).1]
      exact hu
    | succ i =>
      rw [List.getElem?_cons_succ] at hr
      have h := ih (fun r h => hs r (by simp [h])) hr
      rw [List.flatten_cons, List.getElem?_append_right (by rw [ha, Nat.succ_mul]; omega), ha, show (i + 1) * sz + j - sz = i * sz + j by rw [Nat.succ_mul]; omega]
      exact h
theorem rows_block {w : World} {g sz t n cap : Nat} {fr : Nat × Nat} {rows : List (List Value)} (h : w.heap[g]? = some (.cells rows.flatten.toArray t fr)) (hs : ∀ r ∈ rows, r.length = sz) (hn : rows.length = n) (hcap : n ≤ cap) : Rows w (fun k => k = g) sz (.slice (some ⟨g, 0, none⟩) n cap) rows :=
  row_block h (fun _ _ _ _ hr hu => flat_at hs hr hu) hs hn hcap
theorem ex_kern {w : World} {b1 b2 b3 : Nat} {oc : Array Value} (k : Krn) (hv : k.vars = exK.vars) (hq : k.reqs = exK.reqs) (hl : k.ops.length = 1) (ho : ∀ o ∈ k.ops, smallOp o = true) (hoc : oc = (k.ops.map kopRow).flatten.toArray)
    (h1 : w.heap[b1]? = some (.cells vCells 60 (0, 0))) (h2 : w.heap[b2]? = some (.cells oc 43 (0, 0))) (h3 : w.heap[b3]? = some (.cells rCells 43 (0, 0))) :
    KernAt w (fun q => q < w.heap.size) [.slice (some ⟨b1, 0, none⟩) 3 3, .slice (some ⟨b2, 0, none⟩) 1 1, .slice (some ⟨b3, 0, none⟩) 2 2] k := by
  have g1 := lt_of_block h1
  have g2 := lt_of_block h2
  have g3 := lt_of_block h3
  have r1 : KVarsAt w (fun q => q < w.heap.size) (.slice (some ⟨b1, 0, none⟩) 3 3) k.vars := by
    rw [hv]
    exact Rows.mono (rows_block (rows := exK.vars.map kvarRow) h1 (fun r hr => by obtain ⟨x, _, rfl⟩ := List.mem_map.1 hr; rfl) rfl (by decide)) fun q hq => by subst hq; exact g1
  have r2 : KOpsAt w (fun q => q < w.heap.size) (.slice (some ⟨b2, 0, none⟩) 1 1) k.ops :=
    Rows.mono (rows_block (rows := k.ops.map kopRow) (hoc ▸ h2) (fun r hr => by obtain ⟨x, _, rfl⟩ := List.mem_map.1 hr; rfl) (by rw [List.length_map]; exact hl) (by decide)) fun q hq => by subst hq; exact g2
  have r3 : KOpsAt w (fun q => q < w.heap.size) (.slice (some ⟨b3, 0, none⟩) 2 2) k.reqs := by
    rw [hq]
    exact Rows.mono (rows_block (rows := exK.reqs.map kopRow) h3 (fun r hr => by obtain ⟨x, _, rfl⟩ := List.mem_map.1 hr; rfl) rfl (by decide)) fun q hq => by subst hq; exact g3
  refine ⟨⟨_, _, _, rfl, r1, r2, r3⟩, by rw [hv]; decide, by rw [hl]; decide, by rw [hq]; decide, ?_, fun o h => small_ok (ho o h), ?_⟩
  · rw [hv]
    intro v h
    have : v.limbs = 1 ∧ (v.mode = 2 ∨ v.mode = 3) := by
      simp only [exK, List.mem_cons, List.not_mem_nil, or_false] at h
      rcases h with rfl | rfl | rfl <;> simp
    unfold In64; omega
  · rw [hq]
    intro o h
    exact small_ok (by
      simp only [exK, List.mem_cons, List.not_mem_nil, or_false] at h
      rcases h with rfl | rfl <;> rfl)
set_option maxRecDepth 100000 in
set_option maxHeartbeats 8000000 in
/-- lives. -/
theorem lives_any (w : World) : Calls Tryz.prog 8 #[] w fun e w' => e = .returned (.bool true) ∧ Below w.heap.size w w' := by
  have HEX := Lib.hid (example_any w)
  go_enter Tryz.func8, Tryz.ntmps8
  go_upto_region 2 with (first | ((with_reducible refine HEX.out.mono ?_); rintro e w1 ⟨b1, b2, b3, rfl, g1, g2, g3, h1, h2, h3, hb1⟩) | go_in)
  obtain ⟨W, hW⟩ : ∃ W, W = w1.alloc (.cells #[.slice (some ⟨b1, 0, none⟩) 3 3, .slice (some ⟨b2, 0, none⟩) 1 1, .slice (some ⟨b3, 0, none⟩) 2 2] 25) := ⟨_, rfl⟩
  rw [← hW]
  have hbW : Below w1.heap.size w1 W := by rw [hW]; exact (Below.refl _ _).alloc (Nat.le_refl _) _
  have hbox : W.heap[w1.heap.size]? = some (.cells #[.slice (some ⟨b1, 0, none⟩) 3 3, .slice (some ⟨b2, 0, none⟩) 1 1, .slice (some ⟨b3, 0, none⟩) 2 2] 25 (0, 0)) := by rw [hW]; exact heap_alloc_new w1 _
  have h1' := keep_blk h1 hbW
  have h2' := keep_blk h2 hbW
  have h3' := keep_blk h3 hbW
  have hk := ex_kern exK rfl rfl rfl (by intro o h; simp only [exK, List.mem_cons, List.not_mem_nil, or_false] at h; subst h; rfl) rfl h1' h2' h3'
  have HC1 := Lib.hid (DCheck_any (some ⟨b1, 0, none⟩) (some ⟨b2, 0, none⟩) (some ⟨b3, 0, none⟩) 3 3 1 1 2 2 exK [startF exK] W _ hk (fun k hk => hk) (by decide) ex_ahead)
  have c0 : W.cell? ⟨w1.heap.size, 0, none⟩ = some (.slice (some ⟨b1, 0, none⟩) 3 3) := by simp [World.cell?, hbox]
  have c1 : W.cell? ⟨w1.heap.size, 1, none⟩ = some (.slice (some ⟨b2, 0, none⟩) 1 1) := by simp [World.cell?, hbox]
  have c2 : W.cell? ⟨w1.heap.size, 2, none⟩ = some (.slice (some ⟨b3, 0, none⟩) 2 2) := by simp [World.cell?, hbox]
  have HBX := Lib.hid hbox
  have HK1 := Lib.hid h1'
  have HK2 := Lib.hid h2'
  have HK3 := Lib.hid h3'
  have hsz : w1.heap.size < W.heap.size := lt_of_block hbox
  have HL := Lib.hid (And.intro (lt_of_block h1) (And.intro (lt_of_block h2) (lt_of_block h3)))
  have HBW := Lib.hid (hb1.trans (hbW.mono hb1.size))
  have HGE := Lib.hid g2
  obtain ⟨B, hB⟩ : ∃ b, b = w1.heap.size := ⟨_, rfl⟩
  rw [← hB] at c0 c1 c2 HBX HL hsz ⊢
  have HSZ := Lib.hid hsz
  clear hW hbW hbox h1' h2' h3' hk h1 h2 h3 g1 g2 g3 hb1 hB hsz
  go_upto_region 3 with (first | ((with_reducible refine HC1.out.mono ?_); rintro e w2 ⟨a1, e1, rfl, hd, hb⟩; obtain ⟨rfl, rfl⟩ := ex_is hd; have HB2 := Lib.hid hb; clear hd hb) | go_in)
  clear c0 c1 c2
  have HCB := Lib.hid (show ∀ w_, Below w2.heap.size w2 w_ → w_.cell? ⟨B, 0, none⟩ = some (.slice (some ⟨b1, 0, none⟩) 3 3) ∧ w_.cell? ⟨B, 1, none⟩ = some (.slice (some ⟨b2, 0, none⟩) 1 1) ∧ w_.cell? ⟨B, 2, none⟩ = some (.slice (some ⟨b3, 0, none⟩) 2 2) from fun w_ h_ => by
    have h := keep_blk (keep_blk HBX.out HB2.out) h_
    refine ⟨?_, ?_, ?_⟩ <;> simp [World.cell?, h])
  have HM := Lib.hid (show ∀ w_, Below w2.heap.size w2 w_ → w_.heap[b2]? = some (.cells oCells 43 (0, 0)) from fun w_ h_ => keep_blk (keep_blk HK2.out HB2.out) h_)
  have hS := (Below.refl w2.heap.size w2).drew
  (refine wp_region_lines (Below w2.heap.size w2) (by kernel_rfl) (by kernel_rfl) ((Below.refl w2.heap.size w2).drew) ?_)
  (try simp only [])
  repeat (first | (refine runL_no (by rfl) ?_; (try simp only [Act.put, List.setIfInBounds_toArray, List.set_cons_zero, List.set_cons_succ])) | (refine runL_val (v := ?_) (by rfl) ?_ ?_; rotate_left; (focus (intro w_ hw_; have f0_ := (HCB.out w_ hw_).1; have f1_ := (HCB.out w_ hw_).2.1; have f2_ := (HCB.out w_ hw_).2.2; go_simp; (try with_reducible rfl); done)); (try simp only [Act.put, List.setIfInBounds_toArray, List.set_cons_zero, List.set_cons_succ])) | (refine runL_call (f := ?_) (args := ?_) (w1 := ?_) (by rfl) (by rfl) ?_ ?_; rotate_left 3; (focus (go_simp; refine ⟨⟨?_, ?_⟩, ?_⟩ <;> with_reducible rfl)); (with_reducible refine (op_any _ _ _ _ _ _ _).mono ?_); rintro e_ w3 ⟨rfl, hb3⟩; replace hS := hS.trans (hb3.mono hS.size); clear hb3; refine ⟨_, rfl, .inr hS, ?_⟩; (try simp only [Act.put, List.setIfInBounds_toArray, List.set_cons_zero, List.set_cons_succ])) | (refine runL_skip (w1 := w3.setRow b2 #[.int .i64 9, .int .i64 2, .int .i64 (-1), .int .i64 0, .int .i64 (-1), .int .i64 0, .int .u64 0]) (by rfl) (by rfl) (sep_store 43 _ _ rfl b2 #[.int .i64 9, .int .i64 2, .int .i64 (-1), .int .i64 0, .int .i64 (-1), .int .i64 0, .int .u64 0] rfl rfl 43 oCells (HM.out w3 hS) (by kernel_rfl) (by rfl) (by kernel_rfl)) (.inl ⟨rfl, by kernel_rfl⟩) ?_; (try simp only [Act.put])))
  (refine runL_nil ?_)
  obtain ⟨w4, hw4⟩ : ∃ q, q = w3.setRow b2 #[.int .i64 9, .int .i64 2, .int .i64 (-1), .int .i64 0, .int .i64 (-1), .int .i64 0, .int .u64 0] := ⟨_, rfl⟩
  have h24 : w4.heap[b2]? = some (.cells #[.int .i64 9, .int .i64 2, .int .i64 (-1), .int .i64 0, .int .i64 (-1), .int .i64 0, .int .u64 0] 43 (0, 0)) := by rw [hw4]; exact setRow_heap _ _ _ _ _ _ (HM.out w3 hS)
  have hoth : ∀ g, g ≠ b2 → w4.heap[g]? = w3.heap[g]? := fun g hg => by rw [hw4]; exact setRow_other _ _ _ _ hg
  have hne1 : b1 ≠ b2 := fun e => by
    have h1 := HK1.out
    rw [e, HK2.out] at h1
    simp [oCells, vCells] at h1
  have hne3 : b3 ≠ b2 := fun e => by
    have h1 := HK3.out
    rw [e, HK2.out] at h1
    simp [oCells, rCells] at h1
  have h14 := (hoth b1 hne1).trans (keep_blk (keep_blk HK1.out HB2.out) hS)
  have h34 := (hoth b3 hne3).trans (keep_blk (keep_blk HK3.out HB2.out) hS)
  have hbx4 := (hoth B (by have := HL.out.2.1; omega)).trans (keep_blk (keep_blk HBX.out HB2.out) hS)
  have HB4 := Lib.hid (show Below w.heap.size w w4 by
    have h := (HBW.out.trans ((HB2.out.trans (hS.mono HB2.out.size)).mono HBW.out.size))
    rw [hw4]
    exact below_setRow h HGE.out _)
  have c0 : w4.cell? ⟨B, 0, none⟩ = some (.slice (some ⟨b1, 0, none⟩) 3 3) := by simp [World.cell?, hbx4]
  have c1 : w4.cell? ⟨B, 1, none⟩ = some (.slice (some ⟨b2, 0, none⟩) 1 1) := by simp [World.cell?, hbx4]
  have c2 : w4.cell? ⟨B, 2, none⟩ = some (.slice (some ⟨b3, 0, none⟩) 2 2) := by simp [World.cell?, hbx4]
  have hk := ex_kern exK2 rfl rfl rfl (by intro o h; simp only [exK2, List.mem_cons, List.not_mem_nil, or_false] at h; subst h; rfl) rfl h14 h24 h34
  have HC2 := Lib.hid (DCheck_any (some ⟨b1, 0, none⟩) (some ⟨b2, 0, none⟩) (some ⟨b3, 0, none⟩) 3 3 1 1 2 2 exK2 [startF exK2] w4 _ hk (fun k hk => hk) (by decide) ex_ahead2)
  rw [← hw4]
  clear hw4 h24 hoth hne1 hne3 h14 h34 hbx4 hk hS
  go_wp2_with (first | ((with_reducible refine HC2.out.mono ?_); rintro e w5 ⟨a2, e2, rfl, hd, hb⟩; obtain ⟨rfl, rfl⟩ := ex_is2 hd; have HB5 := Lib.hid hb; clear hd hb) | go_in)
  go_ret
  exact ⟨rfl, HB4.out.trans (HB5.out.mono HB4.out.size)⟩
end Go.Proofs.YtjbabpnepjhllaaGreat

/- keysmithkit.Own, of facts; facts onto facts; the law of more facts. -/
namespace Go.Proofs.YtjbabpnepjhllaaGreat
open Go.RowKit

theorem append_none {P : Program} (w : World) (t ty e : TypeId) (i : TypeInfo) (ht : P.underlying t = some (.slice e)) (hi : P.info? e = some i) (a : Addr) (n cap c : Nat) (hn : n ≤ cap) :
    (Builtin.append_ #[t, t] ty #[.slice (some a) n cap, .slice none 0 c]).run P w = .ok (.slice (some a) n cap) w := by
  simp [Builtin.append_, run_underlying ht, sizeOf, typeInfo, hi, Builtin.lenOf, Builtin.firstCells, storeCells, hn]
set_option maxHeartbeats 400000 in
theorem OwnF_nil (c : Nat) (w : World) :
    Calls Tryz.prog 31 #[.slice none 0 c] w fun e w' => e = .returned (.slice (some ⟨w.heap.size, 0, none⟩) 0 0) ∧ w' = w.alloc (.cells #[] 45) := by
  obtain ⟨i0, hi, hz0, hz1, hz2⟩ := info_parts infoFact
  have h0 := fun (w : World) (a : Addr) => append_none (P := Tryz.prog) w 39 39 45 i0 Tryz.underlying39 hi a 0 0 c (Nat.le_refl _)
  clear hz0 hz1 hz2
  go_enter Tryz.func31, Tryz.ntmps31
  go_wp2
  go_ret
  exact ⟨rfl, rfl⟩
set_option maxHeartbeats 400000 in
theorem OwnF_some (ad : Addr) (n c : Nat) (w : World) (news : List Value) (hl : news.length = n * 3) (hc : ∀ (j : Nat) (u : Value), news[j]? = some u → w.cell? (ad.add j) = some u) (h1 : ∀ u ∈ news, u.oneCell' = true) (hn : n ≤ 3518437208000) :
    Calls Tryz.prog 31 #[.slice (some ad) n c] w fun e w' => ∃ v, e = .returned v ∧ w'.ownsRow w.heap.size 45 3 v n news ∧ v ≠ .slice none 0 0 ∧ Below w.heap.size w w' := by
  obtain ⟨i0, hi, hz0, hz1, hz2⟩ := info_parts infoFact
  have hc2 : ∀ (j : Nat) (u : Value), news[j]? = some u → (w.alloc (.cells #[] 45)).cell? (ad.add j) = some u := fun j u hu => by
    have := hc j u hu
    rw [World.cell?_alloc_lt _ _ _ (World.block_lt_of_cell? w _ this)]; exact this
  have HC := Lib.hid hc2
  have HL := Lib.hid hl
  have H1 := Lib.hid h1
  clear hc hc2 hl h1
  go_enter Tryz.func31, Tryz.ntmps31
  go_wp2_with ((at_builtin; refine wpList_append_own_at _ rfl _ _ 39 rfl w.heap.size 45 i0 (.agg #[.int .i64 0, .int .i64 0, .int .i64 0]) 3 24 Tryz.underlying39 hi hz0 hz1 hz2 rfl (by decide) _ 0 [] rfl (own_zero w _ _) ad n c news rfl HL.out HC.out H1.out (by unfold maxLen; omega) (by omega) (by simp) ?_); intro v w1 hown hg hnn _; have HNN := Lib.hid hnn; clear hnn)
  go_ret
  exact ⟨v, rfl, by simpa using hown, fun e => (nomatch ((HNN.out.1 e).1)), ((Below.refl _ _).alloc (Nat.le_refl _) _).grown hg (by simp) (fun k hk => Nat.le_of_eq (Option.some.inj hk))⟩
theorem fact_one (l : List Fct) : ∀ u ∈ (l.map factRow).flatten, u.oneCell' = true := fun u hu => by
  obtain ⟨r, hr, hu2⟩ := List.mem_flatten.1 hu
  obtain ⟨x, _, rfl⟩ := List.mem_map.1 hr
  simp only [factRow, List.mem_cons, List.not_mem_nil, or_false] at hu2
  rcases hu2 with rfl | rfl | rfl <;> rfl
theorem cellsF_eq (l : List Fct) : cellsOfF l = (l.map factRow).flatten := rfl
theorem OwnF_any (v : Value) (l : List Fct) (w : World) (F : Nat → Prop) (hl : FactsAt w F v l) (hn : l.length ≤ 1000000) :
    Calls Tryz.prog 31 #[v] w fun e w' => ∃ g cap, e = .returned (.slice (some ⟨g, 0, none⟩) l.length cap) ∧ w'.ownsRow w.heap.size 45 3 (.slice (some ⟨g, 0, none⟩) l.length cap) l.length (cellsOfF l) ∧ l.length ≤ cap ∧ Below w.heap.size w w' := by
  have hr' := hl
  obtain ⟨A, c, rfl, hc, hsz, hne⟩ := hr'
  rw [List.length_map] at *
  cases A with
  | none =>
    have h0 : l = [] := by
      rcases l with _ | ⟨r, rs⟩
      · rfl
      · obtain ⟨b, off, hA, _⟩ := hne (by simp); cases hA
    subst h0
    refine (OwnF_nil c w).mono ?_
    rintro e w' ⟨rfl, rfl⟩
    exact ⟨_, 0, rfl, own_zero w _ _, Nat.le_refl _, (Below.refl _ _).alloc (Nat.le_refl _) _⟩
  | some ad =>
    have hl2 : Rows w F 3 (.slice (some ad) l.length c) (l.map factRow) := hl
    obtain ⟨hfl, hfc⟩ := hl2.flat (by decide)
    refine (OwnF_some ad l.length c w (l.map factRow).flatten (by rw [hfl]) hfc (fact_one l) (by omega)).mono ?_
    rintro e w' ⟨v, rfl, hown, hnn, hb⟩
    have hown2 : w'.ownsRow w.heap.size 45 3 v l.length (cellsOfF l) := hown
    rcases hown.2 with ⟨h1, _⟩ | ⟨g, cap, cur, hv, hg, hh, hnc, _⟩
    · exact absurd h1 hnn
    · subst hv
      exact ⟨g, cap, rfl, hown2, hnc, hb⟩
theorem exec_appendFs {o : Oper} {a : Act} {w : World} {base g n cap m c : Nat} {A : Option Addr} {F : Nat → Prop} {xs more : List Fct} (s x : Operand) (ho : o.op = .call { callee := .builtin .append, args := #[s, x], argTypes := #[39, 39] })
    (hs : a.eval s = .slice (some ⟨g, 0, none⟩) n cap) (hown : w.ownsRow base 45 3 (.slice (some ⟨g, 0, none⟩) n cap) n (cellsOfF xs)) (hcap : n ≤ cap) (hx : a.eval x = .slice A m c) (hm : FactsAt w F (.slice A m c) more) (h63 : n + m ≤ 1000000) (hbase : base ≤ w.heap.size) :
    ∃ A' c' w', (execOp a.eval o).run Tryz.prog w = .ok (.value (.slice A' (n + m) c')) w' ∧ w'.ownsRow base 45 3 (.slice A' (n + m) c') (n + m) (cellsOfF (xs ++ more)) ∧ Below base w w' := by
  obtain ⟨j0, hie, hy0, hy1, hy2⟩ := info_parts infoFact
  have hml := (rows_len hm).1
  have hcells : cellsOfF (xs ++ more) = cellsOfF xs ++ (more.map factRow).flatten := by rw [cellsF_eq, cellsF_eq, List.map_append, List.flatten_append]
  cases A with
  | none =>
    have h0 : more = [] := by
      obtain ⟨A', c', hv, _, _, hne⟩ := hm
      cases hv
      rcases more with _ | ⟨r, rs⟩
      · rfl
      · obtain ⟨b, off, hA, _⟩ := hne (by simp); cases hA
    subst h0
    have hm0 : m = 0 := hml
    subst hm0
    refine ⟨some ⟨g, 0, none⟩, cap, w, ?_, by rw [List.append_nil, Nat.add_zero]; exact hown, Below.refl _ _⟩
    unfold execOp
    simp only [ho, resolve, invoke, builtin, hs, hx, List.map_toArray, List.map_cons, List.map_nil, Sem.run_bind, append_none (P := Tryz.prog) w 39 o.type 45 j0 Tryz.underlying39 hie ⟨g, 0, none⟩ n cap c hcap, Result.andThen_ok, Sem.run_pure, Nat.add_zero]
  | some ad =>
    have hl2 : Rows w F 3 (.slice (some ad) m c) (more.map factRow) := hm
    obtain ⟨hfl, hfc⟩ := hl2.flat (by decide)
    obtain ⟨v', w', h1, h2, h3, _, h5⟩ := run_append_own_at (P := Tryz.prog) w base 39 o.type 45 j0 (.agg #[.int .i64 0, .int .i64 0, .int .i64 0]) 3 24 Tryz.underlying39 hie hy0 hy1 hy2 rfl (by decide) (.slice (some ⟨g, 0, none⟩) n cap) n (cellsOfF xs) hown ad m c (more.map factRow).flatten (by rw [hfl]) hfc (fact_one more) (by unfold maxLen; omega) (by omega) hbase
    obtain ⟨A', c', rfl⟩ := own_form h2
    refine ⟨A', c', w', ?_, by rw [hcells]; exact h2, (Below.refl base w).grown h3 hbase (fun k hk => (own_lt hown k hk).2)⟩
    unfold execOp
    simp only [ho, resolve, invoke, builtin, hs, hx, List.map_toArray, List.map_cons, List.map_nil, Sem.run_bind, h1, Result.andThen_ok, Sem.run_pure]
theorem runL_appendFs {ops : Array Oper} {Q : Act → World → Prop} {S : World → Prop} {o : Oper} {l : List Oper} {a : Act} {w : World} (hT : isT o = true) (hw : Region.wanted o (yielded ops a.tmps) = true) {base g n cap m c : Nat} {A : Option Addr} {F : Nat → Prop} {xs more : List Fct}
    (s x : Operand) (ho : o.op = .call { callee := .builtin .append, args := #[s, x], argTypes := #[39, 39] }) (hs : a.eval s = .slice (some ⟨g, 0, none⟩) n cap) (hown : w.ownsRow base 45 3 (.slice (some ⟨g, 0, none⟩) n cap) n (cellsOfF xs)) (hcap : n ≤ cap) (hx : a.eval x = .slice A m c) (hm : FactsAt w F (.slice A m c) more) (h63 : n + m ≤ 1000000) (hbase : base ≤ w.heap.size)
    (k : ∀ A' c' w', w'.ownsRow base 45 3 (.slice A' (n + m) c') (n + m) (cellsOfF (xs ++ more)) → Below base w w' → S w' ∧ runL Tryz.prog ops S Q l (a.put o.dst (.slice A' (n + m) c')) w') : runL Tryz.prog ops S Q (o :: l) a w := by
  obtain ⟨A', c', w', h1, h2, h3⟩ := exec_appendFs s x ho hs hown hcap hx hm h63 hbase
  obtain ⟨k1, k2⟩ := k A' c' w' h2 h3
  exact runL_op hT hw h1 (.inr k1) k2

/- The plain law. -/
theorem after_sub {k : Krn} {at_ : Int} {l m : List Fct} (h : ∀ x ∈ l, x ∈ m) : ∀ f ∈ after_at k at_ l, f ∈ after_at k at_ m := fun f hf => by
  unfold after_at at *
  split at hf
  · rename_i hc
    rw [if_pos hc]
    exact afterF_mono (fun x hx => mem_sortF.2 ⟨h x (mem_sortF.1 hx).1, (mem_sortF.1 hx).2⟩) hf
  · simp at hf
theorem after_ord (k : Krn) (at_ : Int) (l : List Fct) : OrdF (after_at k at_ l) := by
  unfold after_at
  split
  · exact ord_afterF (ord_sortF l)
  · exact List.Pairwise.nil
theorem after_len {k : Krn} {at_ : Int} {l : List Fct} (hv : k.vars.length ≤ 1000) (hl : l.length ≤ 1000) : (after_at k at_ l).length ≤ 90000 := by
  have hnd := ord_nodup (after_ord k at_ l)
  unfold after_at at *
  split
  · rename_i hc
    rw [if_pos hc] at hnd
    have hsl : (sortF l).length ≤ l.length := by
      have h1 := ord_nodup (ord_sortF l)
      exact List.Nodup.length_le_of_subset h1 fun f hf => (mem_sortF.1 hf).1
    by_cases h2 : (k.ops.getD at_.toNat ⟨0, 0, 0, 0, 0, 0, 0⟩).kind = 2 ∧ (k.ops.getD at_.toNat ⟨0, 0, 0, 0, 0, 0, 0⟩).d = (k.ops.getD at_.toNat ⟨0, 0, 0, 0, 0, 0, 0⟩).a
    · unfold afterF
      rw [if_pos h2]
      omega
    · have h := List.Nodup.length_le_of_subset hnd (l₂ := newsF k.vars (k.ops.getD at_.toNat ⟨0, 0, 0, 0, 0, 0, 0⟩) (sortF l) ++ sortF l) fun f hf => by
        rcases ((mem_afterF h2 f).1 hf).2 with h | h
        · exact List.mem_append.2 (.inl h)
        · exact List.mem_append.2 (.inr h.1)
      rw [List.length_append] at h
      have := newsF_len k.vars (k.ops.getD at_.toNat ⟨0, 0, 0, 0, 0, 0, 0⟩) (sortF l)
      omega
  · simp
theorem common_len (a b : List Fct) : (commonF a b).length ≤ a.length := List.Nodup.length_le_of_subset (ord_nodup (ord_sortF _)) fun _ hf => (mem_commonF.1 hf).1
theorem ord_ne {l : List Fct} (h : OrdF l) {i : Nat} {x y : Fct} (hx : l[i]? = some x) (hy : l[i + 1]? = some y) : y ≠ x := fun e => by
  subst e
  have hnd := ord_nodup h
  obtain ⟨h1, e1⟩ := List.getElem?_eq_some_iff.1 hx
  obtain ⟨h2, e2⟩ := List.getElem?_eq_some_iff.1 hy
  exact (List.pairwise_iff_getElem.1 hnd) i (i + 1) h1 h2 (by omega) (e1.trans e2.symm)
end Go.Proofs.YtjbabpnepjhllaaGreat
