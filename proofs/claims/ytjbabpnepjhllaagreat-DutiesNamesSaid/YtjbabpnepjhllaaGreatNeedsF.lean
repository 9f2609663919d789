/- denote.Needs. -/
import Derived.Test.YtjbabpnepjhllaaGreatCopyF
namespace Go.Proofs.YtjbabpnepjhllaaGreat
open Go.RowKit

theorem own_lit {w : World} {g base : Nat} {l : List Fct} (h : w.heap[g]? = some (.cells (cellsOfF l).toArray 45 (0, 0))) (hb : base ≤ g) (hl : l.length ≤ 100000) :
    w.ownsRow base 45 3 (.slice (some ⟨g, 0, none⟩) l.length l.length) l.length (cellsOfF l) := by
  refine ⟨cellsF_len l, .inr ⟨g, l.length, _, rfl, hb, h, Nat.le_refl _, by unfold maxLen; omega, by simp [cellsF_len], ?_⟩⟩
  rw [List.take_of_length_le (by simp [cellsF_len])]
theorem needsF_len (o : KOp) : (needsF o).length ≤ 3 := by
  unfold needsF
  repeat' split
  all_goals simp
theorem below_lit {w W w1 : World} (h : Below w.heap.size w W) (h1 : Below W.heap.size W w1) (o : Obj) : Below w.heap.size w (w1.alloc o) := h.trans ((h1.trans (((Below.refl w1.heap.size w1).alloc (Nat.le_refl _) o).mono h1.size)).mono h.size)
variable {o : Oper} {a : Act} {w : World}
theorem exec_facts2 {f g : Fct} (x y : Operand) (ho : o.op = .buildSlice 39 2 #[(0, x), (1, y)]) (hx : a.eval x = .agg #[.int .i64 f.kind, .int .i64 f.a, .int .i64 f.b]) (hy : a.eval y = .agg #[.int .i64 g.kind, .int .i64 g.a, .int .i64 g.b]) :
    (execOp a.eval o).run Tryz.prog w = .ok (.value (.slice (some ⟨w.heap.size, 0, none⟩) 2 2)) (w.alloc (.cells (cellsOfF [f, g]).toArray 45)) := by
  obtain ⟨j0, hie, hy0, hy1, hy2⟩ := info_parts infoFact
  have h := run_buildSlice (P := Tryz.prog) w 39 45 2 #[(0, .agg #[.int .i64 f.kind, .int .i64 f.a, .int .i64 f.b]), (1, .agg #[.int .i64 g.kind, .int .i64 g.a, .int .i64 g.b])] #[.int .i64 f.kind, .int .i64 f.a, .int .i64 f.b, .int .i64 g.kind, .int .i64 g.a, .int .i64 g.b] j0 _ Tryz.underlying39 hie hy0 (by rw [hy1]; decide) (by rw [hy1]; decide) (by rw [hy1]; kernel_rfl)
  unfold execOp
  simp only [ho, hx, hy, List.map_toArray, List.map_cons, List.map_nil, Sem.run_bind, h, Result.andThen_ok, Sem.run_pure, cellsOfF, factRow, List.flatten_cons, List.flatten_nil, List.append_nil, List.cons_append, List.nil_append]
theorem exec_facts3 {f g h : Fct} (x y z : Operand) (ho : o.op = .buildSlice 39 3 #[(0, x), (1, y), (2, z)]) (hx : a.eval x = .agg #[.int .i64 f.kind, .int .i64 f.a, .int .i64 f.b]) (hy : a.eval y = .agg #[.int .i64 g.kind, .int .i64 g.a, .int .i64 g.b]) (hz : a.eval z = .agg #[.int .i64 h.kind, .int .i64 h.a, .int .i64 h.b]) :
    (execOp a.eval o).run Tryz.prog w = .ok (.value (.slice (some ⟨w.heap.size, 0, none⟩) 3 3)) (w.alloc (.cells (cellsOfF [f, g, h]).toArray 45)) := by
  obtain ⟨j0, hie, hy0, hy1, hy2⟩ := info_parts infoFact
  have hr := run_buildSlice (P := Tryz.prog) w 39 45 3 #[(0, .agg #[.int .i64 f.kind, .int .i64 f.a, .int .i64 f.b]), (1, .agg #[.int .i64 g.kind, .int .i64 g.a, .int .i64 g.b]), (2, .agg #[.int .i64 h.kind, .int .i64 h.a, .int .i64 h.b])] #[.int .i64 f.kind, .int .i64 f.a, .int .i64 f.b, .int .i64 g.kind, .int .i64 g.a, .int .i64 g.b, .int .i64 h.kind, .int .i64 h.a, .int .i64 h.b] j0 _ Tryz.underlying39 hie hy0 (by rw [hy1]; decide) (by rw [hy1]; decide) (by rw [hy1]; kernel_rfl)
  unfold execOp
  simp only [ho, hx, hy, hz, List.map_toArray, List.map_cons, List.map_nil, Sem.run_bind, hr, Result.andThen_ok, Sem.run_pure, cellsOfF, factRow, List.flatten_cons, List.flatten_nil, List.append_nil, List.cons_append, List.nil_append]
set_option maxRecDepth 100000 in
set_option maxHeartbeats 4000000 in
/-- denote.Needs. -/
theorem Needs_any (o : KOp) (w : World) : Calls Tryz.prog 39 #[.agg (kopRow o).toArray] w (SortedSays w.heap.size (needsF o) w) := by
  obtain ⟨W, hW⟩ : ∃ W, W = w.alloc (.cells (kopRow o).toArray 43) := ⟨_, rfl⟩
  have hb : Below w.heap.size w W := by rw [hW]; exact (Below.refl _ _).alloc (Nat.le_refl _) _
  have hblk : W.heap[w.heap.size]? = some (.cells (kopRow o).toArray 43 (0, 0)) := by rw [hW]; exact heap_alloc_new w _
  have hc : ∀ w_, Below W.heap.size W w_ → w_.cell? ⟨w.heap.size, 0, none⟩ = some (.int .i64 o.kind) ∧ w_.cell? ⟨w.heap.size, 3, none⟩ = some (.int .i64 o.a) ∧ w_.cell? ⟨w.heap.size, 4, none⟩ = some (.int .i64 o.b) ∧ w_.cell? ⟨w.heap.size, 5, none⟩ = some (.int .i64 o.c) ∧ w_.cell? ⟨w.heap.size, 6, none⟩ = some (.int .u64 o.imm) := fun w_ h => by
    have h1 := (h.block w.heap.size (lt_of_block hblk)).trans hblk
    refine ⟨?_, ?_, ?_, ?_, ?_⟩ <;> (simp only [World.cell?, h1]; rfl)
  obtain ⟨c0, c3, c4, c5, c6⟩ := hc W (Below.refl _ _)
  have HA := Lib.hid dalone_any
  have HS := Lib.hid dless_any
  have HW := Lib.hid hW
  have HB := Lib.hid hb
  have HC := Lib.hid hc
  obtain ⟨k, hk⟩ : ∃ k, o.kind = k := ⟨_, rfl⟩
  rw [hk] at c0
  have hN : needsF o = if k = 9 then [aloneF 3 o.c] else if k = 10 ∨ k = 11 then [lessF o.a o.c, lessF o.b o.c] else if k = 12 then [aloneF 1 o.c, lessF o.a o.c, lessF o.b o.c] else if k = 13 then [aloneF 1 o.c, lessF o.a o.c] else if k = 17 then (if o.imm = 2 then [lessF o.a o.b] else if o.imm = 1 then [aloneF 1 o.a] else if o.imm = 3 then [aloneF 3 o.a] else []) else [] := by unfold needsF; rw [hk]
  clear hW hb hblk hc hk
  by_cases k9 : k = 9
  · subst k9
    have HN := Lib.hid (show needsF o = [aloneF 3 o.c] by rw [hN, if_pos rfl])
    clear hN
    go_enter Tryz.func39, Tryz.ntmps39
    go_upto_region 1 with fail
    rw [← HW.out]
    go_wp2_with (first
      | ((with_reducible refine (HA.out _ _ _).mono ?_); rintro e w1 ⟨rfl, hb1⟩; have HB1 := Lib.hid hb1; clear hb1)
      | ((with_reducible refine (HS.out _ _ _).mono ?_); rintro e w1 ⟨rfl, hb1⟩; have HB1 := Lib.hid hb1; clear hb1)
      | go_in)
    go_ret
    exact ⟨_, rfl, by rw [HN.out]; exact own_lit (l := [aloneF 3 o.c]) (heap_alloc_new w1 _) (by have := HB.out.size; have := HB1.out.size; omega) (by simp), below_lit HB.out HB1.out _⟩
  rw [if_neg k9] at hN
  by_cases k10 : k = 10 ∨ k = 11
  · rw [if_pos k10] at hN
    have HN := Lib.hid hN
    clear hN k9
    rcases k10 with rfl | rfl
    · go_enter Tryz.func39, Tryz.ntmps39
      go_upto_region 1 with fail
      rw [← HW.out]
      go_upto_region 6 with (first | go_in)
      have hS := (Below.refl W.heap.size W).drew
      (refine wp_region_lines (Below W.heap.size W) (by kernel_rfl) (by kernel_rfl) (Below.refl W.heap.size W).drew ?_)
      (try simp only [])
      repeat (first | (refine runL_no (by rfl) ?_; (try simp only [Act.put, List.setIfInBounds_toArray, List.set_cons_zero, List.set_cons_succ])) | (refine runL_val (v := ?_) (by rfl) ?_ ?_; rotate_left; (focus (intro w_ hw_; obtain ⟨f0_, f3_, f4_, f5_, f6_⟩ := HC.out w_ hw_; go_simp; (try with_reducible rfl); done)); (try simp only [Act.put, List.setIfInBounds_toArray, List.set_cons_zero, List.set_cons_succ])) | (refine runL_call (f := ?_) (args := ?_) (w1 := ?_) (by rfl) (by rfl) ?_ ?_; rotate_left 3; (focus (go_simp; refine ⟨⟨?_, ?_⟩, ?_⟩ <;> with_reducible rfl)); (first | with_reducible refine (HA.out _ _ _).mono ?_ | with_reducible refine (HS.out _ _ _).mono ?_); rintro e w1 ⟨rfl, hb1⟩; replace hS := hS.trans (hb1.mono hS.size); clear hb1; refine ⟨_, rfl, .inr hS, ?_⟩; (try simp only [Act.put, List.setIfInBounds_toArray, List.set_cons_zero, List.set_cons_succ])) | (refine runL_op (by rfl) (by rfl) (exec_facts2 (f := lessF o.a o.c) (g := lessF o.b o.c) _ _ rfl rfl rfl) (.inr (below_lit (Below.refl _ _) hS _)) ?_; (try simp only [Act.put, List.setIfInBounds_toArray, List.set_cons_zero, List.set_cons_succ])))
      (refine runL_nil ?_)
      have HB1 := Lib.hid hS
      clear hS
      go_wp2
      go_ret
      exact ⟨_, rfl, by rw [HN.out]; exact own_lit (l := [lessF o.a o.c, lessF o.b o.c]) (heap_alloc_new w1 _) (by have := HB.out.size; have := HB1.out.size; omega) (by simp), below_lit HB.out HB1.out _⟩
    · go_enter Tryz.func39, Tryz.ntmps39
      go_upto_region 1 with fail
      rw [← HW.out]
      go_upto_region 6 with (first | go_in)
      have hS := (Below.refl W.heap.size W).drew
      (refine wp_region_lines (Below W.heap.size W) (by kernel_rfl) (by kernel_rfl) (Below.refl W.heap.size W).drew ?_)
      (try simp only [])
      repeat (first | (refine runL_no (by rfl) ?_; (try simp only [Act.put, List.setIfInBounds_toArray, List.set_cons_zero, List.set_cons_succ])) | (refine runL_val (v := ?_) (by rfl) ?_ ?_; rotate_left; (focus (intro w_ hw_; obtain ⟨f0_, f3_, f4_, f5_, f6_⟩ := HC.out w_ hw_; go_simp; (try with_reducible rfl); done)); (try simp only [Act.put, List.setIfInBounds_toArray, List.set_cons_zero, List.set_cons_succ])) | (refine runL_call (f := ?_) (args := ?_) (w1 := ?_) (by rfl) (by rfl) ?_ ?_; rotate_left 3; (focus (go_simp; refine ⟨⟨?_, ?_⟩, ?_⟩ <;> with_reducible rfl)); (first | with_reducible refine (HA.out _ _ _).mono ?_ | with_reducible refine (HS.out _ _ _).mono ?_); rintro e w1 ⟨rfl, hb1⟩; replace hS := hS.trans (hb1.mono hS.size); clear hb1; refine ⟨_, rfl, .inr hS, ?_⟩; (try simp only [Act.put, List.setIfInBounds_toArray, List.set_cons_zero, List.set_cons_succ])) | (refine runL_op (by rfl) (by rfl) (exec_facts2 (f := lessF o.a o.c) (g := lessF o.b o.c) _ _ rfl rfl rfl) (.inr (below_lit (Below.refl _ _) hS _)) ?_; (try simp only [Act.put, List.setIfInBounds_toArray, List.set_cons_zero, List.set_cons_succ])))
      (refine runL_nil ?_)
      have HB1 := Lib.hid hS
      clear hS
      go_wp2
      go_ret
      exact ⟨_, rfl, by rw [HN.out]; exact own_lit (l := [lessF o.a o.c, lessF o.b o.c]) (heap_alloc_new w1 _) (by have := HB.out.size; have := HB1.out.size; omega) (by simp), below_lit HB.out HB1.out _⟩
  rw [if_neg k10] at hN
  have e9 : (k == 9) = false := beq_eq_false_iff_ne.2 k9
  have e10 : (k == 10) = false := beq_eq_false_iff_ne.2 fun e => k10 (.inl e)
  have e11 : (k == 11) = false := beq_eq_false_iff_ne.2 fun e => k10 (.inr e)
  clear k9 k10
  by_cases k12 : k = 12
  · rw [if_pos k12] at hN
    have HN := Lib.hid hN
    subst k12
    clear hN
    go_enter Tryz.func39, Tryz.ntmps39
    go_upto_region 1 with fail
    rw [← HW.out]
    go_upto_region 8 with (first | go_in)
    have hS := (Below.refl W.heap.size W).drew
    (refine wp_region_lines (Below W.heap.size W) (by kernel_rfl) (by kernel_rfl) (Below.refl W.heap.size W).drew ?_)
    (try simp only [])
    repeat (first | (refine runL_no (by rfl) ?_; (try simp only [Act.put, List.setIfInBounds_toArray, List.set_cons_zero, List.set_cons_succ])) | (refine runL_val (v := ?_) (by rfl) ?_ ?_; rotate_left; (focus (intro w_ hw_; obtain ⟨f0_, f3_, f4_, f5_, f6_⟩ := HC.out w_ hw_; go_simp; (try with_reducible rfl); done)); (try simp only [Act.put, List.setIfInBounds_toArray, List.set_cons_zero, List.set_cons_succ])) | (refine runL_call (f := ?_) (args := ?_) (w1 := ?_) (by rfl) (by rfl) ?_ ?_; rotate_left 3; (focus (go_simp; refine ⟨⟨?_, ?_⟩, ?_⟩ <;> with_reducible rfl)); (first | with_reducible refine (HA.out _ _ _).mono ?_ | with_reducible refine (HS.out _ _ _).mono ?_); rintro e w1 ⟨rfl, hb1⟩; replace hS := hS.trans (hb1.mono hS.size); clear hb1; refine ⟨_, rfl, .inr hS, ?_⟩; (try simp only [Act.put, List.setIfInBounds_toArray, List.set_cons_zero, List.set_cons_succ])) | (refine runL_op (by rfl) (by rfl) (exec_facts3 (f := aloneF 1 o.c) (g := lessF o.a o.c) (h := lessF o.b o.c) _ _ _ rfl rfl rfl rfl) (.inr (below_lit (Below.refl _ _) hS _)) ?_; (try simp only [Act.put, List.setIfInBounds_toArray, List.set_cons_zero, List.set_cons_succ])))
    (refine runL_nil ?_)
    have HB1 := Lib.hid hS
    clear hS
    go_wp2
    go_ret
    exact ⟨_, rfl, by rw [HN.out]; exact own_lit (l := [aloneF 1 o.c, lessF o.a o.c, lessF o.b o.c]) (heap_alloc_new w1 _) (by have := HB.out.size; have := HB1.out.size; omega) (by simp), below_lit HB.out HB1.out _⟩
  rw [if_neg k12] at hN
  have e12 : (k == 12) = false := beq_eq_false_iff_ne.2 k12
  clear k12
  by_cases k13 : k = 13
  · rw [if_pos k13] at hN
    have HN := Lib.hid hN
    subst k13
    clear hN
    go_enter Tryz.func39, Tryz.ntmps39
    go_upto_region 1 with fail
    rw [← HW.out]
    go_upto_region 10 with (first | go_in)
    have hS := (Below.refl W.heap.size W).drew
    (refine wp_region_lines (Below W.heap.size W) (by kernel_rfl) (by kernel_rfl) (Below.refl W.heap.size W).drew ?_)
    (try simp only [])
    repeat (first | (refine runL_no (by rfl) ?_; (try simp only [Act.put, List.setIfInBounds_toArray, List.set_cons_zero, List.set_cons_succ])) | (refine runL_val (v := ?_) (by rfl) ?_ ?_; rotate_left; (focus (intro w_ hw_; obtain ⟨f0_, f3_, f4_, f5_, f6_⟩ := HC.out w_ hw_; go_simp; (try with_reducible rfl); done)); (try simp only [Act.put, List.setIfInBounds_toArray, List.set_cons_zero, List.set_cons_succ])) | (refine runL_call (f := ?_) (args := ?_) (w1 := ?_) (by rfl) (by rfl) ?_ ?_; rotate_left 3; (focus (go_simp; refine ⟨⟨?_, ?_⟩, ?_⟩ <;> with_reducible rfl)); (first | with_reducible refine (HA.out _ _ _).mono ?_ | with_reducible refine (HS.out _ _ _).mono ?_); rintro e w1 ⟨rfl, hb1⟩; replace hS := hS.trans (hb1.mono hS.size); clear hb1; refine ⟨_, rfl, .inr hS, ?_⟩; (try simp only [Act.put, List.setIfInBounds_toArray, List.set_cons_zero, List.set_cons_succ])) | (refine runL_op (by rfl) (by rfl) (exec_facts2 (f := aloneF 1 o.c) (g := lessF o.a o.c) _ _ rfl rfl rfl) (.inr (below_lit (Below.refl _ _) hS _)) ?_; (try simp only [Act.put, List.setIfInBounds_toArray, List.set_cons_zero, List.set_cons_succ])))
    (refine runL_nil ?_)
    have HB1 := Lib.hid hS
    clear hS
    go_wp2
    go_ret
    exact ⟨_, rfl, by rw [HN.out]; exact own_lit (l := [aloneF 1 o.c, lessF o.a o.c]) (heap_alloc_new w1 _) (by have := HB.out.size; have := HB1.out.size; omega) (by simp), below_lit HB.out HB1.out _⟩
  rw [if_neg k13] at hN
  have e13 : (k == 13) = false := beq_eq_false_iff_ne.2 k13
  clear k13
  by_cases k17 : k = 17
  · rw [if_pos k17] at hN
    subst k17
    obtain ⟨m, hm⟩ : ∃ m, o.imm = m := ⟨_, rfl⟩
    rw [hm] at hN c6
    by_cases m2 : m = 2
    · rw [if_pos m2] at hN
      have HN := Lib.hid hN
      subst m2
      clear hN hm
      go_enter Tryz.func39, Tryz.ntmps39
      go_upto_region 1 with fail
      rw [← HW.out]
      go_wp2_with (first
        | ((with_reducible refine (HA.out _ _ _).mono ?_); rintro e w1 ⟨rfl, hb1⟩; have HB1 := Lib.hid hb1; clear hb1)
        | ((with_reducible refine (HS.out _ _ _).mono ?_); rintro e w1 ⟨rfl, hb1⟩; have HB1 := Lib.hid hb1; clear hb1)
        | go_in)
      go_ret
      exact ⟨_, rfl, by rw [HN.out]; exact own_lit (l := [lessF o.a o.b]) (heap_alloc_new w1 _) (by have := HB.out.size; have := HB1.out.size; omega) (by simp), below_lit HB.out HB1.out _⟩
    rw [if_neg m2] at hN
    have d2 : ((m : Int) == 2) = false := beq_eq_false_iff_ne.2 (by omega)
    by_cases m1 : m = 1
    · rw [if_pos m1] at hN
      have HN := Lib.hid hN
      subst m1
      clear hN hm m2
      go_enter Tryz.func39, Tryz.ntmps39
      go_upto_region 1 with fail
      rw [← HW.out]
      go_wp2_with (first
        | ((with_reducible refine (HA.out _ _ _).mono ?_); rintro e w1 ⟨rfl, hb1⟩; have HB1 := Lib.hid hb1; clear hb1)
        | ((with_reducible refine (HS.out _ _ _).mono ?_); rintro e w1 ⟨rfl, hb1⟩; have HB1 := Lib.hid hb1; clear hb1)
        | go_in)
      go_ret
      exact ⟨_, rfl, by rw [HN.out]; exact own_lit (l := [aloneF 1 o.a]) (heap_alloc_new w1 _) (by have := HB.out.size; have := HB1.out.size; omega) (by simp), below_lit HB.out HB1.out _⟩
    rw [if_neg m1] at hN
    have d1 : ((m : Int) == 1) = false := beq_eq_false_iff_ne.2 (by omega)
    by_cases m3 : m = 3
    · rw [if_pos m3] at hN
      have HN := Lib.hid hN
      subst m3
      clear hN hm m2 m1
      go_enter Tryz.func39, Tryz.ntmps39
      go_upto_region 1 with fail
      rw [← HW.out]
      go_wp2_with (first
        | ((with_reducible refine (HA.out _ _ _).mono ?_); rintro e w1 ⟨rfl, hb1⟩; have HB1 := Lib.hid hb1; clear hb1)
        | ((with_reducible refine (HS.out _ _ _).mono ?_); rintro e w1 ⟨rfl, hb1⟩; have HB1 := Lib.hid hb1; clear hb1)
        | go_in)
      go_ret
      exact ⟨_, rfl, by rw [HN.out]; exact own_lit (l := [aloneF 3 o.a]) (heap_alloc_new w1 _) (by have := HB.out.size; have := HB1.out.size; omega) (by simp), below_lit HB.out HB1.out _⟩
    rw [if_neg m3] at hN
    have d3 : ((m : Int) == 3) = false := beq_eq_false_iff_ne.2 (by omega)
    have HN := Lib.hid hN
    clear hN hm m1 m2 m3
    go_enter Tryz.func39, Tryz.ntmps39
    go_upto_region 1 with fail
    rw [← HW.out]
    go_wp2
    go_ret
    exact ⟨_, rfl, by rw [HN.out]; exact World.ownsRow_nil _ _ _ _, HB.out⟩
  rw [if_neg k17] at hN
  have e17 : (k == 17) = false := beq_eq_false_iff_ne.2 k17
  have HN := Lib.hid hN
  clear hN k17
  go_enter Tryz.func39, Tryz.ntmps39
  go_upto_region 1 with fail
  rw [← HW.out]
  go_wp2
  go_ret
  exact ⟨_, rfl, by rw [HN.out]; exact World.ownsRow_nil _ _ _ _, HB.out⟩
end Go.Proofs.YtjbabpnepjhllaaGreat
