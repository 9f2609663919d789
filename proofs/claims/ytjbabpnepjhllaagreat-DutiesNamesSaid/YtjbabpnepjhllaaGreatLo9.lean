/- The law DutiesNames tells true: the chapter's examples come out as it tells. No conditions. -/
import Derived.Test.YtjbabpnepjhllaaGreatLo8
import Derived.Test.YtjbabpnepjhllaaGreatLo5
import Derived.Test.YtjbabpnepjhllaaGreatRows
import Derived.ProofKit
import Derived.OpenShut
namespace Go.Proofs.YtjbabpnepjhllaaGreat
open Go.RowKit

/-- A kernel in a box. -/
structure KBx (W0 W : World) (B : Nat) (Av : Option Addr) (nv cv : Nat) (Ao : Option Addr) (no co : Nat) (Ar : Option Addr) (nr cr : Nat) (k : Krn) : Prop where
  box : W.heap[B]? = some (.cells #[.slice Av nv cv, .slice Ao no co, .slice Ar nr cr] 25 (0, 0))
  kern : KernAt W (fun q => q < W.heap.size ∧ q ≠ B) [.slice Av nv cv, .slice Ao no co, .slice Ar nr cr] k
  bel : Below W0.heap.size W0 W
  low : W0.heap.size ≤ B
theorem KBx.next {W0 W W' : World} {B : Nat} {Av : Option Addr} {nv cv : Nat} {Ao : Option Addr} {no co : Nat} {Ar : Option Addr} {nr cr : Nat} {k : Krn} (h : KBx W0 W B Av nv cv Ao no co Ar nr cr k) (hb : Below W.heap.size W W') : KBx W0 W' B Av nv cv Ao no co Ar nr cr k :=
  ⟨(hb.block B (lt_of_block h.box)).trans h.box, (h.kern.keep (SameOn.of_below hb fun _ hk => hk.1)).mono fun _ hk => ⟨Nat.lt_of_lt_of_le hk.1 hb.size, hk.2⟩, h.bel.trans (hb.mono h.bel.size), h.low⟩
theorem KBx.at_ {W0 W : World} {B : Nat} {Av : Option Addr} {nv cv : Nat} {Ao : Option Addr} {no co : Nat} {Ar : Option Addr} {nr cr : Nat} {k : Krn} (h : KBx W0 W B Av nv cv Ao no co Ar nr cr k) : KernAt W (fun q => q < W.heap.size) [.slice Av nv cv, .slice Ao no co, .slice Ar nr cr] k := h.kern.mono fun _ hk => hk.1
theorem KBx.cells {W0 W : World} {B : Nat} {Av : Option Addr} {nv cv : Nat} {Ao : Option Addr} {no co : Nat} {Ar : Option Addr} {nr cr : Nat} {k : Krn} (h : KBx W0 W B Av nv cv Ao no co Ar nr cr k) : W.cell? ⟨B, 0, none⟩ = some (.slice Av nv cv) ∧ W.cell? ⟨B, 1, none⟩ = some (.slice Ao no co) ∧ W.cell? ⟨B, 2, none⟩ = some (.slice Ar nr cr) ∧ (∀ i, W.frozen? ⟨B, i, none⟩ = false) := by
  simp [World.cell?, World.frozen?, h.box]
/-- The operations are others. -/
theorem KBx.ops {W0 W : World} {B : Nat} {Av : Option Addr} {nv cv : Nat} {Ao : Option Addr} {no co : Nat} {Ar : Option Addr} {nr cr : Nat} {k : Krn} (h : KBx W0 W B Av nv cv Ao no co Ar nr cr k) {A2 : Option Addr} {n2 c2 : Nat} {ops : List KOp} (ho : KOpsAt W (fun q => q < W.heap.size ∧ q ≠ B) (.slice A2 n2 c2) ops) (hok : ∀ o ∈ ops, smallOp o = true) (hn : ops.length ≤ 100) :
    KBx W0 (W.setCell ⟨B, 1, none⟩ (.slice A2 n2 c2)) B Av nv cv A2 n2 c2 Ar nr cr ⟨k.vars, ops, k.reqs⟩ ∧ Chg (fun q => q = B) W (W.setCell ⟨B, 1, none⟩ (.slice A2 n2 c2)) := by
  have hc : Chg (fun q => q = B) W (W.setCell ⟨B, 1, none⟩ (.slice A2 n2 c2)) := Chg.setCell (Chg.refl (fun q => q = B) W) (p := ⟨B, 1, none⟩) (.inl rfl) _
  have hs : SameOn (fun q => q < W.heap.size ∧ q ≠ B) W (W.setCell ⟨B, 1, none⟩ (.slice A2 n2 c2)) := hc.same fun _ hk => ⟨hk.1, hk.2⟩
  have hm : ∀ q, (q < W.heap.size ∧ q ≠ B) → q < (W.setCell ⟨B, 1, none⟩ (.slice A2 n2 c2)).heap.size ∧ q ≠ B := fun q hq => ⟨Nat.lt_of_lt_of_le hq.1 hc.size, hq.2⟩
  obtain ⟨vv, vo, vr, e, h1, h2, h3⟩ := h.kern.row
  simp only [List.cons.injEq, and_true] at e
  obtain ⟨rfl, rfl, rfl⟩ := e
  refine ⟨⟨?_, ⟨⟨_, _, _, rfl, Rows.mono (Rows.keep h1 hs) hm, Rows.mono (Rows.keep ho hs) hm, Rows.mono (Rows.keep h3 hs) hm⟩, h.kern.nv, by simp only; omega, h.kern.nr, h.kern.vars, fun o h => small_ok (hok o h), h.kern.reqs⟩, Below.setCell h.bel h.low _, h.low⟩, hc⟩
  exact setCell_rowK (row := [.slice Av nv cv, .slice Ao no co, .slice Ar nr cr]) h.box 1 (.slice A2 n2 c2)
/-- The variables are others. -/
theorem KBx.vars {W0 W : World} {B : Nat} {Av : Option Addr} {nv cv : Nat} {Ao : Option Addr} {no co : Nat} {Ar : Option Addr} {nr cr : Nat} {k : Krn} (h : KBx W0 W B Av nv cv Ao no co Ar nr cr k) {A2 : Option Addr} {n2 c2 : Nat} {vs : List KVar} (ho : KVarsAt W (fun q => q < W.heap.size ∧ q ≠ B) (.slice A2 n2 c2) vs) (hok : ∀ v ∈ vs, In64 v.limbs ∧ In64 v.mode) (hn : vs.length ≤ 100) :
    KBx W0 (W.setCell ⟨B, 0, none⟩ (.slice A2 n2 c2)) B A2 n2 c2 Ao no co Ar nr cr ⟨vs, k.ops, k.reqs⟩ ∧ Chg (fun q => q = B) W (W.setCell ⟨B, 0, none⟩ (.slice A2 n2 c2)) := by
  have hc : Chg (fun q => q = B) W (W.setCell ⟨B, 0, none⟩ (.slice A2 n2 c2)) := Chg.setCell (Chg.refl (fun q => q = B) W) (p := ⟨B, 0, none⟩) (.inl rfl) _
  have hs : SameOn (fun q => q < W.heap.size ∧ q ≠ B) W (W.setCell ⟨B, 0, none⟩ (.slice A2 n2 c2)) := hc.same fun _ hk => ⟨hk.1, hk.2⟩
  have hm : ∀ q, (q < W.heap.size ∧ q ≠ B) → q < (W.setCell ⟨B, 0, none⟩ (.slice A2 n2 c2)).heap.size ∧ q ≠ B := fun q hq => ⟨Nat.lt_of_lt_of_le hq.1 hc.size, hq.2⟩
  obtain ⟨vv, vo, vr, e, h1, h2, h3⟩ := h.kern.row
  simp only [List.cons.injEq, and_true] at e
  obtain ⟨rfl, rfl, rfl⟩ := e
  refine ⟨⟨?_, ⟨⟨_, _, _, rfl, Rows.mono (Rows.keep ho hs) hm, Rows.mono (Rows.keep h2 hs) hm, Rows.mono (Rows.keep h3 hs) hm⟩, by simp only; omega, h.kern.no, h.kern.nr, hok, h.kern.ops, h.kern.reqs⟩, Below.setCell h.bel h.low _, h.low⟩, hc⟩
  exact setCell_rowK (row := [.slice Av nv cv, .slice Ao no co, .slice Ar nr cr]) h.box 0 (.slice A2 n2 c2)
theorem kvars_own {w : World} {base : Nat} {v : Value} {l : List KVar} (h : w.ownsRow base 60 3 v l.length (l.map kvarRow).flatten) : KVarsAt w (fun k => v.ownBlock = some k) v l := by
  have hsz : ∀ r ∈ (l.map kvarRow), r.length = 3 := by intro r hr; obtain ⟨x, _, rfl⟩ := List.mem_map.1 hr; rfl
  rcases Nat.eq_zero_or_pos l.length with h0 | hpos
  · obtain rfl := List.eq_nil_of_length_eq_zero h0
    rcases h.2 with ⟨rfl, _⟩ | ⟨g, cap, cur, rfl, _, _, hnc, _⟩
    · exact ⟨none, 0, rfl, by simp, by simp, fun h => absurd rfl h⟩
    · exact ⟨_, cap, rfl, by simp, by simp, fun h => absurd rfl h⟩
  · obtain ⟨g, cap, rfl, hg, hnc, hrow⟩ := rowsBlk_of_own h hsz hpos
    refine ⟨_, cap, by simp, by simpa using hnc, hsz, fun _ => ⟨g, 0, rfl, rfl, fun i j r u hr hu => ?_⟩⟩
    rw [Nat.zero_add]
    exact hrow.cell hr hu
section
variable {o : Oper} {a : Act} {w : World}
theorem exec_kops3 {p q r : KOp} (x y z : Operand) (ho : o.op = .buildSlice 23 3 #[(0, x), (1, y), (2, z)]) (hx : a.eval x = .agg (kopRow p).toArray) (hy : a.eval y = .agg (kopRow q).toArray) (hz : a.eval z = .agg (kopRow r).toArray) :
    (execOp a.eval o).run Tryz.prog w = .ok (.value (.slice (some ⟨w.heap.size, 0, none⟩) 3 3)) (w.alloc (.cells (cellsK [p, q, r]).toArray 43)) := by
  obtain ⟨j0, hie, hy0, hy1, hy2⟩ := info_parts infoKopA
  have h := run_buildSlice (P := Tryz.prog) w 23 43 3 #[(0, .agg (kopRow p).toArray), (1, .agg (kopRow q).toArray), (2, .agg (kopRow r).toArray)] (cellsK [p, q, r]).toArray j0 _ Tryz.underlying23 hie hy0 (by rw [hy1]; decide) (by rw [hy1]; decide) (by rw [hy1]; kernel_rfl)
  unfold execOp
  simp only [ho, hx, hy, hz, List.map_toArray, List.map_cons, List.map_nil, Sem.run_bind, h, Result.andThen_ok, Sem.run_pure]
theorem runL_litK {ops : Array Oper} {Q : Act → World → Prop} {S : World → Prop} {o : Oper} {l : List Oper} {a : Act} {w : World} (hT : isT o = true) (hw : Region.wanted o (yielded ops a.tmps) = true) {n : Nat} (fs : List KOp)
    (hx : (execOp a.eval o).run Tryz.prog w = .ok (.value (.slice (some ⟨w.heap.size, 0, none⟩) n n)) (w.alloc (.cells (cellsK fs).toArray 43))) (hn : n = fs.length)
    (k : ∀ g w', KOpsAt w' (fun q => q < w'.heap.size) (.slice (some ⟨g, 0, none⟩) n n) fs → Below w.heap.size w w' → S w' ∧ runL Tryz.prog ops S Q l (a.put o.dst (.slice (some ⟨g, 0, none⟩) n n)) w') : runL Tryz.prog ops S Q (o :: l) a w := by
  obtain ⟨k1, k2⟩ := k w.heap.size _ (Rows.mono (rows_block (rows := fs.map kopRow) (heap_alloc_new w _) (fun r hr => by obtain ⟨x, _, rfl⟩ := List.mem_map.1 hr; rfl) (by rw [List.length_map]; exact hn.symm) (Nat.le_refl _)) fun q hq => by rw [hq]; simp) ((Below.refl _ _).alloc (Nat.le_refl _) _)
  exact runL_op hT hw hx (.inr k1) k2
theorem kop_one (l : List KOp) : ∀ u ∈ (l.map kopRow).flatten, u.oneCell' = true := fun u hu => by
  obtain ⟨r, hr, hu2⟩ := List.mem_flatten.1 hu
  obtain ⟨x, _, rfl⟩ := List.mem_map.1 hr
  simp only [kopRow, List.mem_cons, List.not_mem_nil, or_false] at hu2
  rcases hu2 with rfl | rfl | rfl | rfl | rfl | rfl | rfl <;> rfl
/-- Operations behind operations, where there is no room: a new row. -/
theorem runL_growK {ops : Array Oper} {Q : Act → World → Prop} {S : World → Prop} {o : Oper} {l : List Oper} {a : Act} {w : World} (hT : isT o = true) (hw : Region.wanted o (yielded ops a.tmps) = true) {n cap m c : Nat} {ad bd : Addr} {F G : Nat → Prop} {xs more : List KOp}
    (s x : Operand) (ho : o.op = .call { callee := .builtin .append, args := #[s, x], argTypes := #[23, 23] }) (hs : a.eval s = .slice (some ad) n cap) (hx : a.eval x = .slice (some bd) m c) (h1 : KOpsAt w F (.slice (some ad) n cap) xs) (h2 : KOpsAt w G (.slice (some bd) m c) more) (hr : cap < n + m) (h63 : n + m ≤ 1000)
    (k : ∀ A' c' w', w'.ownsRow w.heap.size 43 7 (.slice A' (n + m) c') (n + m) (cellsK (xs ++ more)) → Below w.heap.size w w' → S w' ∧ runL Tryz.prog ops S Q l (a.put o.dst (.slice A' (n + m) c')) w') : runL Tryz.prog ops S Q (o :: l) a w := by
  obtain ⟨j0, hie, hy0, hy1, hy2⟩ := info_parts infoKopA
  have e1 := Rows.flat (rows := xs.map kopRow) h1 (by decide)
  have e2 := Rows.flat (rows := more.map kopRow) h2 (by decide)
  obtain ⟨v', w', g1, g2, g3⟩ := run_append_arg_grows (P := Tryz.prog) w 23 o.type 43 j0 (.agg #[.int .i64 0, .int .i64 0, .int .i64 0, .int .i64 0, .int .i64 0, .int .i64 0, .int .u64 0]) 7 56 Tryz.underlying23 hie hy0 hy1 hy2 rfl (by decide) ad n cap _ e1.1 e1.2 bd m c _ e2.1 e2.2 hr (by unfold maxLen; omega) (by omega)
  obtain ⟨A', c', rfl⟩ := own_form g2
  obtain ⟨k1, k2⟩ := k A' c' w' (by unfold cellsK; rw [List.map_append, List.flatten_append]; exact g2) ((Below.refl _ _).grown g3 (Nat.le_refl _) fun k hk => (by cases hk))
  refine runL_op hT hw ?_ (.inr k1) k2
  unfold execOp
  simp only [ho, resolve, invoke, builtin, hs, hx, List.map_toArray, List.map_cons, List.map_nil, Sem.run_bind, g1, Result.andThen_ok, Sem.run_pure]
end
set_option maxRecDepth 100000 in
set_option maxHeartbeats 20000000 in
/-- DutiesNames. -/
theorem names_any (w : World) : Calls Tryz.prog 6 #[] w fun e w' => e = .returned (.bool true) ∧ Below w.heap.size w w' := by
  have HLV := Lib.hid (lives_any w)
  have HEX := Lib.hid (fun w_ => example_any w_)
  go_enter Tryz.func6, Tryz.ntmps6
  go_upto_region 4 with (first
    | ((with_reducible refine HLV.out.mono ?_); rintro e w0 ⟨rfl, hb0⟩; have HB0 := Lib.hid hb0; clear hb0)
    | ((with_reducible refine (HEX.out _).mono ?_); rintro e w1 ⟨b1, b2, b3, rfl, g1, g2, g3, h1, h2, h3, hb1⟩)
    | go_in)
  clear HLV HEX
  obtain ⟨W, hW⟩ : ∃ W, W = w1.alloc (.cells #[.slice (some ⟨b1, 0, none⟩) 3 3, .slice (some ⟨b2, 0, none⟩) 1 1, .slice (some ⟨b3, 0, none⟩) 2 2] 25) := ⟨_, rfl⟩
  obtain ⟨B, hB⟩ : ∃ b, b = w1.heap.size := ⟨_, rfl⟩
  rw [← hW, ← hB]
  have hbW : Below w1.heap.size w1 W := by rw [hW]; exact (Below.refl _ _).alloc (Nat.le_refl _) _
  have hbox : W.heap[B]? = some (.cells #[.slice (some ⟨b1, 0, none⟩) 3 3, .slice (some ⟨b2, 0, none⟩) 1 1, .slice (some ⟨b3, 0, none⟩) 2 2] 25 (0, 0)) := by rw [hW, hB]; exact heap_alloc_new w1 _
  have hk := ex_kern exK rfl rfl rfl (by intro o h; simp only [exK, List.mem_cons, List.not_mem_nil, or_false] at h; subst h; rfl) rfl (keep_blk h1 hbW) (keep_blk h2 hbW) (keep_blk h3 hbW)
  have hkl := (ex_kern exK rfl rfl rfl (by intro o h; simp only [exK, List.mem_cons, List.not_mem_nil, or_false] at h; subst h; rfl) rfl h1 h2 h3)
  have HKB := Lib.hid (show KBx w W B (some ⟨b1, 0, none⟩) 3 3 (some ⟨b2, 0, none⟩) 1 1 (some ⟨b3, 0, none⟩) 2 2 exK from ⟨hbox, (hkl.keep (SameOn.of_below hbW fun _ h => h)).mono fun q hq => ⟨Nat.lt_of_lt_of_le hq hbW.size, by rw [hB]; omega⟩, (HB0.out.trans (hb1.mono HB0.out.size)).trans (hbW.mono (by have := HB0.out.size; have := hb1.size; omega)), by rw [hB]; have := HB0.out.size; have := hb1.size; omega⟩)
  have HV1 := Lib.hid (show W.heap[b1]? = some (.cells vCells 60 (0, 0)) ∧ b1 ≠ B from ⟨keep_blk h1 hbW, by have := lt_of_block h1; omega⟩)
  clear hW hB hbW hbox hk hkl h1 h2 h3 g1 g2 g3 hb1 HB0
  have HS1 := Lib.hid (Start_any (some ⟨b1, 0, none⟩) (some ⟨b2, 0, none⟩) (some ⟨b3, 0, none⟩) 3 3 1 1 2 2 exK W _ HKB.out.at_ (fun k hk => hk) (by decide))
  rw [nm_start] at HS1
  obtain ⟨c0, c1, c2, _⟩ := HKB.out.cells
  go_upto_region 5 with (first | ((with_reducible refine HS1.out.mono ?_); rintro e w2 ⟨As, ns, cs, rfl, hf2, hb2⟩; have HFS := Lib.hid hf2; have HB2 := Lib.hid hb2; clear hf2 hb2) | go_in)
  clear c0 c1 c2 HS1
  have HKB2 := Lib.hid (HKB.out.next HB2.out)
  have HL1 := Lib.hid (After_any (some ⟨b1, 0, none⟩) (some ⟨b2, 0, none⟩) (some ⟨b3, 0, none⟩) As 3 3 1 1 2 2 ns cs exK 0 nmS w2 _ HKB2.out.at_ (fun k hk => hk) (by decide) HFS.out small_facts.1 (by decide))
  rw [nm_after] at HL1
  obtain ⟨c0, c1, c2, _⟩ := HKB2.out.cells
  go_upto_region 6 with (first | ((with_reducible refine HL1.out.mono ?_); rintro e w3 ⟨Al, nl, cl, rfl, hf3, hb3⟩; have HFL := Lib.hid hf3; have HB3 := Lib.hid hb3; clear hf3 hb3) | go_in)
  clear c0 c1 c2 HL1
  have HKB3 := Lib.hid (HKB2.out.next HB3.out)
  have HFS3 := Lib.hid (rows_next HFS.out HB3.out)
  have HV3 := Lib.hid (show w3.heap[b1]? = some (.cells vCells 60 (0, 0)) ∧ b1 ≠ B from ⟨keep_blk (keep_blk HV1.out.1 HB2.out) HB3.out, HV1.out.2⟩)
  clear HFS HKB HKB2 HB2 HB3 HV1
  have HOP := Lib.hid op_any
  have HB4 := Lib.hid (Below.refl w3.heap.size w3)
  have hca : ∀ o, (w3.alloc o).cell? ⟨B, 1, none⟩ = some (.slice (some ⟨b2, 0, none⟩) 1 1) := fun o => (HKB3.out.next ((Below.refl _ _).alloc (Nat.le_refl _) o)).cells.2.1
  have hfa : ∀ o, (w3.alloc o).frozen? ⟨B, 1, none⟩ = false := fun o => (HKB3.out.next ((Below.refl _ _).alloc (Nat.le_refl _) o)).cells.2.2.2 1
  go_upto_region 7 with (first | ((with_reducible refine (HOP.out _ _ _ _ _ _ _).mono ?_); rintro e w4 ⟨rfl, hb4⟩; replace HB4 := Lib.hid (HB4.out.trans (hb4.mono HB4.out.size)); clear hb4 hca hfa; have hca : ∀ o, (w4.alloc o).cell? ⟨B, 1, none⟩ = some (.slice (some ⟨b2, 0, none⟩) 1 1) := fun o => (HKB3.out.next (HB4.out.alloc HB4.out.size o)).cells.2.1; have hfa : ∀ o, (w4.alloc o).frozen? ⟨B, 1, none⟩ = false := fun o => (HKB3.out.next (HB4.out.alloc HB4.out.size o)).cells.2.2.2 1) | go_in)
  clear hca hfa
  obtain ⟨W4, hW4⟩ : ∃ W4, W4 = w4.alloc (.cells #[.int .i64 1, .int .i64 2, .int .i64 (-1), .int .i64 (-1), .int .i64 (-1), .int .i64 (-1), .int .u64 6, .int .i64 15, .int .i64 (-1), .int .i64 (-1), .int .i64 (-1), .int .i64 (-1), .int .i64 (-1), .int .u64 2, .int .i64 9, .int .i64 2, .int .i64 (-1), .int .i64 2, .int .i64 (-1), .int .i64 1, .int .u64 0, .int .i64 1, .int .i64 2, .int .i64 (-1), .int .i64 (-1), .int .i64 (-1), .int .i64 (-1), .int .u64 3, .int .i64 16, .int .i64 (-1), .int .i64 (-1), .int .i64 (-1), .int .i64 (-1), .int .i64 (-1), .int .u64 0] 43) := ⟨_, rfl⟩
  obtain ⟨b5, hb5⟩ : ∃ b5, b5 = w4.heap.size := ⟨_, rfl⟩
  rw [← hW4, ← hb5]
  have hlt5 : b5 ≠ B := by have := lt_of_block HKB3.out.box; have := HB4.out.size; omega
  have hbel : Below w3.heap.size w3 W4 := by rw [hW4]; exact HB4.out.alloc HB4.out.size _
  have hblk : W4.heap[b5]? = some (.cells (cellsK nmK2.ops).toArray 43 (0, 0)) := by rw [hW4, hb5]; exact heap_alloc_new w4 _
  have hkops : KOpsAt W4 (fun q => q < W4.heap.size ∧ q ≠ B) (.slice (some ⟨b5, 0, none⟩) 5 5) nmK2.ops :=
    Rows.mono (rows_block (rows := nmK2.ops.map kopRow) hblk (fun r hr => by obtain ⟨x, _, rfl⟩ := List.mem_map.1 hr; rfl) rfl (by decide)) fun q hq => by subst hq; exact ⟨lt_of_block hblk, hlt5⟩
  have hk5 := (HKB3.out.next hbel).ops hkops (by intro o h; simp only [nmK2, List.mem_cons, List.not_mem_nil, or_false] at h; rcases h with rfl | rfl | rfl | rfl | rfl <;> rfl) (by decide)
  have hs4 : FactsAt W4 (fun q => q < W4.heap.size ∧ q ≠ B) (.slice As ns cs) nmS := facts_ne (rows_next HFS3.out hbel) (by decide) (HKB3.out.next hbel).box
  have hl4 : FactsAt W4 (fun q => q < W4.heap.size ∧ q ≠ B) (.slice Al nl cl) nmL := facts_ne (rows_next HFL.out hbel) (by decide) (HKB3.out.next hbel).box
  obtain ⟨W5, hW5⟩ : ∃ W5, W5 = W4.setCell ⟨B, 1, none⟩ (.slice (some ⟨b5, 0, none⟩) 5 5) := ⟨_, rfl⟩
  rw [← hW5] at hk5
  rw [← hW5]
  have HKB5 := Lib.hid (show KBx w W5 B (some ⟨b1, 0, none⟩) 3 3 (some ⟨b5, 0, none⟩) 5 5 (some ⟨b3, 0, none⟩) 2 2 nmK2 from hk5.1)
  have HFS5 := Lib.hid (facts_chg hs4 hk5.2)
  have HFL5 := Lib.hid (facts_chg hl4 hk5.2)
  have HV5 := Lib.hid (show W5.heap[b1]? = some (.cells vCells 60 (0, 0)) from (hk5.2.block b1 (lt_of_block (keep_blk HV3.out.1 hbel)) HV3.out.2).trans (keep_blk HV3.out.1 hbel))
  have HNB := Lib.hid HV3.out.2
  clear hW4 hb5 hlt5 hbel hblk hkops hk5 hs4 hl4 hW5 HKB3 HFS3 HFL HV3 HB4
  have HAH := Lib.hid (Ahead_any (some ⟨b1, 0, none⟩) (some ⟨b5, 0, none⟩) (some ⟨b3, 0, none⟩) 3 3 5 5 2 2 nmK2 _ W5 _ HKB5.out.at_ (fun k hk => hk) (by decide) nm_ahead)
  obtain ⟨c0, c1, c2, _⟩ := HKB5.out.cells
  go_upto_region 8 with (first | ((with_reducible refine HAH.out.mono ?_); rintro e w6 ⟨Ag, n6, c6, rfl, hr6, hb6⟩; have HR6 := Lib.hid hr6; have HB6 := Lib.hid hb6; clear hr6 hb6) | go_in)
  clear c0 c1 c2 HAH
  obtain rfl : n6 = 5 := HR6.out.len.symm
  have HKB6 := Lib.hid (HKB5.out.next HB6.out)
  have HFS6 := Lib.hid (facts_ne (rows_next HFS5.out HB6.out) (by decide) HKB6.out.box)
  have HFL6 := Lib.hid (facts_ne (rows_next HFL5.out HB6.out) (by decide) HKB6.out.box)
  have HV6 := Lib.hid (keep_blk HV5.out HB6.out)
  obtain ⟨ga, hAg, hga, A1, n1, c1, y1, hf1⟩ := HR6.out.row 1 nmM rfl
  obtain ⟨ga', hAg', _, A2, n2, c2, y2, hf2⟩ := HR6.out.row 2 nmM rfl
  subst hAg; cases hAg'
  obtain ⟨ga', hAg', _, A3, n3, c3, y3, hf3⟩ := HR6.out.row 3 nmL rfl
  cases hAg'
  obtain ⟨ga', hAg', _, A4, n4, c4, y4, hf4⟩ := HR6.out.row 4 nmE rfl
  cases hAg'
  have hgB : ga ≠ B := fun e => by
    subst e
    simp [World.cell?, HKB6.out.box] at y4
  have HRW := Lib.hid (show ∀ w', Chg (fun q => q = B) w6 w' → (w'.cell? ⟨ga, 1, none⟩ = some (.slice A1 n1 c1) ∧ w'.cell? ⟨ga, 2, none⟩ = some (.slice A2 n2 c2) ∧ w'.cell? ⟨ga, 3, none⟩ = some (.slice A3 n3 c3) ∧ w'.cell? ⟨ga, 4, none⟩ = some (.slice A4 n4 c4)) ∧
      FactsAt w' (fun q => q < w'.heap.size) (.slice A1 n1 c1) nmM ∧ FactsAt w' (fun q => q < w'.heap.size) (.slice A2 n2 c2) nmM ∧ FactsAt w' (fun q => q < w'.heap.size) (.slice A3 n3 c3) nmL ∧ FactsAt w' (fun q => q < w'.heap.size) (.slice A4 n4 c4) nmE ∧ FactsAt w' (fun q => q < w'.heap.size) (.slice As ns cs) nmS ∧ FactsAt w' (fun q => q < w'.heap.size) (.slice Al nl cl) nmL from fun w' hc => by
    have hx : ∀ p, w'.cell? ⟨ga, p, none⟩ = w6.cell? ⟨ga, p, none⟩ := fun p => World.cell?_of_block (hc.block ga hga hgB)
    refine ⟨⟨(hx _).trans y1, (hx _).trans y2, (hx _).trans y3, (hx _).trans y4⟩, facts_chg (facts_ne hf1 (by decide) HKB6.out.box) hc, facts_chg (facts_ne hf2 (by decide) HKB6.out.box) hc, facts_chg (facts_ne hf3 (by decide) HKB6.out.box) hc, facts_chg (facts_ne hf4 (by decide) HKB6.out.box) hc, facts_chg HFS6.out hc, facts_chg HFL6.out hc⟩)
  clear y1 y2 y3 y4 hf1 hf2 hf3 hf4 hga hgB HFS6 HFL6 HFS5 HFL5 HR6 HKB5 HB6 HV5
  obtain ⟨i0, hi, hz0, hz1, hz2⟩ := info_parts infoVar
  have HI := Lib.hid (And.intro hi (And.intro hz0 (And.intro hz1 hz2)))
  clear hz0 hz1 hz2
  have hvat : KVarsAt w6 (fun q => q = b1) (.slice (some ⟨b1, 0, none⟩) 3 3) exK.vars := rows_block (rows := exK.vars.map kvarRow) HV6.out (fun r hr => by obtain ⟨x, _, rfl⟩ := List.mem_map.1 hr; rfl) rfl (by decide)
  have hfl := Rows.flat (rows := exK.vars.map kvarRow) hvat (by decide)
  have HFL9 := Lib.hid (show ∀ o, ∀ (j : Nat) (u : Value), (exK.vars.map kvarRow).flatten[j]? = some u → (w6.alloc o).cell? ⟨b1, 0 + j, none⟩ = some u from fun o j u hu => by
    have h1 := hfl.2 j u hu
    have h2 := World.cell?_of_block (((Below.refl w6.heap.size w6).alloc (Nat.le_refl _) o).block b1 (lt_of_block HV6.out)) (a := ⟨b1, 0 + j, none⟩)
    rw [h2]
    simpa [Addr.add_lit] using h1)
  clear hvat hfl
  obtain ⟨c0, c1', c2', hf⟩ := HKB6.out.cells
  go_upto_region 11 with (first | (at_builtin; (refine wpList_append_arg _ rfl _ _ 22 rfl 60 i0 (.agg #[.int .i64 0, .bool false, .int .i64 0]) 3 24 Tryz.underlying22 HI.out.1 HI.out.2.1 HI.out.2.2.1 HI.out.2.2.2 rfl (by decide) b1 0 3 3 (exK.vars.map kvarRow).flatten rfl (by rfl) (HFL9.out _) ⟨w6.heap.size, 0, none⟩ 1 1 [.int .i64 1, .bool true, .int .i64 0] rfl (by rfl) (World.news_of_block (cs := #[.int .i64 1, .bool true, .int .i64 0]) (t := 60) (fr := (0, 0)) (heap_alloc_new w6 _)) (by simp [Value.oneCell']) (fun hr => absurd hr (by decide)) (by unfold maxLen; decide) (by decide) (fun hr => absurd hr (by decide)) ?_); intro _ v8 w8 ho8 hg8; obtain ⟨A8, c8, rfl⟩ := own_form ho8; have HO8 := Lib.hid ho8; have HB8 := Lib.hid (Below.grown ((Below.refl w6.heap.size w6).alloc (Nat.le_refl _) (.cells #[.int .i64 1, .bool true, .int .i64 0] 60)) hg8 (by simp) (fun k hk => by cases hk)); clear ho8 hg8; clear c0 c1' c2' hf; obtain ⟨c0, c1', c2', hf⟩ := (HKB6.out.next HB8.out).cells) | go_in)
  clear c0 c1' c2' hf
  have hk8 := (HKB6.out.next HB8.out).vars (A2 := A8) (n2 := 4) (c2 := c8) (vs := nmK3.vars) (Rows.mono (kvars_own (l := nmK3.vars) HO8.out) fun q hq => ⟨(own_lt HO8.out q hq).1, by have h1 := (own_lt HO8.out q hq).2; have h2 := lt_of_block HKB6.out.box; simp at h1; omega⟩) (by
    intro v h
    have : v.limbs = 1 ∧ (v.mode = 2 ∨ v.mode = 3 ∨ v.mode = 0) := by
      simp only [nmK3, exK, List.cons_append, List.nil_append, List.mem_cons, List.not_mem_nil, or_false] at h
      rcases h with rfl | rfl | rfl | rfl <;> simp
    unfold In64; omega) (by decide)
  obtain ⟨W9, hW9⟩ : ∃ W9, W9 = w8.setCell ⟨B, 0, none⟩ (.slice A8 4 c8) := ⟨_, rfl⟩
  have hW9' : W9 = w8.setCell ⟨B, 0, none⟩ (.slice A8 (3 + 1) c8) := hW9
  rw [← hW9] at hk8
  (first | rw [← hW9] | rw [← hW9'])
  have HKB9 := Lib.hid (show KBx w W9 B A8 4 c8 (some ⟨b5, 0, none⟩) 5 5 (some ⟨b3, 0, none⟩) 2 2 ⟨nmK3.vars, nmK2.ops, exK.reqs⟩ from hk8.1)
  have HCG9 := Lib.hid (show Chg (fun q => q = B) w6 W9 from (Chg.of_below HB8.out).trans hk8.2)
  clear hW9 hW9' hk8 HKB6 HO8 HB8 HV6 HFL9 HI hi HNB
  have HCB := Lib.hid (show ∀ w_, Below W9.heap.size W9 w_ → w_.cell? ⟨B, 1, none⟩ = some (.slice (some ⟨b5, 0, none⟩) 5 5) ∧ KOpsAt w_ (fun q => q < w_.heap.size) (.slice (some ⟨b5, 0, none⟩) 5 5) nmK2.ops from fun w_ h => by
    have h1 := HKB9.out.next h
    obtain ⟨vv, vo, vr, e3, _, hko, _⟩ := h1.at_.row
    simp only [List.cons.injEq, and_true] at e3
    obtain ⟨rfl, rfl, rfl⟩ := e3
    exact ⟨h1.cells.2.1, hko⟩)
  have hS := (Below.refl W9.heap.size W9).drew
  (refine wp_region_lines (Below W9.heap.size W9) (by kernel_rfl) (by kernel_rfl) ((Below.refl W9.heap.size W9).drew) ?_)
  (try simp only [])
  repeat (first | (refine runL_no (by rfl) ?_; (try simp only [Act.put, List.setIfInBounds_toArray, List.set_cons_zero, List.set_cons_succ])) | (refine runL_val (v := ?_) (by rfl) ?_ ?_; rotate_left; (focus (intro w_ hw_; have f0_ := (HCB.out w_ hw_).1; go_simp; (try with_reducible rfl); done)); (try simp only [Act.put, List.setIfInBounds_toArray, List.set_cons_zero, List.set_cons_succ])) | (refine runL_call (f := ?_) (args := ?_) (w1 := ?_) (by rfl) (by rfl) ?_ ?_; rotate_left 3; (focus (go_simp; refine ⟨⟨?_, ?_⟩, ?_⟩ <;> with_reducible rfl)); (with_reducible refine (HOP.out _ _ _ _ _ _ _).mono ?_); rintro e_ w10 ⟨rfl, hb10⟩; replace hS := hS.trans (hb10.mono hS.size); clear hb10; refine ⟨_, rfl, .inr hS, ?_⟩; (try simp only [Act.put, List.setIfInBounds_toArray, List.set_cons_zero, List.set_cons_succ])) | (refine runL_litK (by rfl) (by rfl) nmMore (exec_kops3 (p := ⟨2, 3, -1, 0, -1, -1, 0⟩) (q := ⟨8, 2, -1, 3, 0, 0, 0⟩) (r := ⟨14, 2, 3, -1, -1, 0, 0⟩) _ _ _ rfl rfl rfl rfl) rfl ?_; intro g11 w11 hk11 hb11; have HK11 := Lib.hid hk11; replace hS := hS.trans (hb11.mono hS.size); clear hk11 hb11; refine ⟨hS, ?_⟩; (try simp only [Act.put, List.setIfInBounds_toArray, List.set_cons_zero, List.set_cons_succ])) | (refine runL_growK (by rfl) (by rfl) _ _ rfl rfl rfl (HCB.out _ hS).2 HK11.out (by decide) (by decide) ?_; intro A12 c12 w12 ho12 hb12; have HO12 := Lib.hid (ownsRow_base ho12 hS.size); replace hS := hS.trans (hb12.mono hS.size); clear ho12 hb12; refine ⟨hS, ?_⟩; (try simp only [Act.put, List.setIfInBounds_toArray, List.set_cons_zero, List.set_cons_succ])) | (refine runL_skip (w1 := w12.setCell ⟨B, 1, none⟩ (.slice A12 8 c12)) (by rfl) (by rfl) (exec_store1 23 _ _ rfl B 1 (.slice A12 8 c12) rfl rfl (by kernel_rfl) (by rw [(HKB9.out.next hS).cells.2.1]; rfl) ((HKB9.out.next hS).cells.2.2.2 1) rfl) (.inl ⟨rfl, by kernel_rfl⟩) ?_; (try simp only [Act.put])))
  (refine runL_nil ?_)
  have hk12 := (HKB9.out.next hS).ops (A2 := A12) (n2 := 8) (c2 := c12) (ops := nmK3.ops) (Rows.mono (kops_own (l := nmK3.ops) HO12.out) fun q hq => ⟨(own_lt HO12.out q hq).1, by have h1 := (own_lt HO12.out q hq).2; have h2 := lt_of_block HKB9.out.box; omega⟩) (by intro o h; simp only [nmK3, nmK2, nmMore, List.cons_append, List.nil_append, List.mem_cons, List.not_mem_nil, or_false] at h; rcases h with rfl | rfl | rfl | rfl | rfl | rfl | rfl | rfl <;> rfl) (by decide)
  obtain ⟨W13, hW13⟩ : ∃ W, W = w12.setCell ⟨B, 1, none⟩ (.slice A12 8 c12) := ⟨_, rfl⟩
  rw [← hW13] at hk12
  rw [← hW13]
  have HK13 := Lib.hid (show KBx w W13 B A8 4 c8 A12 8 c12 (some ⟨b3, 0, none⟩) 2 2 nmK3 from hk12.1)
  have HCG := Lib.hid (show Chg (fun q => q = B) w6 W13 from (HCG9.out.trans (Chg.of_below hS)).trans hk12.2)
  clear hW13 hk12 hS HKB9 HCG9 HO12 HCB
  have HR13 := Lib.hid (HRW.out _ HCG.out)
  clear HRW HCG
  have HCA := Lib.hid (After_any A8 A12 (some ⟨b3, 0, none⟩) As 4 c8 8 c12 2 2 ns cs nmK3 5 nmS W13 _ HK13.out.at_ (fun k hk => hk) (by decide) HR13.out.2.2.2.2.2.1 small_facts.1 (by decide))
  rw [nm_after3] at HCA
  obtain ⟨c0, c1', c2', _⟩ := HK13.out.cells
  go_upto_region 13 with (first | ((with_reducible refine HCA.out.mono ?_); rintro e w14 ⟨Ac, nc, cc, rfl, hf14, hb14⟩; have HFC := Lib.hid hf14; have HB14 := Lib.hid hb14; clear hf14 hb14) | go_in)
  clear c0 c1' c2' HCA
  have HK14 := Lib.hid (HK13.out.next HB14.out)
  have HRA := Lib.hid (show ∀ w_, Below w14.heap.size w14 w_ → (w_.cell? ⟨ga, 1, none⟩ = some (.slice A1 n1 c1) ∧ w_.cell? ⟨ga, 2, none⟩ = some (.slice A2 n2 c2) ∧ w_.cell? ⟨ga, 3, none⟩ = some (.slice A3 n3 c3) ∧ w_.cell? ⟨ga, 4, none⟩ = some (.slice A4 n4 c4)) ∧ w_.cell? ⟨B, 0, none⟩ = some (.slice A8 4 c8) ∧ w_.cell? ⟨B, 1, none⟩ = some (.slice A12 8 c12) ∧ w_.cell? ⟨B, 2, none⟩ = some (.slice (some ⟨b3, 0, none⟩) 2 2) from fun w_ h => by
    have hb := HB14.out.trans (h.mono HB14.out.size)
    have hg : ga < W13.heap.size := World.block_lt_of_cell? W13 ⟨ga, 1, none⟩ HR13.out.1.1
    have hx : ∀ p, w_.cell? ⟨ga, p, none⟩ = W13.cell? ⟨ga, p, none⟩ := fun p => World.cell?_of_block (hb.block ga hg)
    obtain ⟨q0, q1, q2, _⟩ := (HK14.out.next h).cells
    exact ⟨⟨(hx _).trans HR13.out.1.1, (hx _).trans HR13.out.1.2.1, (hx _).trans HR13.out.1.2.2.1, (hx _).trans HR13.out.1.2.2.2⟩, q0, q1, q2⟩)
  have hup : ∀ {w_}, Below w14.heap.size w14 w_ → Below W13.heap.size W13 w_ := fun h => HB14.out.trans (h.mono HB14.out.size)
  have HFf1 := Lib.hid (show ∀ (w_ : World), Below w14.heap.size w14 w_ → FactsAt w_ (fun q => q < w_.heap.size) (.slice A1 n1 c1) nmM from fun w_ h => rows_next HR13.out.2.1 (hup h))
  have HFf2 := Lib.hid (show ∀ (w_ : World), Below w14.heap.size w14 w_ → FactsAt w_ (fun q => q < w_.heap.size) (.slice A2 n2 c2) nmM from fun w_ h => rows_next HR13.out.2.2.1 (hup h))
  have HFf3 := Lib.hid (show ∀ (w_ : World), Below w14.heap.size w14 w_ → FactsAt w_ (fun q => q < w_.heap.size) (.slice A3 n3 c3) nmL from fun w_ h => rows_next HR13.out.2.2.2.1 (hup h))
  have HFf4 := Lib.hid (show ∀ (w_ : World), Below w14.heap.size w14 w_ → FactsAt w_ (fun q => q < w_.heap.size) (.slice A4 n4 c4) nmE from fun w_ h => rows_next HR13.out.2.2.2.2.1 (hup h))
  have HFfs := Lib.hid (show ∀ (w_ : World), Below w14.heap.size w14 w_ → FactsAt w_ (fun q => q < w_.heap.size) (.slice As ns cs) nmS from fun w_ h => rows_next HR13.out.2.2.2.2.2.1 (hup h))
  have HFfl := Lib.hid (show ∀ (w_ : World), Below w14.heap.size w14 w_ → FactsAt w_ (fun q => q < w_.heap.size) (.slice Al nl cl) nmL from fun w_ h => rows_next HR13.out.2.2.2.2.2.2 (hup h))
  have HFfc := Lib.hid (show ∀ (w_ : World), Below w14.heap.size w14 w_ → FactsAt w_ (fun q => q < w_.heap.size) (.slice Ac nc cc) nmC from fun w_ h => rows_next HFC.out h)
  have HSM := Lib.hid (fun (Aa : Option Addr) (na ca : Nat) (Ab : Option Addr) (nb cb : Nat) (l : List Fct) (w_ : World) (h1 : FactsAt w_ (fun q => q < w_.heap.size) (.slice Aa na ca) l) (h2 : FactsAt w_ (fun q => q < w_.heap.size) (.slice Ab nb cb) l) (h3 : l.length ≤ 1000000) => (by
    have h := SameF_any Aa Ab na ca nb cb l l w_ h1 h2 h3
    rw [show (l == l) = true from beq_self_eq_true l] at h
    exact h : Calls Tryz.prog 22 #[.slice Aa na ca, .slice Ab nb cb] w_ fun e w' => e = .returned (.bool true) ∧ Below w_.heap.size w_ w'))
  have HAL := Lib.hid lalone_any
  have HLS := Lib.hid lless_any
  have HK1 := Lib.hid (fun (w_ : World) (h : Below w14.heap.size w14 w_) => (by
    have h1 := Knows_any (.slice Ac nc cc) (aloneF 3 1) nmC w_ _ (HFfc.out w_ h) (fun k hk => hk) (by decide)
    rw [nm_knows.1] at h1
    exact h1 : Calls Tryz.prog 19 #[.slice Ac nc cc, .agg #[.int .i64 3, .int .i64 1, .int .i64 (-1)]] w_ fun e w' => e = .returned (.bool true) ∧ Below w_.heap.size w_ w'))
  have HK0 := Lib.hid (fun (w_ : World) (h : Below w14.heap.size w14 w_) => (by
    have h1 := Knows_any (.slice Ac nc cc) (aloneF 3 0) nmC w_ _ (HFfc.out w_ h) (fun k hk => hk) (by decide)
    rw [nm_knows.2] at h1
    exact h1 : Calls Tryz.prog 19 #[.slice Ac nc cc, .agg #[.int .i64 3, .int .i64 0, .int .i64 (-1)]] w_ fun e w' => e = .returned (.bool false) ∧ Below w_.heap.size w_ w'))
  have HCO := Lib.hid (fun (w_ : World) (h : Below w14.heap.size w14 w_) => Common_any Ac Al nc cc nl cl nmC nmL w_ _ (HFfc.out w_ h) (HFfl.out w_ h) (fun k hk => hk) small_facts.2 (by decide) (by decide))
  rw [nm_common] at HCO
  have HST := Lib.hid (fun (w_ : World) => Start_any none none none 0 0 0 0 0 0 nilK w_ _ (nil_kern w_) (fun k hk => hk) (by decide))
  rw [nil_start] at HST
  have HA9 := Lib.hid (fun (w_ : World) (h : Below w14.heap.size w14 w_) => After_any A8 A12 (some ⟨b3, 0, none⟩) As 4 c8 8 c12 2 2 ns cs nmK3 9 nmS w_ _ (HK14.out.next h).at_ (fun k hk => hk) (by decide) (HFfs.out w_ h) small_facts.1 (by decide))
  rw [nm_after9] at HA9
  have HAH := Lib.hid (fun (w_ : World) => Ahead_any none none none 0 0 0 0 0 0 nilK [] w_ _ (nil_kern w_) (fun k hk => hk) (by decide) nil_ahead)
  have e0 : ((0 : Nat) : Int) = 0 := rfl
  clear hup
  have hS := (Below.refl w14.heap.size w14).drew
  (refine wp_region_lines (Below w14.heap.size w14) (by kernel_rfl) (by kernel_rfl) ((Below.refl w14.heap.size w14).drew) ?_)
  (try simp only [])
  repeat (first | (refine runL_no (by rfl) ?_; (try simp only [Act.put, List.setIfInBounds_toArray, List.set_cons_zero, List.set_cons_succ])) | (refine runL_val (v := ?_) (by rfl) ?_ ?_; rotate_left; (focus (intro w_ hw_; obtain ⟨⟨f1_, f2_, f3_, f4_⟩, f5_, f6_, f7_⟩ := HRA.out w_ hw_; go_simp; (try with_reducible rfl); done)); (try simp only [Act.put, List.setIfInBounds_toArray, List.set_cons_zero, List.set_cons_succ])) | (refine runL_call (f := ?_) (args := ?_) (w1 := ?_) (by rfl) (by rfl) ?_ ?_; rotate_left 3; (focus (go_simp; refine ⟨⟨?_, ?_⟩, ?_⟩ <;> with_reducible rfl)); (with_reducible refine (HAL.out _ _ _).mono ?_); rintro e_ w20 ⟨rfl, hb20⟩; replace hS := hS.trans (hb20.mono hS.size); clear hb20; refine ⟨_, rfl, .inr hS, ?_⟩; (try simp only [Act.put, List.setIfInBounds_toArray, List.set_cons_zero, List.set_cons_succ])) | (refine runL_call (f := ?_) (args := ?_) (w1 := ?_) (by rfl) (by rfl) ?_ ?_; rotate_left 3; (focus (go_simp; refine ⟨⟨?_, ?_⟩, ?_⟩ <;> with_reducible rfl)); (with_reducible refine (HLS.out _ _ _).mono ?_); rintro e_ w20 ⟨rfl, hb20⟩; replace hS := hS.trans (hb20.mono hS.size); clear hb20; refine ⟨_, rfl, .inr hS, ?_⟩; (try simp only [Act.put, List.setIfInBounds_toArray, List.set_cons_zero, List.set_cons_succ])) | (refine runL_call (f := ?_) (args := ?_) (w1 := ?_) (by rfl) (by rfl) ?_ ?_; rotate_left 3; (focus (go_simp; refine ⟨⟨?_, ?_⟩, ?_⟩ <;> with_reducible rfl)); (with_reducible refine (HSM.out As ns cs _ _ _ nmS _ (HFfs.out _ hS) HLIT.out (by decide)).mono ?_); rintro e_ w20 ⟨rfl, hb20⟩; replace hS := hS.trans (hb20.mono hS.size); clear hb20; refine ⟨_, rfl, .inr hS, ?_⟩; (try simp only [Act.put, List.setIfInBounds_toArray, List.set_cons_zero, List.set_cons_succ])) | (refine runL_call (f := ?_) (args := ?_) (w1 := ?_) (by rfl) (by rfl) ?_ ?_; rotate_left 3; (focus (go_simp; refine ⟨⟨?_, ?_⟩, ?_⟩ <;> with_reducible rfl)); (with_reducible refine (HSM.out Al nl cl _ _ _ nmL _ (HFfl.out _ hS) HLIT.out (by decide)).mono ?_); rintro e_ w20 ⟨rfl, hb20⟩; replace hS := hS.trans (hb20.mono hS.size); clear hb20; refine ⟨_, rfl, .inr hS, ?_⟩; (try simp only [Act.put, List.setIfInBounds_toArray, List.set_cons_zero, List.set_cons_succ])) | (refine runL_call (f := ?_) (args := ?_) (w1 := ?_) (by rfl) (by rfl) ?_ ?_; rotate_left 3; (focus (go_simp; refine ⟨⟨?_, ?_⟩, ?_⟩ <;> with_reducible rfl)); (with_reducible refine (HSM.out A1 n1 c1 _ _ _ nmM _ (HFf1.out _ hS) HLIT.out (by decide)).mono ?_); rintro e_ w20 ⟨rfl, hb20⟩; replace hS := hS.trans (hb20.mono hS.size); clear hb20; refine ⟨_, rfl, .inr hS, ?_⟩; (try simp only [Act.put, List.setIfInBounds_toArray, List.set_cons_zero, List.set_cons_succ])) | (refine runL_call (f := ?_) (args := ?_) (w1 := ?_) (by rfl) (by rfl) ?_ ?_; rotate_left 3; (focus (go_simp; refine ⟨⟨?_, ?_⟩, ?_⟩ <;> with_reducible rfl)); (with_reducible refine (HSM.out A3 n3 c3 _ _ _ nmL _ (HFf3.out _ hS) HLIT.out (by decide)).mono ?_); rintro e_ w20 ⟨rfl, hb20⟩; replace hS := hS.trans (hb20.mono hS.size); clear hb20; refine ⟨_, rfl, .inr hS, ?_⟩; (try simp only [Act.put, List.setIfInBounds_toArray, List.set_cons_zero, List.set_cons_succ])) | (refine runL_call (f := ?_) (args := ?_) (w1 := ?_) (by rfl) (by rfl) ?_ ?_; rotate_left 3; (focus (go_simp; refine ⟨⟨?_, ?_⟩, ?_⟩ <;> with_reducible rfl)); (with_reducible refine (HSM.out A4 n4 c4 _ _ _ nmE _ (HFf4.out _ hS) HLIT.out (by decide)).mono ?_); rintro e_ w20 ⟨rfl, hb20⟩; replace hS := hS.trans (hb20.mono hS.size); clear hb20; refine ⟨_, rfl, .inr hS, ?_⟩; (try simp only [Act.put, List.setIfInBounds_toArray, List.set_cons_zero, List.set_cons_succ])) | (refine runL_call (f := ?_) (args := ?_) (w1 := ?_) (by rfl) (by rfl) ?_ ?_; rotate_left 3; (focus (go_simp; refine ⟨⟨?_, ?_⟩, ?_⟩ <;> with_reducible rfl)); (with_reducible refine (HSM.out Ac nc cc _ _ _ nmC _ (HFfc.out _ hS) HLIT.out (by decide)).mono ?_); rintro e_ w20 ⟨rfl, hb20⟩; replace hS := hS.trans (hb20.mono hS.size); clear hb20; refine ⟨_, rfl, .inr hS, ?_⟩; (try simp only [Act.put, List.setIfInBounds_toArray, List.set_cons_zero, List.set_cons_succ])) | (refine runL_call (f := ?_) (args := ?_) (w1 := ?_) (by rfl) (by rfl) ?_ ?_; rotate_left 3; (focus (go_simp; refine ⟨⟨?_, ?_⟩, ?_⟩ <;> with_reducible rfl)); (with_reducible refine (HSM.out A2 n2 c2 A1 n1 c1 nmM _ (HFf2.out _ hS) (HFf1.out _ hS) (by decide)).mono ?_); rintro e_ w20 ⟨rfl, hb20⟩; replace hS := hS.trans (hb20.mono hS.size); clear hb20; refine ⟨_, rfl, .inr hS, ?_⟩; (try simp only [Act.put, List.setIfInBounds_toArray, List.set_cons_zero, List.set_cons_succ])) | (refine runL_call (f := ?_) (args := ?_) (w1 := ?_) (by rfl) (by rfl) ?_ ?_; rotate_left 3; (focus (go_simp; refine ⟨⟨?_, ?_⟩, ?_⟩ <;> with_reducible rfl)); (with_reducible refine (HSM.out _ _ _ As ns cs nmS _ HF21.out (HFfs.out _ hS) (by decide)).mono ?_); rintro e_ w20 ⟨rfl, hb20⟩; replace hS := hS.trans (hb20.mono hS.size); clear hb20; refine ⟨_, rfl, .inr hS, ?_⟩; (try simp only [Act.put, List.setIfInBounds_toArray, List.set_cons_zero, List.set_cons_succ])) | (refine runL_call (f := ?_) (args := ?_) (w1 := ?_) (by rfl) (by rfl) ?_ ?_; rotate_left 3; (focus (go_simp; refine ⟨⟨?_, ?_⟩, ?_⟩ <;> with_reducible rfl)); (with_reducible refine (HK1.out _ hS).mono ?_); rintro e_ w20 ⟨rfl, hb20⟩; replace hS := hS.trans (hb20.mono hS.size); clear hb20; refine ⟨_, rfl, .inr hS, ?_⟩; (try simp only [Act.put, List.setIfInBounds_toArray, List.set_cons_zero, List.set_cons_succ])) | (refine runL_call (f := ?_) (args := ?_) (w1 := ?_) (by rfl) (by rfl) ?_ ?_; rotate_left 3; (focus (go_simp; refine ⟨⟨?_, ?_⟩, ?_⟩ <;> with_reducible rfl)); (with_reducible refine (HK0.out _ hS).mono ?_); rintro e_ w20 ⟨rfl, hb20⟩; replace hS := hS.trans (hb20.mono hS.size); clear hb20; refine ⟨_, rfl, .inr hS, ?_⟩; (try simp only [Act.put, List.setIfInBounds_toArray, List.set_cons_zero, List.set_cons_succ])) | (refine runL_call (f := ?_) (args := ?_) (w1 := ?_) (by rfl) (by rfl) ?_ ?_; rotate_left 3; (focus (go_simp; refine ⟨⟨?_, ?_⟩, ?_⟩ <;> with_reducible rfl)); (with_reducible refine (HCO.out _ hS).mono ?_); rintro e_ w20 ⟨A21, n21, c21, rfl, hf21, hb20⟩; have HF21 := Lib.hid hf21; replace hS := hS.trans (hb20.mono hS.size); clear hf21 hb20; refine ⟨_, rfl, .inr hS, ?_⟩; (try simp only [Act.put, List.setIfInBounds_toArray, List.set_cons_zero, List.set_cons_succ])) | (refine runL_call (f := ?_) (args := ?_) (w1 := ?_) (by rfl) (by rfl) ?_ ?_; rotate_left 3; (focus (go_simp; refine ⟨⟨?_, ?_⟩, ?_⟩ <;> with_reducible rfl)); (with_reducible refine (HST.out _).mono ?_); rintro e_ w20 ⟨A22, n22, c22, rfl, hf22, hb20⟩; obtain rfl : n22 = 0 := (rows_len hf22).1; replace hS := hS.trans (hb20.mono hS.size); clear hf22 hb20; refine ⟨_, rfl, .inr hS, ?_⟩; (try simp only [Act.put, List.setIfInBounds_toArray, List.set_cons_zero, List.set_cons_succ])) | (refine runL_call (f := ?_) (args := ?_) (w1 := ?_) (by rfl) (by rfl) ?_ ?_; rotate_left 3; (focus (go_simp; refine ⟨⟨?_, ?_⟩, ?_⟩ <;> with_reducible rfl)); (with_reducible refine (HA9.out _ hS).mono ?_); rintro e_ w20 ⟨A23, n23, c23, rfl, hf23, hb20⟩; obtain rfl : n23 = 0 := (rows_len hf23).1; replace hS := hS.trans (hb20.mono hS.size); clear hf23 hb20; refine ⟨_, rfl, .inr hS, ?_⟩; (try simp only [Act.put, List.setIfInBounds_toArray, List.set_cons_zero, List.set_cons_succ])) | (refine runL_call (f := ?_) (args := ?_) (w1 := ?_) (by rfl) (by rfl) ?_ ?_; rotate_left 3; (focus (go_simp; refine ⟨⟨?_, ?_⟩, ?_⟩ <;> with_reducible rfl)); (with_reducible refine (HAH.out _).mono ?_); rintro e_ w20 ⟨A24, n24, c24, rfl, hr24, hb20⟩; obtain rfl : n24 = 0 := hr24.len.symm; replace hS := hS.trans (hb20.mono hS.size); clear hr24 hb20; refine ⟨_, rfl, .inr hS, ?_⟩; (try simp only [Act.put, List.setIfInBounds_toArray, List.set_cons_zero, List.set_cons_succ])) | (refine runL_lit (by rfl) (by rfl) nmS (exec_facts2 (f := aloneF 1 1) (g := lessF 0 1) _ _ rfl rfl rfl) rfl (by decide) ?_; intro g25 w25 hf25 hb25; have HLIT := Lib.hid hf25; replace hS := hS.trans (hb25.mono hS.size); clear hf25 hb25; refine ⟨hS, ?_⟩; (try simp only [Act.put, List.setIfInBounds_toArray, List.set_cons_zero, List.set_cons_succ])) | (refine runL_lit (by rfl) (by rfl) nmL (exec_facts3 (f := aloneF 1 1) (g := lessF 0 1) (h := lessF 2 1) _ _ _ rfl rfl rfl rfl) rfl (by decide) ?_; intro g25 w25 hf25 hb25; have HLIT := Lib.hid hf25; replace hS := hS.trans (hb25.mono hS.size); clear hf25 hb25; refine ⟨hS, ?_⟩; (try simp only [Act.put, List.setIfInBounds_toArray, List.set_cons_zero, List.set_cons_succ])) | (refine runL_lit (by rfl) (by rfl) nmM (exec_facts3 (f := aloneF 1 1) (g := lessF 0 1) (h := aloneF 3 2) _ _ _ rfl rfl rfl rfl) rfl (by decide) ?_; intro g25 w25 hf25 hb25; have HLIT := Lib.hid hf25; replace hS := hS.trans (hb25.mono hS.size); clear hf25 hb25; refine ⟨hS, ?_⟩; (try simp only [Act.put, List.setIfInBounds_toArray, List.set_cons_zero, List.set_cons_succ])) | (refine runL_lit (by rfl) (by rfl) nmC (exec_facts3 (f := aloneF 1 1) (g := lessF 0 1) (h := lessF 3 1) _ _ _ rfl rfl rfl rfl) rfl (by decide) ?_; intro g25 w25 hf25 hb25; have HLIT := Lib.hid hf25; replace hS := hS.trans (hb25.mono hS.size); clear hf25 hb25; refine ⟨hS, ?_⟩; (try simp only [Act.put, List.setIfInBounds_toArray, List.set_cons_zero, List.set_cons_succ])) | (refine runL_lit (by rfl) (by rfl) nmE (exec_facts4 (f := aloneF 1 1) (g := aloneF 1 2) (h := lessF 0 1) (q := aloneF 3 2) _ _ _ _ rfl rfl rfl rfl rfl) rfl (by decide) ?_; intro g25 w25 hf25 hb25; have HLIT := Lib.hid hf25; replace hS := hS.trans (hb25.mono hS.size); clear hf25 hb25; refine ⟨hS, ?_⟩; (try simp only [Act.put, List.setIfInBounds_toArray, List.set_cons_zero, List.set_cons_succ])))
  (refine runL_nil ?_)
  have HS := Lib.hid (HK14.out.bel.trans (hS.mono HK14.out.bel.size))
  clear hS
  go_wp2
  go_ret
  exact ⟨rfl, HS.out⟩
end Go.Proofs.YtjbabpnepjhllaaGreat

/- The law DutiesNames tells true: the chapter's examples come out as it tells. No conditions. -/
namespace Go.Proofs.YtjbabpnepjhllaaGreat.dutiesNames
open Go.ChangeShapes Go.WideShapes Go.ChangeAt Go.RowKit

theorem own : ownKnob Tryz.prog.godebug = none := by kernel_rfl
theorem laidOut : laidOutB Tryz.prog = true := by kernel_rfl

set_option maxRecDepth 100000 in
theorem lifted (os : Os) (started : os.Started) (H : Type) (enc : TypeId × Value → H) :
    ReturnsInHanded {} Tryz.checked os 6 .any (Rows.dutiesNamesSpec.pre6 enc Tryz.prog Tryz.f6 Rows.dutiesNamesRow.domain false) (Rows.dutiesNamesSpec.post enc Tryz.prog Tryz.f6 false true false false) := by
  refine returnsInHanded_of_change (C := Tryz.checked) own started (by kernel_rfl) Tryz.func6
    (ChangeSpec.witness6 (enc := enc) (C := Tryz.checked) false ⟨#[], #[], []⟩ 8 (by kernel_rfl) (by kernel_rfl) (by kernel_rfl) (by kernel_rfl)) ?_
  intro W base args ds gs before hval0 hW hcnd _
  have hval : ∀ (j : Nat) t v, Tryz.f6.params[j]? = some t → args[j]? = some v → Value.okWide Tryz.prog W .any base t v := hval0
  have hW' := hW
  obtain ⟨p, q, hA0, hV, rfl, hfz, hnd⟩ := hW
  have hA : DataW.TrodAll enc Tryz.prog W 0 (fun _ => true) true Tryz.f6.params.toList args.toList ds p := hA0
  rw [Tryz.params6] at hA hval
  obtain ⟨rfl, rfl, rfl⟩ := trodAll_none hA
  obtain ⟨rfl, rfl⟩ := trodVars_none hV
  clear hA0 hval0
  refine (names_any W).mono fun e W' ⟨he, bel⟩ => ?_
  subst he
  exact ⟨_, rfl, _, _, _, [], _, [], hW', trodAll_mk1 (shut_bool Tryz.underlying4 _), trodAll_mk0, rfl, bel.frame _, fun h => by cases h⟩

theorem over : Rows.dutiesNamesRow.holds Tryz.pinned (OpenSpec.ofChange Rows.dutiesNamesSpec) :=
  OpenClaim.holds_of_wide 6 Tryz.f6 rfl rfl rfl rfl rfl rfl rfl ⟨rfl, rfl, rfl, rfl, rfl⟩ rfl rfl rfl rfl rfl (by kernel_rfl) Tryz.func6 (by kernel_rfl)
    (of_decide_eq_true (by kernel_rfl)) (by unfold Func.isWrapper; first | (rw [if_pos (by decide +kernel)]; kernel_rfl) | (rw [if_neg (by decide +kernel)]; exact ⟨rfl, rfl⟩))
    (fun os started H enc _ => lifted os started H enc)

theorem proved : Rows.DutiesNamesSaid := over
#print axioms proved
end Go.Proofs.YtjbabpnepjhllaaGreat.dutiesNames
