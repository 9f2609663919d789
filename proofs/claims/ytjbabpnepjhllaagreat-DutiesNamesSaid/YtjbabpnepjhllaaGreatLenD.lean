/- lengths.alike's functions, agree. -/
import Derived.Test.YtjbabpnepjhllaaGreatLenC
namespace Go.Proofs.YtjbabpnepjhllaaGreat
open Go.RowKit

theorem al1_any (o : KOp) (w : World) : Calls Tryz.prog 141 #[.agg #[.int .i64 o.kind, .int .i64 o.d, .int .i64 o.e, .int .i64 o.a, .int .i64 o.b, .int .i64 o.c, .int .u64 o.imm]] w (NumsSay [o.d, o.a, o.b, o.c] w) := by
  go_enter Tryz.func141, Tryz.ntmps141
  go_upto_region 1 with (first | go_in)
  obtain ⟨W, hW⟩ : ∃ W, W = w.alloc (.cells #[.int .i64 o.kind, .int .i64 o.d, .int .i64 o.e, .int .i64 o.a, .int .i64 o.b, .int .i64 o.c, .int .u64 o.imm] 43) := ⟨_, rfl⟩
  rw [← hW]
  have hb : Below w.heap.size w W := by rw [hW]; exact (Below.refl _ _).alloc (Nat.le_refl _) _
  have hk : OpBox W w.heap.size o := OpBox.of (t := 43) (fr := (0, 0)) (by rw [hW]; exact heap_alloc_new w _)
  have HB := Lib.hid hb
  have c1 := hk.d
  have c2 := hk.e
  have c3 := hk.a
  have c4 := hk.b
  have c5 := hk.c
  clear hW hb hk
  go_wp2
  go_ret
  refine ⟨some ⟨W.heap.size, 0, none⟩, 4, 4, rfl, Rows.mono (nums_blk (g := W.heap.size) (l := [o.d, o.a, o.b, o.c]) (t := 3) (heap_alloc_new W _)) (fun k hk => by subst hk; simp), HB.out.alloc HB.out.size _⟩
theorem al2_any (o : KOp) (w : World) : Calls Tryz.prog 142 #[.agg #[.int .i64 o.kind, .int .i64 o.d, .int .i64 o.e, .int .i64 o.a, .int .i64 o.b, .int .i64 o.c, .int .u64 o.imm]] w (NumsSay [o.a, o.b] w) := by
  go_enter Tryz.func142, Tryz.ntmps142
  go_upto_region 1 with (first | go_in)
  obtain ⟨W, hW⟩ : ∃ W, W = w.alloc (.cells #[.int .i64 o.kind, .int .i64 o.d, .int .i64 o.e, .int .i64 o.a, .int .i64 o.b, .int .i64 o.c, .int .u64 o.imm] 43) := ⟨_, rfl⟩
  rw [← hW]
  have hb : Below w.heap.size w W := by rw [hW]; exact (Below.refl _ _).alloc (Nat.le_refl _) _
  have hk : OpBox W w.heap.size o := OpBox.of (t := 43) (fr := (0, 0)) (by rw [hW]; exact heap_alloc_new w _)
  have HB := Lib.hid hb
  have c1 := hk.d
  have c2 := hk.e
  have c3 := hk.a
  have c4 := hk.b
  have c5 := hk.c
  clear hW hb hk
  go_wp2
  go_ret
  refine ⟨some ⟨W.heap.size, 0, none⟩, 2, 2, rfl, Rows.mono (nums_blk (g := W.heap.size) (l := [o.a, o.b]) (t := 3) (heap_alloc_new W _)) (fun k hk => by subst hk; simp), HB.out.alloc HB.out.size _⟩
theorem al3_any (o : KOp) (w : World) : Calls Tryz.prog 143 #[.agg #[.int .i64 o.kind, .int .i64 o.d, .int .i64 o.e, .int .i64 o.a, .int .i64 o.b, .int .i64 o.c, .int .u64 o.imm]] w (NumsSay [o.d, o.e] w) := by
  go_enter Tryz.func143, Tryz.ntmps143
  go_upto_region 1 with (first | go_in)
  obtain ⟨W, hW⟩ : ∃ W, W = w.alloc (.cells #[.int .i64 o.kind, .int .i64 o.d, .int .i64 o.e, .int .i64 o.a, .int .i64 o.b, .int .i64 o.c, .int .u64 o.imm] 43) := ⟨_, rfl⟩
  rw [← hW]
  have hb : Below w.heap.size w W := by rw [hW]; exact (Below.refl _ _).alloc (Nat.le_refl _) _
  have hk : OpBox W w.heap.size o := OpBox.of (t := 43) (fr := (0, 0)) (by rw [hW]; exact heap_alloc_new w _)
  have HB := Lib.hid hb
  have c1 := hk.d
  have c2 := hk.e
  have c3 := hk.a
  have c4 := hk.b
  have c5 := hk.c
  clear hW hb hk
  go_wp2
  go_ret
  refine ⟨some ⟨W.heap.size, 0, none⟩, 2, 2, rfl, Rows.mono (nums_blk (g := W.heap.size) (l := [o.d, o.e]) (t := 3) (heap_alloc_new W _)) (fun k hk => by subst hk; simp), HB.out.alloc HB.out.size _⟩
theorem al4_any (o : KOp) (w : World) : Calls Tryz.prog 144 #[.agg #[.int .i64 o.kind, .int .i64 o.d, .int .i64 o.e, .int .i64 o.a, .int .i64 o.b, .int .i64 o.c, .int .u64 o.imm]] w (NumsSay [o.d, o.a, o.b] w) := by
  go_enter Tryz.func144, Tryz.ntmps144
  go_upto_region 1 with (first | go_in)
  obtain ⟨W, hW⟩ : ∃ W, W = w.alloc (.cells #[.int .i64 o.kind, .int .i64 o.d, .int .i64 o.e, .int .i64 o.a, .int .i64 o.b, .int .i64 o.c, .int .u64 o.imm] 43) := ⟨_, rfl⟩
  rw [← hW]
  have hb : Below w.heap.size w W := by rw [hW]; exact (Below.refl _ _).alloc (Nat.le_refl _) _
  have hk : OpBox W w.heap.size o := OpBox.of (t := 43) (fr := (0, 0)) (by rw [hW]; exact heap_alloc_new w _)
  have HB := Lib.hid hb
  have c1 := hk.d
  have c2 := hk.e
  have c3 := hk.a
  have c4 := hk.b
  have c5 := hk.c
  clear hW hb hk
  go_wp2
  go_ret
  refine ⟨some ⟨W.heap.size, 0, none⟩, 3, 3, rfl, Rows.mono (nums_blk (g := W.heap.size) (l := [o.d, o.a, o.b]) (t := 3) (heap_alloc_new W _)) (fun k hk => by subst hk; simp), HB.out.alloc HB.out.size _⟩
theorem al5_any (o : KOp) (w : World) : Calls Tryz.prog 145 #[.agg #[.int .i64 o.kind, .int .i64 o.d, .int .i64 o.e, .int .i64 o.a, .int .i64 o.b, .int .i64 o.c, .int .u64 o.imm]] w (NumsSay [o.d, o.c] w) := by
  go_enter Tryz.func145, Tryz.ntmps145
  go_upto_region 1 with (first | go_in)
  obtain ⟨W, hW⟩ : ∃ W, W = w.alloc (.cells #[.int .i64 o.kind, .int .i64 o.d, .int .i64 o.e, .int .i64 o.a, .int .i64 o.b, .int .i64 o.c, .int .u64 o.imm] 43) := ⟨_, rfl⟩
  rw [← hW]
  have hb : Below w.heap.size w W := by rw [hW]; exact (Below.refl _ _).alloc (Nat.le_refl _) _
  have hk : OpBox W w.heap.size o := OpBox.of (t := 43) (fr := (0, 0)) (by rw [hW]; exact heap_alloc_new w _)
  have HB := Lib.hid hb
  have c1 := hk.d
  have c2 := hk.e
  have c3 := hk.a
  have c4 := hk.b
  have c5 := hk.c
  clear hW hb hk
  go_wp2
  go_ret
  refine ⟨some ⟨W.heap.size, 0, none⟩, 2, 2, rfl, Rows.mono (nums_blk (g := W.heap.size) (l := [o.d, o.c]) (t := 3) (heap_alloc_new W _)) (fun k hk => by subst hk; simp), HB.out.alloc HB.out.size _⟩
theorem al6_any (o : KOp) (w : World) : Calls Tryz.prog 146 #[.agg #[.int .i64 o.kind, .int .i64 o.d, .int .i64 o.e, .int .i64 o.a, .int .i64 o.b, .int .i64 o.c, .int .u64 o.imm]] w (NumsSay [o.d, o.a, o.c] w) := by
  go_enter Tryz.func146, Tryz.ntmps146
  go_upto_region 1 with (first | go_in)
  obtain ⟨W, hW⟩ : ∃ W, W = w.alloc (.cells #[.int .i64 o.kind, .int .i64 o.d, .int .i64 o.e, .int .i64 o.a, .int .i64 o.b, .int .i64 o.c, .int .u64 o.imm] 43) := ⟨_, rfl⟩
  rw [← hW]
  have hb : Below w.heap.size w W := by rw [hW]; exact (Below.refl _ _).alloc (Nat.le_refl _) _
  have hk : OpBox W w.heap.size o := OpBox.of (t := 43) (fr := (0, 0)) (by rw [hW]; exact heap_alloc_new w _)
  have HB := Lib.hid hb
  have c1 := hk.d
  have c2 := hk.e
  have c3 := hk.a
  have c4 := hk.b
  have c5 := hk.c
  clear hW hb hk
  go_wp2
  go_ret
  refine ⟨some ⟨W.heap.size, 0, none⟩, 3, 3, rfl, Rows.mono (nums_blk (g := W.heap.size) (l := [o.d, o.a, o.c]) (t := 3) (heap_alloc_new W _)) (fun k hk => by subst hk; simp), HB.out.alloc HB.out.size _⟩
theorem alike_fn (o : KOp) (h : alikeIs o.kind = true) : ∃ N : Nat, Maps.has alikeD (.int .i64 o.kind) = true ∧ alikeD.atKey (.int .i64 o.kind) (.lit (.int .i64 (-1))) = fnN N ∧ (∀ args w, (callFunc N args).run Tryz.prog w = .ok (.enter N args) w) ∧
    ∀ w, Calls Tryz.prog N #[.agg #[.int .i64 o.kind, .int .i64 o.d, .int .i64 o.e, .int .i64 o.a, .int .i64 o.b, .int .i64 o.c, .int .u64 o.imm]] w (NumsSay (alikeK o) w) := by
  unfold alikeIs at h
  simp only [Bool.or_eq_true, beq_iff_eq] at h
  rcases h with h | h | h | h | h | h | h | h
  · refine ⟨142, by rw [h]; exact alike_6.1, by rw [h]; exact alike_6.2, enters_of Tryz.func142 (by kernel_rfl) rfl, fun w => ?_⟩
    rw [show alikeK o = [o.a, o.b] by unfold alikeK; rw [if_pos h]]
    exact al2_any o w
  · refine ⟨143, by rw [h]; exact alike_14.1, by rw [h]; exact alike_14.2, enters_of Tryz.func143 (by kernel_rfl) rfl, fun w => ?_⟩
    rw [show alikeK o = [o.d, o.e] by unfold alikeK; rw [if_neg (by omega), if_pos h]]
    exact al3_any o w
  · refine ⟨144, by rw [h]; exact alike_8.1, by rw [h]; exact alike_8.2, enters_of Tryz.func144 (by kernel_rfl) rfl, fun w => ?_⟩
    rw [show alikeK o = [o.d, o.a, o.b] by unfold alikeK; rw [if_neg (by omega), if_neg (by omega), if_pos h]]
    exact al4_any o w
  · refine ⟨145, by rw [h]; exact alike_9.1, by rw [h]; exact alike_9.2, enters_of Tryz.func145 (by kernel_rfl) rfl, fun w => ?_⟩
    rw [show alikeK o = [o.d, o.c] by unfold alikeK; rw [if_neg (by omega), if_neg (by omega), if_neg (by omega), if_pos h]]
    exact al5_any o w
  · refine ⟨141, by rw [h]; exact alike_10.1, by rw [h]; exact alike_10.2, enters_of Tryz.func141 (by kernel_rfl) rfl, fun w => ?_⟩
    rw [show alikeK o = [o.d, o.a, o.b, o.c] by unfold alikeK; rw [if_neg (by omega), if_neg (by omega), if_neg (by omega), if_neg (by omega), if_pos (by omega)]]
    exact al1_any o w
  · refine ⟨141, by rw [h]; exact alike_11.1, by rw [h]; exact alike_11.2, enters_of Tryz.func141 (by kernel_rfl) rfl, fun w => ?_⟩
    rw [show alikeK o = [o.d, o.a, o.b, o.c] by unfold alikeK; rw [if_neg (by omega), if_neg (by omega), if_neg (by omega), if_neg (by omega), if_pos (by omega)]]
    exact al1_any o w
  · refine ⟨141, by rw [h]; exact alike_12.1, by rw [h]; exact alike_12.2, enters_of Tryz.func141 (by kernel_rfl) rfl, fun w => ?_⟩
    rw [show alikeK o = [o.d, o.a, o.b, o.c] by unfold alikeK; rw [if_neg (by omega), if_neg (by omega), if_neg (by omega), if_neg (by omega), if_pos (by omega)]]
    exact al1_any o w
  · refine ⟨146, by rw [h]; exact alike_13.1, by rw [h]; exact alike_13.2, enters_of Tryz.func146 (by kernel_rfl) rfl, fun w => ?_⟩
    rw [show alikeK o = [o.d, o.a, o.c] by unfold alikeK; rw [if_neg (by omega), if_neg (by omega), if_neg (by omega), if_neg (by omega), if_neg (by omega), if_pos h]]
    exact al6_any o w
theorem alike_none {o : KOp} (h : alikeIs o.kind = false) : alikeK o = [] := by
  unfold alikeIs at h
  simp only [Bool.or_eq_false_iff, beq_eq_false_iff_ne] at h
  unfold alikeK
  rw [if_neg (by omega), if_neg (by omega), if_neg (by omega), if_neg (by omega), if_neg (by omega), if_neg (by omega)]
/-- The boxes of a row of variables and of an operation. -/
structure VoAt (W : World) (bv bo : Nat) (Av : Option Addr) (nv cv : Nat) (vs : List KVar) (o : KOp) : Prop where
  hcv : W.cell? ⟨bv, 0, none⟩ = some (.slice Av nv cv)
  op : OpBox W bo o
  vars : KVarsAt W (fun k => k < W.heap.size) (.slice Av nv cv) vs
  lv : bv < W.heap.size
  lo : bo < W.heap.size
theorem VoAt.next {W w' : World} {bv bo : Nat} {Av : Option Addr} {nv cv : Nat} {vs : List KVar} {o : KOp} (h : VoAt W bv bo Av nv cv vs o) (hb : Below W.heap.size W w') : VoAt w' bv bo Av nv cv vs o :=
  ⟨(hb.cell (p := ⟨bv, 0, none⟩) h.lv).trans h.hcv, h.op.next hb h.lo, rows_next h.vars hb, Nat.lt_of_lt_of_le h.lv hb.size, Nat.lt_of_lt_of_le h.lo hb.size⟩
theorem vo_start (w : World) (F : Nat → Prop) (Av : Option Addr) (nv cv : Nat) (vs : List KVar) (o : KOp) (hv : KVarsAt w F (.slice Av nv cv) vs) (hF : ∀ k, F k → k < w.heap.size) :
    VoAt ((w.alloc (.cells #[.slice Av nv cv] 22)).alloc (.cells (kopRow o).toArray 43)) w.heap.size (w.heap.size + 1) Av nv cv vs o ∧ Below w.heap.size w ((w.alloc (.cells #[.slice Av nv cv] 22)).alloc (.cells (kopRow o).toArray 43)) ∧ ((w.alloc (.cells #[.slice Av nv cv] 22)).alloc (.cells (kopRow o).toArray 43)).heap.size = w.heap.size + 2 := by
  have hb1 : Below w.heap.size w (w.alloc (.cells #[.slice Av nv cv] 22)) := (Below.refl _ _).alloc (Nat.le_refl _) _
  have hb2 : Below (w.alloc (.cells #[.slice Av nv cv] 22)).heap.size (w.alloc (.cells #[.slice Av nv cv] 22)) ((w.alloc (.cells #[.slice Av nv cv] 22)).alloc (.cells (kopRow o).toArray 43)) := (Below.refl _ _).alloc (Nat.le_refl _) _
  have hz : (w.alloc (.cells #[.slice Av nv cv] 22)).heap.size = w.heap.size + 1 := by simp
  have hz2 : ((w.alloc (.cells #[.slice Av nv cv] 22)).alloc (.cells (kopRow o).toArray 43)).heap.size = w.heap.size + 2 := by simp
  have hn : ((w.alloc (.cells #[.slice Av nv cv] 22)).alloc (.cells (kopRow o).toArray 43)).heap[w.heap.size + 1]? = some (.cells (kopRow o).toArray 43 (0, 0)) := by
    have h := heap_alloc_new (w.alloc (.cells #[.slice Av nv cv] 22)) (.cells (kopRow o).toArray 43)
    rw [hz] at h
    exact h
  have hb := hb1.trans (hb2.mono hb1.size)
  exact ⟨⟨(hb2.cell (p := ⟨w.heap.size, 0, none⟩) (show w.heap.size < _ by omega)).trans (cell_new w _ _ rfl), OpBox.of (t := 43) (fr := (0, 0)) hn, Rows.mono (Rows.keep hv (SameOn.of_below hb hF)) (fun k hk => by have := hF k hk; omega), by omega, by omega⟩, hb, hz2⟩
theorem varK_at {vs : List KVar} {k : Nat} {v : KVar} (h : vs[k]? = some v) : varK vs (k : Int) = v := by unfold varK; rw [Int.toNat_natCast, List.getD_eq_getElem?_getD, h]; rfl
set_option maxRecDepth 100000 in
set_option maxHeartbeats 4000000 in
theorem agree1_any (v h : Nat) (l : List Int) (vs : List KVar) (Av Al : Option Addr) (nv cv nl cl B1 B2 : Nat) (w : World) (h1 : w.cell? ⟨B1, 0, none⟩ = some (.slice Av nv cv)) (h2 : w.cell? ⟨B2, 0, none⟩ = some (.slice Al nl cl)) (l1 : B1 < w.heap.size) (l2 : B2 < w.heap.size)
    (hv : KVarsAt w (fun k => k < w.heap.size) (.slice Av nv cv) vs) (hl : NumsAt w (fun k => k < w.heap.size) (.slice Al nl cl) l) (hh : l[0]? = some (h : Int)) (hlv : v < vs.length) (hlh : h < vs.length) (hn : vs.length ≤ 100000) :
    Calls Tryz.prog 120 #[.int .i64 (v : Int), .pointer (some ⟨B1, 0, none⟩), .pointer (some ⟨B2, 0, none⟩)] w fun e w' => e = .returned (.bool ((varK vs v).limbs != (varK vs h).limbs)) ∧ Below w.heap.size w w' := by
  obtain ⟨x, hx⟩ : ∃ x, vs[v]? = some x := ⟨_, List.getElem?_eq_getElem hlv⟩
  obtain ⟨y, hy⟩ : ∃ y, vs[h]? = some y := ⟨_, List.getElem?_eq_getElem hlh⟩
  rw [varK_at hx, varK_at hy]
  obtain ⟨gv, ov, rfl, hgv, f0, _, _⟩ := hv.at_ hx
  obtain ⟨_, _, hA, _, f1, _, _⟩ := hv.at_ hy
  cases hA
  obtain ⟨gl, ol, rfl, hgl, f2⟩ := hl.at_ hh
  have hnv := (rows_len hv).1
  have hnl := (rows_len hl).1
  have hl0 : 0 < l.length := (List.getElem?_eq_some_iff.1 hh).1
  have HFA := Lib.hid (show ∀ w_, Below w.heap.size w w_ → w_.cell? ⟨B1, 0, none⟩ = some (.slice (some ⟨gv, ov, none⟩) nv cv) ∧ w_.cell? ⟨B2, 0, none⟩ = some (.slice (some ⟨gl, ol, none⟩) nl cl) ∧ w_.cell? ⟨gv, ov + v * 3, none⟩ = some (.int .i64 x.limbs) ∧ w_.cell? ⟨gv, ov + h * 3, none⟩ = some (.int .i64 y.limbs) ∧ w_.cell? ⟨gl, ol, none⟩ = some (.int .i64 (h : Int)) from fun w_ hw =>
    ⟨(hw.cell (p := ⟨B1, 0, none⟩) l1).trans h1, (hw.cell (p := ⟨B2, 0, none⟩) l2).trans h2, (hw.cell (p := ⟨gv, ov + v * 3, none⟩) hgv).trans f0, (hw.cell (p := ⟨gv, ov + h * 3, none⟩) hgv).trans f1, (hw.cell (p := ⟨gl, ol, none⟩) hgl).trans (by simpa using f2)⟩)
  have i0 : (0 : Int) ≤ (v : Int) := by omega
  have i1 : (v : Int) < (nv : Int) := by omega
  have i2 : (0 : Int) ≤ (h : Int) := by omega
  have i3 : (h : Int) < (nv : Int) := by omega
  have i4 : IntKind.i64.wrap (v : Int) = v := by rw [IntKind.wrap_i64]; omega
  have i5 : IntKind.i64.wrap (h : Int) = h := by rw [IntKind.wrap_i64]; omega
  have i6 : 0 < nl := by omega
  have i7 : (0 : Int) < (nl : Int) := by omega
  clear hx hy hgv hgl f0 f1 f2 hnv hnl hl0 hv hl hh h1 h2 l1 l2 hlv hlh
  go_enter Tryz.func120, Tryz.ntmps120
  go_upto_region 1 with (first | go_in)
  have hS := (Below.refl w.heap.size w).drew
  (refine wp_region_lines (Below w.heap.size w) (by kernel_rfl) (by kernel_rfl) (Below.refl w.heap.size w).drew ?_)
  (try simp only [])
  repeat (first | (refine runL_no (by rfl) ?_; (try simp only [Act.put, List.setIfInBounds_toArray, List.set_cons_zero, List.set_cons_succ])) | (refine runL_val (v := ?_) (by rfl) ?_ ?_; rotate_left; (focus (intro w_ hw_; obtain ⟨f0_, f1_, f2_, f3_, f4_⟩ := HFA.out w_ hw_; go_simp; (try with_reducible rfl); done)); (try simp only [Act.put, List.setIfInBounds_toArray, List.set_cons_zero, List.set_cons_succ])))
  (refine runL_nil ?_)
  go_wp2
  go_ret
  exact ⟨rfl, hS⟩
end Go.Proofs.YtjbabpnepjhllaaGreat
