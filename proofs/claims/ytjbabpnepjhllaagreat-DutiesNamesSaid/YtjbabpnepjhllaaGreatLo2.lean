/- lengths.Check. -/
import Derived.Test.YtjbabpnepjhllaaGreatLo1
import Derived.Test.YtjbabpnepjhllaaGreatShelf
import Derived.Laws.CopyRow
import Derived.Laws.MakeOwn
import Derived.Test.YtjbabpnepjhllaaGreatAfterB
namespace Go.Proofs.YtjbabpnepjhllaaGreat
open Go.RowKit

theorem errK_eq (k : Krn) : errK k = if varsK k.vars && (decide (k.ops.length ≤ 4096) && (decide (k.reqs.length ≤ 4096) && (k.reqs.all (reqK k.vars) && opsK k.vars k.ops))) then 0 else 2 := by unfold errK checkK; rfl
theorem kbox_of {W : World} {b : Nat} {Av Ao Ar : Option Addr} {nv cv no co nr cr : Nat} {k : Krn} {t : TypeId} {fr : Nat × Nat} (h : W.heap[b]? = some (.cells #[.slice Av nv cv, .slice Ao no co, .slice Ar nr cr] t fr)) (hk : KernAt W (fun k => k < W.heap.size) [.slice Av nv cv, .slice Ao no co, .slice Ar nr cr] k) :
    KBox W b Av nv cv Ao no co Ar nr cr k := by
  obtain ⟨vv, vo, vr, e, h1, h2, h3⟩ := hk.row
  simp only [List.cons.injEq, and_true] at e
  obtain ⟨rfl, rfl, rfl⟩ := e
  exact ⟨by simp [World.cell?, h], by simp [World.cell?, h], by simp [World.cell?, h], lt_of_block h, h1, h2, h3⟩
theorem infoB : (Tryz.prog.info? 4).map (fun i => (i.zero, i.size, i.bytes)) = some (some (.bool false), 1, 1) := by kernel_rfl
theorem make_bool (n : Nat) (hn : n ≤ 100000) (w : World) : (Instr.makeSlice 38 (.int .i64 n) (.int .i64 n)).run Tryz.prog w = .ok (.slice (some ⟨w.heap.size, 0, none⟩) n n) (w.alloc (.cells ((List.replicate n false).map Value.bool).toArray 4)) := by
  obtain ⟨i0, hi, hz0, hz1, hz2⟩ := info_parts infoB
  have h := run_make (P := Tryz.prog) w 38 4 i0 (.bool false) Tryz.underlying38 hi hz0 .i64 .i64 n n (by omega) (by omega) (by rw [hz2]; omega) (by omega)
  rw [hz1] at h
  have e : (Value.bool false).cells = #[.bool false] := rfl
  have e2 : madeCells #[.bool false] n = ((List.replicate n false).map Value.bool).toArray := by
    refine Array.ext (by simp [size_madeCells]) fun i h1 h2 => ?_
    simp [madeCells, Nat.mod_one]
  rw [e] at h
  simp only [Int.toNat_natCast, Nat.mul_one, e2] at h
  exact h

theorem own_made {w : World} {m base : Nat} (hb : base ≤ w.heap.size) (hm : m ≤ 100000) : (w.alloc (.cells (Array.replicate m (Value.bool false)) 4)).ownsRow base 4 1 (.slice (some ⟨w.heap.size, 0, none⟩) m m) m ((List.replicate m false).map Value.bool) := by
  refine ⟨by simp, .inr ⟨w.heap.size, m, _, rfl, hb, heap_alloc_new w _, Nat.le_refl _, by unfold maxLen; omega, by simp, by simp⟩⟩
set_option maxRecDepth 100000 in
set_option maxHeartbeats 8000000 in
theorem lcheck_any (Av Ao Ar : Option Addr) (nv cv no co nr cr : Nat) (k : Krn) (w : World) (F : Nat → Prop) (hk : KernAt w F [.slice Av nv cv, .slice Ao no co, .slice Ar nr cr] k) (hF : ∀ k, F k → k < w.heap.size) (hvn : k.vars.length ≤ 100000) :
    Calls Tryz.prog 37 #[.agg #[.slice Av nv cv, .slice Ao no co, .slice Ar nr cr]] w fun e w' => e = .returned (.int .i64 (errK k)) ∧ Below w.heap.size w w' := by
  obtain ⟨W, hW⟩ : ∃ W, W = w.alloc (.cells #[.slice Av nv cv, .slice Ao no co, .slice Ar nr cr] 25) := ⟨_, rfl⟩
  have hb : Below w.heap.size w W := by rw [hW]; exact (Below.refl _ _).alloc (Nat.le_refl _) _
  have hz : W.heap.size = w.heap.size + 1 := by rw [hW]; simp
  have hbox : W.heap[w.heap.size]? = some (.cells #[.slice Av nv cv, .slice Ao no co, .slice Ar nr cr] 25 (0, 0)) := by rw [hW]; exact heap_alloc_new w _
  have hk2 : KernAt W (fun k => k < W.heap.size) [.slice Av nv cv, .slice Ao no co, .slice Ar nr cr] k := (hk.keep (SameOn.of_below hb hF)).mono fun j hj => by have := hF j hj; omega
  have hkb := kbox_of hbox hk2
  have HW := Lib.hid hW
  have HB := Lib.hid hb
  have HK := Lib.hid hkb
  have HKO := Lib.hid hk.ops
  have HNN := Lib.hid hkb.nv
  have n5 : nv ≤ 100000 := by have := hkb.nv; omega
  have n6 : no ≤ 9223372036854775807 := by have := hkb.nv; have := hk.no; omega
  have n7 : nr ≤ 9223372036854775807 := by have := hkb.nv; have := hk.nr; omega
  have he := errK_eq k
  have c0 := hkb.c0
  have c1 := hkb.c1
  have c2 := hkb.c2
  have HVA := Lib.hid (vars_any Av nv cv k.vars W _ hkb.vars (fun k hk => hk) hvn)
  clear hW hb hz hbox hk2 hkb hk hF
  cases hv : varsK k.vars
  · have HX := Lib.hid (show errK k = 2 by rw [he, hv]; rfl)
    rw [hv] at HVA
    clear he hv
    go_enter Tryz.func37, Tryz.ntmps37
    go_upto_region 1 with (first | go_in)
    rw [← HW.out]
    go_wp2_with (first | ((with_reducible refine HVA.out.mono ?_); rintro e w1 ⟨rfl, hb1⟩; have HB1 := Lib.hid (HB.out.trans (hb1.mono HB.out.size)); clear hb1) | go_in)
    go_ret
    exact ⟨by rw [HX.out]; rfl, HB1.out⟩
  rw [hv] at HVA
  rw [hv, Bool.true_and] at he
  clear hv
  by_cases ho : no ≤ 4096
  rotate_left
  · have d2 : decide ((4096 : Int) < (no : Int)) = true := decide_eq_true (by omega)
    have HX := Lib.hid (show errK k = 2 by rw [he, decide_eq_false (p := k.ops.length ≤ 4096) (by have := HNN.out; omega)]; rfl)
    clear he ho
    go_enter Tryz.func37, Tryz.ntmps37
    go_upto_region 1 with (first | go_in)
    rw [← HW.out]
    go_wp2_with (first | ((with_reducible refine HVA.out.mono ?_); rintro e w1 ⟨rfl, hb1⟩; have c1 := (HK.out.next hb1).c1; have c2 := (HK.out.next hb1).c2; have HB1 := Lib.hid (HB.out.trans (hb1.mono HB.out.size)); clear hb1) | go_in)
    go_ret
    exact ⟨by rw [HX.out]; rfl, HB1.out⟩
  have d2 : decide ((4096 : Int) < (no : Int)) = false := decide_eq_false (by omega)
  rw [decide_eq_true (p := k.ops.length ≤ 4096) (by have := HNN.out; omega), Bool.true_and] at he
  by_cases hr : nr ≤ 4096
  rotate_left
  · have d3 : decide ((4096 : Int) < (nr : Int)) = true := decide_eq_true (by omega)
    have HX := Lib.hid (show errK k = 2 by rw [he, decide_eq_false (p := k.reqs.length ≤ 4096) (by have := HNN.out; omega)]; rfl)
    clear he ho hr
    go_enter Tryz.func37, Tryz.ntmps37
    go_upto_region 1 with (first | go_in)
    rw [← HW.out]
    go_wp2_with (first | ((with_reducible refine HVA.out.mono ?_); rintro e w1 ⟨rfl, hb1⟩; have c1 := (HK.out.next hb1).c1; have c2 := (HK.out.next hb1).c2; have HB1 := Lib.hid (HB.out.trans (hb1.mono HB.out.size)); clear hb1) | go_in)
    go_ret
    exact ⟨by rw [HX.out]; rfl, HB1.out⟩
  have d3 : decide ((4096 : Int) < (nr : Int)) = false := decide_eq_false (by omega)
  rw [decide_eq_true (p := k.reqs.length ≤ 4096) (by have := HNN.out; omega), Bool.true_and] at he
  have HE := Lib.hid he
  have HOR := Lib.hid (And.intro ho hr)
  clear he ho hr
  go_enter Tryz.func37, Tryz.ntmps37
  go_upto_region 1 with (first | go_in)
  rw [← HW.out]
  clear HW
  go_upto_region 4 with (first | ((with_reducible refine HVA.out.mono ?_); rintro e w1 ⟨rfl, hb1⟩; have c1 := (HK.out.next hb1).c1; have c2 := (HK.out.next hb1).c2; have HK1 := Lib.hid (HK.out.next hb1); have HB1 := Lib.hid (HB.out.trans (hb1.mono HB.out.size)); clear hb1) | go_in)
  clear c0 c1 c2
  have c0 := HK1.out.c0
  have c1 := HK1.out.c1
  have c2 := HK1.out.c2
  go_wp2
  refine wp_code (c := partL Tryz.f37 0) (by kernel_rfl) ?_
  refine chk_l0 _ _ HK1.out (by have := HNN.out; have := HOR.out; omega) ?_ ?_
  rotate_left
  · intro hall a5 a33 a34 a35 a36 a37 a38 a39 a40 a41 a42 a43 a44 a45 a46 a47 a48 a49 a50 a51 a52 a53 a54 a55 a56 a57 a58 a59 w2 hb2
    have HX := Lib.hid (show errK k = 2 by rw [HE.out, hall]; rfl)
    clear hall
    go_wp2
    go_ret
    exact ⟨by rw [HX.out]; rfl, HB1.out.trans (hb2.mono HB1.out.size)⟩
  intro hall a5 a33 a34 a35 a36 a37 a38 a39 a40 a41 a42 a43 a44 a45 a46 a47 a48 a49 a50 a51 a52 a53 a54 a55 a56 a57 a58 a59 w2 hb2
  have he := HE.out
  rw [hall, Bool.true_and] at he
  have HE := Lib.hid he
  have HK2 := Lib.hid (HK1.out.next hb2)
  have HB2 := Lib.hid (HB1.out.trans (hb2.mono HB1.out.size))
  clear hall he hb2 c0 c1 c2
  have c0 := HK2.out.c0
  have c1 := HK2.out.c1
  have c2 := HK2.out.c2
  have hmk := make_bool nv n5
  go_upto_region 11 with (first | go_in)
  obtain ⟨W3, hW3⟩ : ∃ W, W = (w2.alloc (.cells (Array.replicate nv (Value.bool false)) 4)).alloc (.cells #[.slice (some ⟨w2.heap.size, 0, none⟩) nv nv] 38) := ⟨_, rfl⟩
  rw [← hW3]
  have hb3 : Below w2.heap.size w2 W3 := by rw [hW3]; exact ((Below.refl _ _).alloc (Nat.le_refl _) _).alloc (by simp) _
  have hrow : W3.ownsRow w2.heap.size 4 1 (.slice (some ⟨w2.heap.size, 0, none⟩) nv nv) nv ((List.replicate nv false).map Value.bool) := by rw [hW3]; exact (own_made (Nat.le_refl _) n5).alloc _
  have hbx : W3.heap[w2.heap.size + 1]? = some (.cells #[.slice (some ⟨w2.heap.size, 0, none⟩) nv nv] 38 (0, 0)) := by
    rw [hW3]
    have h := heap_alloc_new (w2.alloc (.cells (Array.replicate nv (Value.bool false)) 4)) (.cells #[.slice (some ⟨w2.heap.size, 0, none⟩) nv nv] 38)
    simpa using h
  have HM3 := Lib.hid (show MadeAt w2 W3 (w2.heap.size + 1) w2.heap.size nv (madeTo k.vars 0) from ⟨hb3, hbx, by unfold madeTo; rw [List.take_zero, List.map_nil, List.nil_append, Nat.sub_zero, ← HNN.out.1]; exact hrow, by omega, by omega⟩)
  obtain ⟨bm, hbm⟩ : ∃ b, b = w2.heap.size + 1 := ⟨_, rfl⟩
  obtain ⟨gm, hgm⟩ : ∃ b, b = w2.heap.size := ⟨_, rfl⟩
  rw [← hbm, ← hgm] at HM3
  rw [← hbm]
  clear hW3 hb3 hrow hbx hbm hgm hmk c0 c1 c2
  have c0 := (HK2.out.next HM3.out.below).c0
  go_wp2
  refine wp_code (c := partL Tryz.f37 2) (by kernel_rfl) ?_
  refine chk_l2 (w0 := w2) (gm := gm) _ _ HK2.out HM3.out hvn ?_
  intro b7 b8 b67 b68 b69 b70 b71 b72 b73 b74 b75 b76 b77 w4 hm4
  have HM4 := Lib.hid hm4
  have c1 := (HK2.out.next hm4.below).c1
  clear c0 hm4
  go_wp2
  refine wp_code (c := partL Tryz.f37 4) (by kernel_rfl) ?_
  refine chk_l4 (w0 := w2) (gm := gm) _ _ HK2.out HM4.out (by have := HNN.out; have := HOR.out; omega) HKO.out ?_ ?_
  rotate_left
  · intro hnone c9 c11 c81 c82 c83 c84 c85 c86 c87 c88 c89 c90 c91 c92 c93 c94 c95 c96 c97 c98 c99 c100 c101 c102 c103 c104 c105 c106 c107 c108 c109 c110 c111 c112 c113 c114 c115 c116 c117 c118 c119 w5 hb5
    have HX := Lib.hid (show errK k = 2 by rw [HE.out]; unfold opsK; rw [hnone]; rfl)
    clear hnone
    go_wp2
    go_ret
    exact ⟨by rw [HX.out]; rfl, HB2.out.trans (hb5.mono HB2.out.size)⟩
  intro made dd c11 c81 c82 c83 c84 c85 c86 c87 c88 c89 c90 c91 c92 c93 c94 c95 c96 c97 c98 c99 c100 c101 c102 c103 c104 c105 c106 c107 c108 c109 c110 c111 c112 c113 c114 c115 c116 c117 c118 c119 w5 hq5
  obtain ⟨hops, hm5⟩ := hq5
  have hek := HE.out
  unfold opsK at hek
  rw [hops] at hek
  have HE := Lib.hid hek
  have HM5 := Lib.hid hm5
  have g0 := hm5.cell
  clear hops hek hm5 c1
  go_wp2
  refine wp_code (c := partL Tryz.f37 7) (by kernel_rfl) ?_
  refine chk_l7 (w0 := w2) (gm := gm) (made := made) _ _ HK2.out HM5.out hvn ?_ ?_
  rotate_left
  · intro hno d12 d122 d123 d124 d125 d126 d127 d128 d129 d130 d131 d132 d133 d134 d135 w6 hb6
    have HX := Lib.hid (show errK k = 2 by rw [HE.out]; simp only [hno, Bool.false_and]; rfl)
    clear hno
    go_wp2
    go_ret
    exact ⟨by rw [HX.out]; rfl, HB2.out.trans (hb6.mono HB2.out.size)⟩
  intro hyes d12 d122 d123 d124 d125 d126 d127 d128 d129 d130 d131 d132 d133 d134 d135 w6 hm6
  have hek := HE.out
  simp only [hyes, Bool.true_and] at hek
  have HM6 := Lib.hid hm6
  clear hyes hm6 g0
  cases hd : (dd == 0)
  · have hd2 : (dd != 0) = true := by rw [bne, hd]; rfl
    have HX := Lib.hid (show errK k = 2 by rw [hek, hd]; rfl)
    clear hek hd
    go_wp2
    go_ret
    exact ⟨by rw [HX.out]; rfl, HB2.out.trans (HM6.out.below.mono HB2.out.size)⟩
  · have hd2 : (dd != 0) = false := by rw [bne, hd]; rfl
    have HX := Lib.hid (show errK k = 0 by rw [hek, hd]; rfl)
    clear hek hd
    go_wp2
    go_ret
    exact ⟨by rw [HX.out]; rfl, HB2.out.trans (HM6.out.below.mono HB2.out.size)⟩
end Go.Proofs.YtjbabpnepjhllaaGreat

/- slices.Repeat of one element, at ints. -/
namespace Go.Proofs.YtjbabpnepjhllaaGreat
open Go.RowKit

theorem cell_row {w : World} {b ty : Nat} {row : List Value} (h : w.heap[b]? = some (.cells row.toArray ty (0, 0))) {k : Nat} {v : Value} (hv : row[k]? = some v) : w.cell? ⟨b, k, none⟩ = some v := by
  simp only [World.cell?, h]
  simpa using hv
theorem frozen_row {w : World} {b ty : Nat} {row : List Value} (h : w.heap[b]? = some (.cells row.toArray ty (0, 0))) (k : Nat) : w.frozen? ⟨b, k, none⟩ = false := by simp [World.frozen?, h]
/-- copy, from rows of a block into another place of a block. -/
theorem run_copyR {w : World} (sz : Nat) (t ty e : TypeId) (hu : Tryz.prog.underlying t = some (.slice e)) (hi : (Tryz.prog.info? e).map (·.size) = some sz)
    {g g2 off off2 dLen dCap sLen sCap : Nat} (cur : Array Value) (t' : TypeId) (hg : w.heap[g]? = some (.cells cur t' (0, 0)))
    (cs : List Value) (hcs : cs.length = Nat.min sLen dLen * sz) (hsrc : ∀ j v, cs[j]? = some v → w.cell? ⟨g2, off2 + j, none⟩ = some v) (hfit : off + cs.length ≤ cur.size) (h1 : ∀ v ∈ cs, v.oneCell' = true) :
    (Builtin.copy_ #[t, t] ty #[.slice (some ⟨g, off, none⟩) dLen dCap, .slice (some ⟨g2, off2, none⟩) sLen sCap]).run Tryz.prog w = .ok (.int .i64 (Nat.min sLen dLen : Nat)) (w.setRow g (cur.toList.take off ++ cs ++ cur.toList.drop (off + cs.length)).toArray) := by
  have hl := run_loadCells_list (P := Tryz.prog) w ⟨g2, off2, none⟩ cs (fun j v hv => by rw [sep_add]; exact hsrc j v hv)
  have hst := run_storeCells_at Tryz.prog g off t' cs 0 cur w hg (by simpa using hfit) h1
  cases hq : Tryz.prog.info? e with
  | none => simp [hq] at hi
  | some i =>
    have hi' : i.size = sz := by simpa [hq] using hi
    have hl' : (loadCells ⟨g2, off2, none⟩ (Nat.min sLen dLen * sz)).run Tryz.prog w = .ok cs.toArray w := by rw [← hcs]; exact hl
    simp [Builtin.copy_, run_underlying hu, Builtin.lenOf, Builtin.firstCells, sizeOf, typeInfo, hq, hi', hl', hst, goInt]
theorem exec_copy {o : Oper} {a : Act} {w w' : World} (d s : Operand) (t : TypeId) {vd vs r : Value} (hr : (Builtin.copy_ #[t, t] o.type #[vd, vs]).run Tryz.prog w = .ok r w') (ho : o.op = .call { callee := .builtin .copy, args := #[d, s], argTypes := #[t, t] }) (hd : a.eval d = vd) (hs : a.eval s = vs) :
    (execOp a.eval o).run Tryz.prog w = .ok (.value r) w' := by
  unfold execOp
  simp only [ho, resolve, invoke, builtin, hd, hs, List.map_toArray, List.map_cons, List.map_nil, Sem.run_bind, hr, Result.andThen_ok, Sem.run_pure]
/-- So many times. -/
def repV (x : List Value) (n : Nat) : List Value := (List.replicate n x).flatten
theorem repV_len (x : List Value) (n : Nat) : (repV x n).length = n * x.length := by simp [repV]
theorem repV_add (x : List Value) (m n : Nat) : repV x (m + n) = repV x m ++ repV x n := by unfold repV; rw [← List.replicate_append_replicate, List.flatten_append]
theorem repV_take (x : List Value) {m n : Nat} (h : m ≤ n) : (repV x n).take (m * x.length) = repV x m := by
  obtain ⟨d, rfl⟩ := Nat.exists_eq_add_of_le h
  rw [repV_add, ← repV_len, List.take_left]
theorem repV_grow (x rest : List Value) (k m : Nat) (sz : Nat) (hx : x.length = sz) : (repV x k ++ rest).take (k * sz) ++ repV x m ++ (repV x k ++ rest).drop (k * sz + (repV x m).length) = repV x (k + m) ++ rest.drop (m * sz) := by
  subst hx
  rw [repV_add, repV_len, ← repV_len x k, List.take_left, List.append_assoc, List.append_assoc]
  congr 2
  rw [List.drop_append, List.drop_of_length_le (by omega)]
  simp

theorem make_Int (n : Nat) (hn : n ≤ 65536) (w : World) : ∃ zs : Array Value, zs.size = n * 1 ∧ (Instr.makeSlice 50 (.int .i64 n) (.int .i64 n)).run Tryz.prog w = .ok (.slice (some ⟨w.heap.size, 0, none⟩) n n) (w.alloc (.cells zs 3)) := by
  obtain ⟨i0, hi, hz0, hz1, hz2⟩ := info_parts infoI
  have h := run_make (P := Tryz.prog) w 50 3 i0 (.int .i64 0) Tryz.underlying50 hi hz0 .i64 .i64 n n (by omega) (by omega) (by rw [hz2]; omega) (by omega)
  rw [hz1] at h
  simp only [Int.toNat_natCast] at h
  exact ⟨_, size_madeCells _ _, h⟩

set_option maxRecDepth 100000 in
set_option maxHeartbeats 4000000 in
theorem Repeat_Int (x : List Value) (hxl : x.length = 1) (h1 : ∀ v ∈ x, v.oneCell' = true) (g0 o0 c0 n : Nat) (hn : n ≤ 65536) (w : World) (hg0 : g0 < w.heap.size) (hx : ∀ j v, x[j]? = some v → w.cell? ⟨g0, o0 + j, none⟩ = some v) :
    Calls Tryz.prog 74 #[.slice (some ⟨g0, o0, none⟩) 1 c0, .int .i64 n] w fun e w' => e = .returned (.slice (some ⟨w.heap.size, 0, none⟩) n n) ∧ w'.heap[w.heap.size]? = some (.cells (repV x n).toArray 3 (0, 0)) ∧ Below w.heap.size w w' := by
  obtain ⟨zs, hzs, hmk⟩ := make_Int n hn w
  have hone : ∀ k, ∀ v ∈ repV x k, v.oneCell' = true := fun k v hv => by
    unfold repV at hv
    rw [List.mem_flatten] at hv
    obtain ⟨l, hl, hvl⟩ := hv
    rw [(List.mem_replicate.1 hl).2] at hvl
    exact h1 v hvl
  have hmul := Tryz.bits_Mul 1 n (by omega) (by omega)
  have e1 : (1 * n / 18446744073709551616 : Nat) = 0 := Nat.div_eq_of_lt (by omega)
  have e2 : (1 * n % 18446744073709551616 : Nat) = n := by rw [Nat.mod_eq_of_lt (by omega), Nat.one_mul]
  rw [e1, e2] at hmul
  have HMUL := Lib.hid (show ∀ w, Calls Tryz.prog 106 #[.int .u64 1, .int .u64 (n : Int)] w fun e w' => e = .returned (.tuple #[.int .u64 0, .int .u64 (n : Int)]) ∧ w' = w from hmul)
  have w1 : IntKind.u64.wrap (n : Int) = n := by simp [IntKind.wrap, IntKind.bits, IntKind.signed]; omega
  have w2 : IntKind.i64.wrap (n : Int) = n := by simp [IntKind.wrap, IntKind.bits, IntKind.signed]; omega
  have d0 : decide ((n : Int) < 0) = false := decide_eq_false (by omega)
  have d1 : decide ((9223372036854775807 : Int) < (n : Int)) = false := decide_eq_false (by omega)
  obtain ⟨W, hW⟩ : ∃ W, W = w.alloc (.cells zs 3) := ⟨_, rfl⟩
  have hbW : Below w.heap.size w W := by rw [hW]; exact (Below.refl _ _).alloc (Nat.le_refl _) _
  have hg : W.heap[w.heap.size]? = some (.cells zs 3 (0, 0)) := by rw [hW]; exact heap_alloc_new w _
  obtain ⟨g, hgg⟩ : ∃ g, w.heap.size = g := ⟨_, rfl⟩
  have HG := Lib.hid hgg
  rw [hgg] at hg hmk hbW hg0
  rw [← hW] at hmk
  have HMK := Lib.hid hmk
  have HGB := Lib.hid hg
  have HBW := Lib.hid hbW
  have HX := Lib.hid hx
  have HXL := Lib.hid hxl
  have HZ := Lib.hid hzs
  have HONE := Lib.hid hone
  have HG0 := Lib.hid hg0
  clear hmul hW hmk hbW hg hzs e1 e2 hgg hx hxl hone hg0 h1
  rw [HG.out]
  go_enter Tryz.func74, Tryz.ntmps74
  go_upto_region 6 with ((with_reducible refine (HMUL.out _).mono ?_); rintro e w_ ⟨rfl, hw_⟩; obtain rfl := hw_.symm)
  have hmk := HMK.out
  go_upto_region 7 with fail
  have HM0 := Lib.hid (show Nat.min 1 n ≤ n ∧ (n = 0 ∨ 1 ≤ Nat.min 1 n) ∧ Nat.min 1 n ≤ 1 from ⟨Nat.min_le_right _ _, by by_cases h : n = 0; exact .inl h; exact .inr (Nat.le_min.2 ⟨Nat.le_refl _, by omega⟩), Nat.min_le_left _ _⟩)
  obtain ⟨m0, hm0⟩ : ∃ m, Nat.min 1 n = m := ⟨_, rfl⟩
  rw [hm0] at HM0
  have hlen0 : (repV x m0).length = m0 * 1 := by rw [repV_len, HXL.out]
  have hex : (Builtin.copy_ #[50, 50] 3 #[.slice (some ⟨g, 0, none⟩) n n, .slice (some ⟨g0, o0, none⟩) 1 c0]).run Tryz.prog W = .ok (.int .i64 (m0 : Nat)) (W.setRow g (repV x m0 ++ zs.toList.drop (m0 * 1)).toArray) := by
    have h := run_copyR (w := W) (g := g) (g2 := g0) (off := 0) (off2 := o0) (dLen := n) (dCap := n) (sLen := 1) (sCap := c0) 1 50 3 3 Tryz.underlying50 (by kernel_rfl) zs 3 HGB.out (repV x m0) (by rw [hm0, hlen0]) (fun j v hv => by
      have hj : j < (repV x m0).length := (List.getElem?_eq_some_iff.1 hv).1
      have hm1 : m0 = 1 := by have := HM0.out; rw [hlen0] at hj; by_cases h : m0 = 0; (rw [h] at hj; omega); omega
      rw [hm1] at hv
      rw [HBW.out.cell (p := ⟨g0, o0 + j, none⟩) HG0.out]
      exact HX.out j v (by simpa [repV] using hv)) (by rw [hlen0, HZ.out]; have := HM0.out.1; omega) (HONE.out m0)
    rw [hm0, hlen0] at h
    simpa using h
  obtain ⟨W1, hW1⟩ : ∃ q, q = W.setRow g (repV x m0 ++ zs.toList.drop (m0 * 1)).toArray := ⟨_, rfl⟩
  rw [← hW1] at hex
  have HS1 := Lib.hid (show W1.heap[g]? = some (.cells (repV x m0 ++ zs.toList.drop (m0 * 1)).toArray 3 (0, 0)) by rw [hW1]; exact setRow_heap _ _ _ _ _ _ HGB.out)
  have HB1 := Lib.hid (show Below g w W1 by rw [hW1]; exact HBW.out.trans ⟨rfl, rfl, rfl, by simp, fun k hk => setRow_other _ _ _ _ (fun e => by omega)⟩)
  have HL0 := Lib.hid (show (repV x m0 ++ zs.toList.drop (m0 * 1)).length = n * 1 by
    rw [List.length_append, List.length_drop, hlen0, Array.length_toList, HZ.out]
    have := HM0.out.1
    omega)
  clear hW1 hmk hm0 hlen0
  go_wp2
  clear hex d0 d1 w1 w2
  go_loopw [8] (fun i wr => ∃ (k : Nat) (rest : List Value), k ≤ n ∧ (n = 0 ∨ 1 ≤ k) ∧ i = .int .i64 k ∧ (repV x k ++ rest).length = n * 1 ∧ wr.heap[g]? = some (.cells (repV x k ++ rest).toArray 3 (0, 0)) ∧ Below g w wr) (fun i _ => n - (intOf i).toNat)
  case atStart => exact ⟨m0, _, HM0.out.1, HM0.out.2.1, rfl, HL0.out, HS1.out, HB1.out⟩
  case round =>
    obtain ⟨k, rest, hk, hk1, rfl, hlen, hblk, hbel⟩ := hrel
    have HLEN := Lib.hid hlen
    have HBLK := Lib.hid hblk
    have HBEL := Lib.hid hbel
    have HK1 := Lib.hid hk1
    clear hlen hblk hbel hk1
    by_cases hlt : k < n
    · have i0 : (0 : Int) ≤ (k : Int) := by omega
      have i1 : (k : Int) ≤ (n : Int) := by omega
      have d1 : decide (k < n) = true := decide_eq_true hlt
      obtain ⟨m, hm⟩ : ∃ m, Nat.min k (n - k) = m := ⟨_, rfl⟩
      have hmk : m ≤ k ∧ m ≤ n - k ∧ 1 ≤ m := by
        have h1 : Nat.min k (n - k) ≤ k := Nat.min_le_left k (n - k)
        have h2 : Nat.min k (n - k) ≤ n - k := Nat.min_le_right k (n - k)
        have h3 : 1 ≤ Nat.min k (n - k) := Nat.le_min.2 ⟨by have := HK1.out; omega, by omega⟩
        rw [hm] at h1 h2 h3
        exact ⟨by omega, by omega, by omega⟩
      have HM := Lib.hid hmk
      have HMM := Lib.hid hm
      have hwr : IntKind.i64.wrap ((k : Int) + (m : Int)) = (k : Int) + (m : Int) := by simp [IntKind.wrap, IntKind.bits, IntKind.signed]; omega
      have hlr : (repV x m).length = m * 1 := by rw [repV_len, HXL.out]
      have hlk : (repV x k).length = k * 1 := by rw [repV_len, HXL.out]
      have hcp := run_copyR (w := wr.drew) (g := g) (g2 := g) (off := k) (off2 := 0) (dLen := n - k) (dCap := n - k) (sLen := k) (sCap := n) 1 50 3 3 Tryz.underlying50 (by kernel_rfl) (repV x k ++ rest).toArray 3 HBLK.out (repV x m) (by rw [hm, hlr]) (fun j v hv => by
        have hj : j < (repV x m).length := (List.getElem?_eq_some_iff.1 hv).1
        have hv2 : (repV x k)[j]? = some v := by rw [← repV_take x hmk.1, List.getElem?_take] at hv; split at hv; exact hv; cases hv
        show World.cell? wr ⟨g, 0 + j, none⟩ = some v
        rw [Nat.zero_add]
        exact cell_row HBLK.out (by rw [List.getElem?_append_left (by rw [hlk]; rw [hlr] at hj; have := hmk.1; omega)]; exact hv2)) (by rw [hlr]; simp only [List.size_toArray, HLEN.out]; have := hmk.2.1; omega) (HONE.out m)
      have hgrow : ((repV x k ++ rest).toArray.toList.take (k) ++ repV x m ++ (repV x k ++ rest).toArray.toList.drop (k + (repV x m).length)) = repV x (k + m) ++ rest.drop (m * 1) := by
        have := repV_grow x rest k m 1 HXL.out
        simpa using this
      rw [hgrow, hm] at hcp
      obtain ⟨W2, hW2⟩ : ∃ q, q = wr.drew.setRow g (repV x (k + m) ++ rest.drop (m * 1)).toArray := ⟨_, rfl⟩
      rw [← hW2] at hcp
      have HCP := Lib.hid hcp
      have HS2 := Lib.hid (show W2.heap[g]? = some (.cells (repV x (k + m) ++ rest.drop (m * 1)).toArray 3 (0, 0)) by rw [hW2]; exact setRow_heap wr.drew _ _ _ _ _ HBLK.out)
      have HB2 := Lib.hid (show Below g w W2 by rw [hW2]; exact HBEL.out.drew.trans ⟨rfl, rfl, rfl, by simp, fun k hk => setRow_other _ _ _ _ (fun e => by omega)⟩)
      have HL2 := Lib.hid (show (repV x (k + m) ++ rest.drop (m * 1)).length = n * 1 by
        have := HLEN.out
        rw [List.length_append, List.length_drop, repV_len, HXL.out]
        rw [List.length_append, hlk] at this
        have := hmk.2.1
        omega)
      have hnk : (n = k) = False := by simp; omega
      clear hm hmk hcp hW2 hgrow hlr hlk
      go_upto_region 9 with fail
      (refine wp_region_lines (fun _ => True) (by kernel_rfl) (by kernel_rfl) trivial ?_)
      (try simp only [])
      repeat (first | (refine runL_no (by rfl) ?_; (try simp only [Act.put, List.setIfInBounds_toArray, List.set_cons_zero, List.set_cons_succ])) | (refine runL_val (v := ?_) (by rfl) ?_ ?_; rotate_left; (focus (intro w_ hw_; skip; go_simp; (try with_reducible rfl); done)); (try simp only [Act.put, List.setIfInBounds_toArray, List.set_cons_zero, List.set_cons_succ])) | (refine runL_op (v := .int .i64 (m : Nat)) (w1 := W2) (by rfl) (by rfl) (exec_copy _ _ 50 HCP.out rfl rfl rfl) (.inr trivial) ?_; (try simp only [Act.put, List.setIfInBounds_toArray, List.set_cons_zero, List.set_cons_succ])))
      (refine runL_nil ?_)
      clear hnk
      go_wp2
      go_roundw
      case rel => exact ⟨k + m, _, by have := HM.out; omega, by have := HM.out; omega, by go_num, HL2.out, HS2.out, HB2.out⟩
      case measure => simp [intOf]; have := HM.out; omega
    · have d1 : decide (k < n) = false := decide_eq_false hlt
      have hkn : k = n := by omega
      have HRES := Lib.hid (show wr.heap[g]? = some (.cells (repV x n).toArray 3 (0, 0)) by
        have h1 := HLEN.out
        have h2 := HBLK.out
        rw [hkn] at h1 h2
        rw [List.length_append, repV_len, HXL.out] at h1
        rw [List.eq_nil_of_length_eq_zero (by omega : rest.length = 0), List.append_nil] at h2
        exact h2)
      clear hkn
      go_wp2
      go_ret
      exact ⟨rfl, HRES.out, HBEL.out⟩
end Go.Proofs.YtjbabpnepjhllaaGreat

/- lengths.Ends. -/
namespace Go.Proofs.YtjbabpnepjhllaaGreat
open Go.RowKit

theorem kTo_len (ops : List KOp) : ∀ k, (kTo ops k).1.length = ops.length := by
  intro k
  induction k with
  | zero => simp [kTo]
  | succ k ih =>
    unfold kTo
    split
    · unfold kStep
      split
      · exact ih
      · split
        · split
          · rename_i h; simp only [List.length_set]; exact ih
          · exact ih
        · exact ih
    · exact ih
/-- What Ends keeps. -/
structure EndAt (w0 w : World) (g : Nat) (out : List Int) (st : List Nat) (vl : Value) (m : Nat) : Prop where
  below : Below w0.heap.size w0 w
  ge : w0.heap.size ≤ g
  blk : w.heap[g]? = some (.cells (intV out).toArray 3 (0, 0))
  row : w.ownsRow w0.heap.size 3 1 vl m (intV (st.reverse.map fun x : Nat => (x : Int)))
  ne : vl.ownBlock ≠ some g
theorem EndAt.len {w0 w : World} {g : Nat} {out : List Int} {st : List Nat} {vl : Value} {m : Nat} (h : EndAt w0 w g out st vl m) : st.length = m := by
  have := h.row.1
  simpa [intV] using this
theorem EndAt.next {w0 w w' : World} {g : Nat} {out : List Int} {st : List Nat} {vl : Value} {m : Nat} (h : EndAt w0 w g out st vl m) (hb : Below w.heap.size w w') : EndAt w0 w' g out st vl m :=
  ⟨h.below.trans (hb.mono h.below.size), h.ge, (hb.block g (lt_of_block h.blk)).trans h.blk, own_next h.row hb, h.ne⟩
theorem EndAt.set {w0 w : World} {g : Nat} {out : List Int} {st : List Nat} {vl : Value} {m : Nat} (h : EndAt w0 w g out st vl m) (k : Nat) (x : Int) : EndAt w0 (w.setCell ⟨g, k, none⟩ (.int .i64 x)) g (out.set k x) st vl m := by
  refine ⟨⟨h.below.os, h.below.tape, h.below.output, by simpa using h.below.size, fun j hj => (Below.heap_setCell _ _ _ j (fun e => ?_)).trans (h.below.block j hj)⟩, h.ge, ?_, ?_, h.ne⟩
  · have := h.ge; simp only at e; omega
  · simp [World.setCell, Array.getElem?_modify, h.blk, intV, List.map_set]
  · exact h.row.kept (grownBy_setCell _ _ _ _) (by
      cases hv : vl.ownBlock with
      | none => left; rfl
      | some q => right; intro e; cases e; exact h.ne hv)
theorem EndAt.cell {w0 w : World} {g : Nat} {out : List Int} {st : List Nat} {vl : Value} {m : Nat} (h : EndAt w0 w g out st vl m) {k : Nat} {x : Int} (hk : out[k]? = some x) : w.cell? ⟨g, k, none⟩ = some (.int .i64 x) :=
  cell_row h.blk (by rw [intV, List.getElem?_map, hk]; rfl)
theorem EndAt.frozen {w0 w : World} {g : Nat} {out : List Int} {st : List Nat} {vl : Value} {m : Nat} (h : EndAt w0 w g out st vl m) (k : Nat) : w.frozen? ⟨g, k, none⟩ = false := frozen_row h.blk k
set_option maxRecDepth 100000 in
set_option maxHeartbeats 8000000 in
theorem lends_any (Av Ao Ar : Option Addr) (nv cv no co nr cr : Nat) (k : Krn) (w : World) (F : Nat → Prop) (hk : KernAt w F [.slice Av nv cv, .slice Ao no co, .slice Ar nr cr] k) (hF : ∀ k, F k → k < w.heap.size) (hvn : k.vars.length ≤ 100000) (hc : checkK k = true) :
    Calls Tryz.prog 47 #[.agg #[.slice Av nv cv, .slice Ao no co, .slice Ar nr cr]] w (NumsSay (kEnds k.ops) w) := by
  obtain ⟨W, hW⟩ : ∃ W, W = w.alloc (.cells #[.slice Av nv cv, .slice Ao no co, .slice Ar nr cr] 25) := ⟨_, rfl⟩
  have hb : Below w.heap.size w W := by rw [hW]; exact (Below.refl _ _).alloc (Nat.le_refl _) _
  have hz : W.heap.size = w.heap.size + 1 := by rw [hW]; simp
  have hbox : W.heap[w.heap.size]? = some (.cells #[.slice Av nv cv, .slice Ao no co, .slice Ar nr cr] 25 (0, 0)) := by rw [hW]; exact heap_alloc_new w _
  have hk2 : KernAt W (fun k => k < W.heap.size) [.slice Av nv cv, .slice Ao no co, .slice Ar nr cr] k := (hk.keep (SameOn.of_below hb hF)).mono fun j hj => by have := hF j hj; omega
  have hkb := kbox_of hbox hk2
  have hchk := lcheck_any Av Ao Ar nv cv no co nr cr k W _ hk2 (fun k hk => hk) hvn
  rw [show errK k = 0 by unfold errK; rw [hc]; rfl] at hchk
  have HW := Lib.hid hW
  have HB := Lib.hid hb
  have HK := Lib.hid hkb
  have HCH := Lib.hid hchk
  have HNO := Lib.hid hkb.nv.2.1
  have HBAL := Lib.hid (check_bal hc)
  have n6 : no ≤ 4096 := by have := hkb.nv; have := (checkK_parts hc).2.1; omega
  have c0 := hkb.c0
  have c1 := hkb.c1
  have c2 := hkb.c2
  clear hW hb hz hbox hk2 hkb hk hF hc hchk
  obtain ⟨i0, hi, hz0, hz1, hz2⟩ := info_parts infoI
  go_enter Tryz.func47, Tryz.ntmps47
  go_upto_region 1 with (first | go_in)
  rw [← HW.out]
  clear HW
  go_upto_region 3 with (first | ((with_reducible refine HCH.out.mono ?_); rintro e w1 ⟨rfl, hb1⟩; have HK1 := Lib.hid (HK.out.next hb1); have HB1 := Lib.hid (HB.out.trans (hb1.mono HB.out.size)); clear hb1) | go_in)
  clear c0 c1 c2 HCH
  have hba : Below w1.heap.size w1 (w1.alloc (.cells #[.int .i64 (-1)] 3)) := (Below.refl _ _).alloc (Nat.le_refl _) _
  have c1 := (HK1.out.next hba).c1
  have HRP := Lib.hid (Repeat_Int [.int .i64 (-1)] rfl (by simp [Value.oneCell']) w1.heap.size 0 1 no (by omega) (w1.alloc (.cells #[.int .i64 (-1)] 3)) (by simp) (fun j v h => by
    match j, h with
    | 0, h => cases h; rw [Nat.zero_add]; exact cell_new w1 _ _ rfl
    | j + 1, h => cases h))
  have HBA := Lib.hid hba
  clear hba
  go_upto_region 4 with (first | ((with_reducible refine HRP.out.mono ?_); rintro e w2 ⟨rfl, hg2, hb2⟩; have HG2 := Lib.hid hg2; have HB2 := Lib.hid (HBA.out.trans (hb2.mono HBA.out.size)); clear hg2 hb2) | go_in)
  have hz1' : (w1.alloc (.cells #[.int .i64 (-1)] 3)).heap.size = w1.heap.size + 1 := by simp
  rw [hz1'] at HG2
  obtain ⟨g, hg⟩ : ∃ g, g = w1.heap.size + 1 := ⟨_, rfl⟩
  rw [← hg] at HG2 ⊢
  have HST := Lib.hid (show EndAt w1 w2 g (kTo k.ops 0).1 (kTo k.ops 0).2 (.slice none 0 0) 0 from ⟨HB2.out, by omega, by
    have h := HG2.out
    rw [show (intV (kTo k.ops 0).1) = repV [.int .i64 (-1)] no by unfold kTo intV repV; rw [← HNO.out]; simp]
    exact h, World.ownsRow_nil _ _ _ _, by simp [Value.ownBlock]⟩)
  have HK2 := Lib.hid (HK1.out.next HB2.out)
  clear c1 hz1' hg HG2 HRP HBA
  have c1 := HK2.out.c1
  go_wp2
  go_loopw [4, 5, 6, 7, 19] (fun s4 _ _ _ i wr => ∃ (j m : Nat) (A : Option Addr) (c : Nat), j ≤ no ∧ i = .int .i64 j ∧ s4 = .slice A m c ∧ EndAt w1 wr g (kTo k.ops j).1 (kTo k.ops j).2 (.slice A m c) m) (fun _ _ _ _ i _ => no - (intOf i).toNat)
  case atStart => exact ⟨0, 0, none, 0, by omega, rfl, rfl, HST.out⟩
  case round =>
    obtain ⟨j, m, A, c, hj, rfl, rfl, he⟩ := hrel
    have HER := Lib.hid he
    by_cases hlt : j < no
    · have d1 : decide (j < no) = true := decide_eq_true hlt
      obtain ⟨o, hx⟩ : ∃ v, k.ops[j]? = some v := ⟨_, List.getElem?_eq_getElem (by have := HNO.out; omega)⟩
      have HNX := Lib.hid (kTo_next hx)
      have hsl : m ≤ j := by
        have h1 := he.len
        have h2 : ∀ i, (kTo k.ops i).2.length ≤ i := by
          intro i
          induction i with
          | zero => simp [kTo]
          | succ i ih =>
            unfold kTo
            split
            · unfold kStep
              split
              · simp only [List.length_cons]; omega
              · split
                · split
                  · rename_i h; rw [h] at ih; simp only [List.length_cons] at ih; simp only; omega
                  · omega
                · omega
            · omega
        have := h2 j
        omega
      have HSX := Lib.hid (show o.kind = 16 → (kTo k.ops j).2 ≠ [] from HBAL.out.some_ j o hx)
      have hbx : ∀ x ∈ (kTo k.ops j).2, x < j := kS_lt k.ops j
      have HBX := Lib.hid hbx
      obtain ⟨gg, off, hA, hgg, x0, x1, x2, x3, x4, x5, x6⟩ := (HK1.out.next he.below).ops.at_ hx
      subst hA
      have i0' : (0 : Int) ≤ (j : Int) := by omega
      have i1 : (j : Int) < (no : Int) := by omega
      clear he hgg hx hbx
      go_upto_region 8 with (first | go_in)
      obtain ⟨WO, hWO⟩ : ∃ W, W = wr.alloc (.cells #[.int .i64 o.kind, .int .i64 o.d, .int .i64 o.e, .int .i64 o.a, .int .i64 o.b, .int .i64 o.c, .int .u64 o.imm] 43) := ⟨_, rfl⟩
      rw [← hWO]
      have hbo : Below wr.heap.size wr WO := by rw [hWO]; exact (Below.refl _ _).alloc (Nat.le_refl _) _
      have hob : OpBox WO wr.heap.size o := OpBox.of (t := 43) (fr := (0, 0)) (by rw [hWO]; exact heap_alloc_new wr _)
      have HEO := Lib.hid (HER.out.next hbo)
      have y0 := hob.kind
      clear hWO hbo hob x0 x1 x2 x3 x4 x5 x6
      by_cases h15 : o.kind = 15
      · have e15 : (o.kind == 15) = true := by rw [beq_iff_eq]; exact h15
        have HN := Lib.hid (show kTo k.ops (j + 1) = ((kTo k.ops j).1, j :: (kTo k.ops j).2) by rw [HNX.out]; unfold kStep; rw [if_pos h15])
        clear h15
        go_wp2_with (first
          | (at_builtin; refine wpList_append_own_at _ rfl _ _ 50 rfl w1.heap.size 3 i0 (.int .i64 0) 1 8 Tryz.underlying50 hi hz0 hz1 hz2 rfl (by decide) (.slice A m c) m _ rfl (HEO.out.row.alloc _) ⟨WO.heap.size, 0, none⟩ 1 1 [Value.int .i64 (j : Int)] rfl (by rfl) (cells_new_at WO #[Value.int .i64 (j : Int)] 3) (by simp [Value.oneCell']) (by unfold maxLen; omega) (by omega) (by have := HEO.out.below.size; simp; omega) ?_; intro v' w6 ho6 hg6 _ hw6
             have HO6 := Lib.hid ho6
             have HG6 := Lib.hid hg6
             have HW6 := Lib.hid hw6
             obtain ⟨A6, c6, rfl⟩ := own_form ho6
             clear ho6 hg6 hw6)
          | go_in)
        go_roundw
        case rel =>
          refine ⟨j + 1, m + 1, A6, c6, hlt, by go_num, rfl, ?_⟩
          rw [HN.out]
          have hlt2 := lt_of_block HEO.out.blk
          refine ⟨(HEO.out.below.alloc HEO.out.below.size _).grown HG6.out (by have := HEO.out.below.size; simp; omega) (fun q e => (own_lt HEO.out.row q e).2), HEO.out.ge, ?_, ?_, ?_⟩
          · refine (HG6.out.block g (by simp; omega) (fun e => HEO.out.ne e.symm)).trans ((Below.heap_alloc WO _ g hlt2).trans HEO.out.blk)
          · have := HO6.out
            simpa [intV] using this
          · rcases HW6.out with h | h
            · rw [h]; exact HEO.out.ne
            · rw [h]; intro e
              have e2 := Option.some.inj e
              simp at e2
              omega
        case measure => simp [intOf]; omega
      have e15 : (o.kind == 15) = false := beq_eq_false_iff_ne.2 h15
      by_cases h16 : o.kind = 16
      · have e16 : (o.kind == 16) = true := by rw [beq_iff_eq]; exact h16
        obtain ⟨q, st, hst⟩ : ∃ q st, (kTo k.ops j).2 = q :: st := by
          cases h : (kTo k.ops j).2 with
          | nil => exact absurd h (HSX.out h16)
          | cons q st => exact ⟨q, st, rfl⟩
        have hqj : q < j := HBX.out q (by rw [hst]; exact List.mem_cons_self ..)
        have HN := Lib.hid (show kTo k.ops (j + 1) = (((kTo k.ops j).1.set j (q : Int)).set q (j : Int), st) by
          rw [HNX.out]; unfold kStep; rw [if_neg h15, if_pos h16, hst]
          simp only
          rw [List.set_comm _ _ (by omega)])
        have hml : m = st.length + 1 := by rw [← HEO.out.len, hst]; rfl
        have hlo := kTo_len k.ops j
        obtain ⟨uj, huj⟩ : ∃ u, (kTo k.ops j).1[j]? = some u := ⟨_, List.getElem?_eq_getElem (by have := HNO.out; omega)⟩
        obtain ⟨uq, huq⟩ : ∃ u, ((kTo k.ops j).1.set j (q : Int))[q]? = some u := ⟨_, List.getElem?_eq_getElem (by rw [List.length_set]; have := HNO.out; omega)⟩
        have HUJ := Lib.hid huj
        have HUQ := Lib.hid huq
        have HEO := Lib.hid (hst ▸ HEO.out)
        obtain ⟨gl, cl, hA, _, _⟩ := own_some HEO.out.row (by omega)
        cases hA
        have htop : ∀ w_, EndAt w1 w_ g (kTo k.ops j).1 (q :: st) (.slice (some ⟨gl, 0, none⟩) m c) m → w_.cell? ⟨gl, st.length, none⟩ = some (.int .i64 (q : Int)) := fun w_ h => own_cell h.row (by simp [intV])
        have HTOP := Lib.hid htop
        have i2 : (0 : Int) ≤ (st.length : Int) := by omega
        have i3 : (st.length : Int) < (m : Int) := by omega
        have i4 : IntKind.i64.wrap (st.length : Int) = st.length := by rw [IntKind.wrap_i64]; omega
        have i5 : (0 : Int) ≤ (q : Int) := by omega
        have i6 : (q : Int) < (no : Int) := by omega
        have i7 : IntKind.i64.wrap (q : Int) = q := by rw [IntKind.wrap_i64]; omega
        have i8 : IntKind.i64.wrap (j : Int) = j := by rw [IntKind.wrap_i64]; omega
        have i9 : (m : Int) - 1 = (st.length : Int) := by omega
        obtain ⟨sl, hsl2⟩ : ∃ n, n = st.length := ⟨_, rfl⟩
        rw [← hsl2] at i2 i3 i4 i9 hml HTOP
        have HML := Lib.hid hml
        have HSL := Lib.hid hsl2
        clear h15 h16 hst hqj hlo huj huq htop hml hsl2
        go_upto_region 13 with (first | go_in)
        have HS1 := Lib.hid (HEO.out.set j (q : Int))
        have HS2 := Lib.hid (HS1.out.set q (j : Int))
        (refine wp_region_stages (fun k_ w_ => ((fun k => k == 6 || k == 10) k_ = true → (fun w_ => EndAt w1 w_ g (kTo k.ops j).1 (q :: st) (.slice (some ⟨gl, 0, none⟩) m c) m) w_) ∧ (fun _ => True) w_) (by kernel_rfl) (by kernel_rfl) (fun _ => ⟨fun _ => ((And.intro (HEO.out.next (Below.refl _ _).drew) trivial)).1, ((And.intro (HEO.out.next (Below.refl _ _).drew) trivial)).2⟩) ?_)
        (try simp only [])
        repeat (first | (refine runK_no (by rfl) ?_; (try simp only [Act.put, List.setIfInBounds_toArray, List.set_cons_zero, List.set_cons_succ])) | (refine runK_val (v := ?_) (by rfl) ?_ ?_; rotate_left; (focus (intro w_ hw_; obtain ⟨hE_, f2_⟩ := hw_; (try (replace hE_ := hE_ (by decide); have f1_ := HTOP.out _ hE_)); go_simp; (try with_reducible rfl); done)); (try simp only [Act.put, List.setIfInBounds_toArray, List.set_cons_zero, List.set_cons_succ])) | (refine runK_skip (w1 := WO.drew.setCell ⟨g, j, none⟩ (.int .i64 (q : Int))) (by rfl) (by rfl) (exec_store1 3 _ _ rfl g j _ rfl rfl (by kernel_rfl) (by show (World.cell? WO _).isSome = true; rw [HEO.out.cell HUJ.out]; rfl) (HEO.out.frozen j) rfl) (fun k_ hk_ => ⟨fun hc_ => (free_crit (C := (fun k => k == 6 || k == 10)) (by kernel_rfl) k_ hk_ hc_).elim, trivial⟩) ?_; (try simp only [Act.put])) | (refine runK_skip (w1 := (WO.drew.setCell ⟨g, j, none⟩ (.int .i64 (q : Int))).setCell ⟨g, q, none⟩ (.int .i64 (j : Int))) (by rfl) (by rfl) (exec_store1 3 _ _ rfl g q _ rfl rfl (by kernel_rfl) (by show (World.cell? (WO.setCell _ _) _).isSome = true; rw [HS1.out.cell HUQ.out]; rfl) (HS1.out.frozen q) rfl) (fun k_ hk_ => ⟨fun hc_ => (free_crit (C := (fun k => k == 6 || k == 10)) (by kernel_rfl) k_ hk_ hc_).elim, trivial⟩) ?_; (try simp only [Act.put])))
        (refine runK_nil ?_)
        have HS3 := Lib.hid (show EndAt w1 ((WO.drew.setCell ⟨g, j, none⟩ (.int .i64 (q : Int))).setCell ⟨g, q, none⟩ (.int .i64 (j : Int))) g (((kTo k.ops j).1.set j (q : Int)).set q (j : Int)) st (.slice (some ⟨gl, 0, none⟩) sl c) sl from by
          have h := (HEO.out.next (Below.refl _ _).drew).set j (q : Int) |>.set q (j : Int)
          refine ⟨h.below, h.ge, h.blk, ?_, h.ne⟩
          have h2 := own_cut h.row (m := sl) (by have := HML.out; omega)
          rw [HSL.out] at h2 ⊢
          simpa [intV] using h2)
        go_wp2
        go_roundw
        case rel => exact ⟨j + 1, sl, _, c, hlt, by go_num, rfl, by rw [HN.out]; exact HS3.out⟩
        case measure => simp [intOf]; omega
      · have e16 : (o.kind == 16) = false := beq_eq_false_iff_ne.2 h16
        have HN := Lib.hid (show kTo k.ops (j + 1) = kTo k.ops j by rw [HNX.out]; unfold kStep; rw [if_neg h15, if_neg h16])
        clear h15 h16
        go_wp2
        go_roundw
        case rel => exact ⟨j + 1, m, A, c, hlt, by go_num, rfl, by rw [HN.out]; exact HEO.out⟩
        case measure => simp [intOf]; omega
    · have d1 : decide (j < no) = false := decide_eq_false hlt
      have e : j = no := by omega
      subst e
      have HL := Lib.hid (show (kTo k.ops j).1 = kEnds k.ops by unfold kEnds; rw [← HNO.out])
      have hlen : (kEnds k.ops).length = j := by rw [← HL.out, kTo_len, ← HNO.out]
      have HLN := Lib.hid hlen
      clear he hlen
      go_wp2
      go_ret
      have hblk := HER.out.blk
      rw [HL.out] at hblk
      have hn := nums_blk hblk
      rw [HLN.out] at hn
      exact ⟨_, _, _, rfl, Rows.mono hn (fun q hq => by subst hq; exact lt_of_block hblk), HB1.out.trans (HER.out.below.mono HB1.out.size)⟩
end Go.Proofs.YtjbabpnepjhllaaGreat

/- slices.Contains at facts; duties.Common, Start. -/
namespace Go.Proofs.YtjbabpnepjhllaaGreat
open Go.RowKit

set_option maxRecDepth 100000 in
set_option maxHeartbeats 4000000 in
theorem Index_F (A : Option Addr) (n c : Nat) (f : Fct) (l : List Fct) (w : World) (F : Nat → Prop) (hl : FactsAt w F (.slice A n c) l) (hF : ∀ k, F k → k < w.heap.size) (hn : l.length ≤ 100000) :
    Calls Tryz.prog 83 #[.slice A n c, .agg #[.int .i64 f.kind, .int .i64 f.a, .int .i64 f.b]] w fun e w' => e = .returned (.int .i64 (firstIn (fun k => (fun x => f == x) (l.getD k ⟨0, 0, 0⟩)) l.length 0)) ∧ Below w.heap.size w w' := by
  generalize hpp : (fun k => (fun x => f == x) (l.getD k ⟨0, 0, 0⟩)) = q
  have HPP := Lib.hid hpp
  have hnl := (rows_len hl).1
  have HL := Lib.hid hl
  have HF := Lib.hid hF
  have HNL := Lib.hid hnl
  have n5 : n ≤ 100000 := by omega
  rw [← hnl]
  clear hl hF hn hnl hpp
  have hq2 := fun (x : Fct) (w : World) => eq_fact f x w
  have HEQ := Lib.hid hq2
  clear hq2
  go_enter Tryz.func83, Tryz.ntmps83
  go_upto_region 1 with (first | go_in)
  obtain ⟨W, hW⟩ : ∃ W, W = w.alloc (.cells #[.int .i64 f.kind, .int .i64 f.a, .int .i64 f.b] 45) := ⟨_, rfl⟩
  rw [← hW]
  have hb : Below w.heap.size w W := by rw [hW]; exact (Below.refl _ _).alloc (Nat.le_refl _) _
  have hz : W.heap.size = w.heap.size + 1 := by rw [hW]; simp
  have hc : ∀ (j : Nat) (v : Value), #[Value.int .i64 f.kind, .int .i64 f.a, .int .i64 f.b][j]? = some v → W.cell? ⟨w.heap.size, j, none⟩ = some v := fun j v h => by rw [hW]; exact cell_new w _ _ h
  have HB := Lib.hid hb
  have HC := Lib.hid hc
  have HZ := Lib.hid hz
  clear hW hb hz hc
  go_wp2
  go_loopw [5, 8] (fun _ i wr => ∃ k : Nat, k ≤ n ∧ i = .int .i64 k ∧ Below W.heap.size W wr ∧ Hid (firstIn q n 0 = firstIn q n k)) (fun _ i _ => n - (intOf i).toNat)
  case atStart => exact ⟨0, by omega, rfl, Below.refl _ _, Lib.hid rfl⟩
  case round =>
    obtain ⟨k, hk, rfl, hbr, HT⟩ := hrel
    have HBR := Lib.hid hbr
    by_cases hlt : k < n
    · have d1 : decide (k < n) = true := decide_eq_true hlt
      obtain ⟨x, hx⟩ : ∃ r, l[k]? = some r := ⟨_, List.getElem?_eq_getElem (by have := HNL.out; omega)⟩
      have hb2 := HB.out.trans (hbr.mono HB.out.size)
      obtain ⟨g, off, rfl, hg, c0, c1, c2⟩ := FactsAt.at_ (HL.out.keep (SameOn.of_below hb2 HF.out)) hx
      have hgw := HF.out g hg
      have HFA := Lib.hid (show ∀ w_, Below wr.heap.size wr w_ → w_.cell? ⟨w.heap.size, 0, none⟩ = some (.int .i64 f.kind) ∧ w_.cell? ⟨w.heap.size, 1, none⟩ = some (.int .i64 f.a) ∧ w_.cell? ⟨w.heap.size, 2, none⟩ = some (.int .i64 f.b) ∧ w_.cell? ⟨g, off + k * 3, none⟩ = some (.int .i64 x.kind) ∧ w_.cell? ⟨g, off + k * 3 + 1, none⟩ = some (.int .i64 x.a) ∧ w_.cell? ⟨g, off + k * 3 + 2, none⟩ = some (.int .i64 x.b) from fun w_ h => by
        have h3 := HBR.out.trans (h.mono HBR.out.size)
        have hz := HZ.out
        have hs := hb2.size
        exact ⟨(h3.cell (p := ⟨w.heap.size, 0, none⟩) (show w.heap.size < _ by omega)).trans (HC.out 0 _ rfl), (h3.cell (p := ⟨w.heap.size, 1, none⟩) (show w.heap.size < _ by omega)).trans (HC.out 1 _ rfl), (h3.cell (p := ⟨w.heap.size, 2, none⟩) (show w.heap.size < _ by omega)).trans (HC.out 2 _ rfl), (h.cell (p := ⟨g, off + k * 3, none⟩) (show g < _ by omega)).trans c0, (h.cell (p := ⟨g, off + k * 3 + 1, none⟩) (show g < _ by omega)).trans c1, (h.cell (p := ⟨g, off + k * 3 + 2, none⟩) (show g < _ by omega)).trans c2⟩)
      have i0 : (0 : Int) ≤ (k : Int) := by omega
      have i1 : (k : Int) < (n : Int) := by omega
      have i2 : IntKind.i64.wrap (k : Int) = k := by rw [IntKind.wrap_i64]; omega
      have hqk : q k = (f == x) := by rw [← HPP.out]; simp [List.getD, hx]
      have hqe := HEQ.out x
      clear hbr hb2 hg hx c0 c1 c2 hgw
      cases hv : (f == x)
      · have HN := Lib.hid (HT.out.trans (firstIn_no hlt (by rw [hqk, hv])))
        rw [hv] at hqe
        clear hqk hv
        go_upto_region 4 with (first | go_in)
        have hS := (Below.refl wr.heap.size wr).drew
        (refine wp_region_lines (Below wr.heap.size wr) (by kernel_rfl) (by kernel_rfl) (Below.refl wr.heap.size wr).drew ?_)
        (try simp only [])
        repeat (first | (refine runL_no (by rfl) ?_; (try simp only [Act.put, List.setIfInBounds_toArray, List.set_cons_zero, List.set_cons_succ])) | (refine runL_val (v := ?_) (by rfl) ?_ ?_; rotate_left; (focus (intro w_ hw_; obtain ⟨f0_, f1_, f2_, f3_, f4_, f5_⟩ := HFA.out w_ hw_; have f6_ := hqe w_; go_simp; (try with_reducible rfl); done)); (try simp only [Act.put, List.setIfInBounds_toArray, List.set_cons_zero, List.set_cons_succ])))
        (refine runL_nil ?_)
        have HS := Lib.hid (HBR.out.trans (hS.mono HBR.out.size))
        clear hS hqe
        go_wp2
        go_roundw
        case rel => exact ⟨k + 1, hlt, by go_num, HS.out, HN⟩
        case measure => simp [intOf]; omega
      · have HN := Lib.hid (HT.out.trans (firstIn_yes hlt (by rw [hqk, hv])))
        rw [hv] at hqe
        clear hqk hv
        go_upto_region 4 with (first | go_in)
        have hS := (Below.refl wr.heap.size wr).drew
        (refine wp_region_lines (Below wr.heap.size wr) (by kernel_rfl) (by kernel_rfl) (Below.refl wr.heap.size wr).drew ?_)
        (try simp only [])
        repeat (first | (refine runL_no (by rfl) ?_; (try simp only [Act.put, List.setIfInBounds_toArray, List.set_cons_zero, List.set_cons_succ])) | (refine runL_val (v := ?_) (by rfl) ?_ ?_; rotate_left; (focus (intro w_ hw_; obtain ⟨f0_, f1_, f2_, f3_, f4_, f5_⟩ := HFA.out w_ hw_; have f6_ := hqe w_; go_simp; (try with_reducible rfl); done)); (try simp only [Act.put, List.setIfInBounds_toArray, List.set_cons_zero, List.set_cons_succ])))
        (refine runL_nil ?_)
        have HS := Lib.hid (HBR.out.trans (hS.mono HBR.out.size))
        clear hS hqe
        go_wp2
        go_ret
        exact ⟨ret_int HN.out.symm, HB.out.trans (HS.out.mono HB.out.size)⟩
    · have d1 : decide (k < n) = false := decide_eq_false hlt
      have HN := Lib.hid (show firstIn q n 0 = -1 by rw [HT.out, show k = n from by omega, firstIn_end])
      clear hbr
      go_wp2
      go_ret
      exact ⟨ret_int HN.out.symm, HB.out.trans (HBR.out.mono HB.out.size)⟩
set_option maxRecDepth 100000 in
set_option maxHeartbeats 4000000 in
theorem Contains_F (A : Option Addr) (n c : Nat) (f : Fct) (l : List Fct) (w : World) (F : Nat → Prop) (hl : FactsAt w F (.slice A n c) l) (hF : ∀ k, F k → k < w.heap.size) (hn : l.length ≤ 100000) :
    Calls Tryz.prog 54 #[.slice A n c, .agg #[.int .i64 f.kind, .int .i64 f.a, .int .i64 f.b]] w fun e w' => e = .returned (.bool (l.contains f)) ∧ Below w.heap.size w w' := by
  obtain ⟨W, hW⟩ : ∃ W, W = w.alloc (.cells #[.int .i64 f.kind, .int .i64 f.a, .int .i64 f.b] 45) := ⟨_, rfl⟩
  have hb : Below w.heap.size w W := by rw [hW]; exact (Below.refl _ _).alloc (Nat.le_refl _) _
  have hc : ∀ (j : Nat) (v : Value), #[Value.int .i64 f.kind, .int .i64 f.a, .int .i64 f.b][j]? = some v → W.cell? ⟨w.heap.size, j, none⟩ = some v := fun j v h => by rw [hW]; exact cell_new w _ _ h
  have HI := Lib.hid (Index_F A n c f l W F (Rows.keep hl (SameOn.of_below hb hF)) (fun k hk => Nat.lt_of_lt_of_le (hF k hk) hb.size) hn)
  have HA := Lib.hid (show decide (0 ≤ firstIn (fun k => (fun x => f == x) (l.getD k ⟨0, 0, 0⟩)) l.length 0) = l.contains f by rw [firstIn_any (fun x => f == x) l ⟨0, 0, 0⟩, List.contains_eq_any_beq])
  have HW := Lib.hid hW
  have HB := Lib.hid hb
  have c0 := hc 0 _ rfl
  have c1 := hc 1 _ rfl
  have c2 := hc 2 _ rfl
  clear hW hb hc hl hF
  go_enter Tryz.func54, Tryz.ntmps54
  go_upto_region 1 with (first | go_in)
  rw [← HW.out]
  clear HW
  go_wp2_with (first | ((with_reducible refine HI.out.mono ?_); rintro e w1 ⟨rfl, hb1⟩; have HB1 := Lib.hid hb1; clear hb1) | go_in)
  go_ret
  exact ⟨ret_bool HA.out, HB.out.trans (HB1.out.mono HB.out.size)⟩
theorem facts_blk (w : World) (x : Fct) : FactsAt (w.alloc (.cells #[.int .i64 x.kind, .int .i64 x.a, .int .i64 x.b] 45)) (fun q => q = w.heap.size) (.slice (some ⟨w.heap.size, 0, none⟩) 1 1) [x] := by
  have h := facts_own (own_lit (l := [x]) (base := 0) (heap_alloc_new w (.cells #[.int .i64 x.kind, .int .i64 x.a, .int .i64 x.b] 45)) (Nat.zero_le _) (by simp))
  exact Rows.mono h (fun q hq => (Option.some.inj hq).symm)
theorem puts_app (l a b : List Fct) : putsF l (a ++ b) = putsF (putsF l a) b := by unfold putsF; rw [List.foldl_append]
theorem set_drop {w : World} {b n m : Nat} {l : List Fct} (h : SetAt w b n l) (hm : n ≤ m) : SetAt w b m l := by
  obtain ⟨D, ⟨es, clock, h1, h2, h3, h4⟩, h5⟩ := h
  exact ⟨D, ⟨es, clock, h1, h2, Nat.le_trans h3 hm, h4⟩, h5⟩
set_option maxRecDepth 100000 in
set_option maxHeartbeats 4000000 in
/-- Common. -/
theorem Common_any (Aa Ab : Option Addr) (na ca nb cb : Nat) (a b : List Fct) (w : World) (F : Nat → Prop) (ha : FactsAt w F (.slice Aa na ca) a) (hb : FactsAt w F (.slice Ab nb cb) b) (hF : ∀ k, F k → k < w.heap.size) (hok : ∀ f ∈ a, FctOk f) (hna : a.length ≤ 90000) (hnb : b.length ≤ 90000) :
    Calls Tryz.prog 29 #[.slice Aa na ca, .slice Ab nb cb] w (FactsSay (commonF a b) w) := by
  obtain ⟨W, hW⟩ : ∃ W, W = w.alloc (.map #[] 0) := ⟨_, rfl⟩
  have hbw : Below w.heap.size w W := by rw [hW]; exact (Below.refl _ _).alloc (Nat.le_refl _) _
  have hz : W.heap.size = w.heap.size + 1 := by rw [hW]; simp
  have hs : SetAt W w.heap.size 0 [] := by rw [hW]; exact SetAt.made w
  have HA := Lib.hid ha
  have HB := Lib.hid hb
  have HF := Lib.hid hF
  have HOK := Lib.hid hok
  have HNA := Lib.hid (rows_len ha).1
  have HW := Lib.hid hW
  have HBW := Lib.hid hbw
  have HS := Lib.hid hs
  have HZ := Lib.hid hz
  have n5 : na ≤ 90000 := by have := (rows_len ha).1; omega
  clear hW hbw hs hz ha hb hF hok
  have hmm := @run_makeMap Tryz.prog
  go_enter Tryz.func29, Tryz.ntmps29
  go_upto_region 2 with fail
  rw [← HW.out]
  clear HW hmm
  go_wp2
  go_loopw [7, 11] (fun _ i wr => ∃ k : Nat, k ≤ na ∧ i = .int .i64 k ∧ SetAt wr w.heap.size k (putsF [] ((a.take k).filter fun f => b.contains f)) ∧ Below w.heap.size w wr) (fun _ i _ => na - (intOf i).toNat)
  case atStart => exact ⟨0, by omega, rfl, HS.out, HBW.out⟩
  case round =>
    obtain ⟨k, hk, rfl, hs, hb⟩ := hrel
    have HSR := Lib.hid hs
    have HBR := Lib.hid hb
    by_cases hlt : k < na
    · have d1 : decide (k < na) = true := decide_eq_true hlt
      obtain ⟨x, hx⟩ : ∃ r, a[k]? = some r := ⟨_, List.getElem?_eq_getElem (by have := HNA.out; omega)⟩
      obtain ⟨g, off, rfl, hg, c0, c1, c2⟩ := FactsAt.at_ (HA.out.keep (SameOn.of_below hb HF.out)) hx
      have HOX := Lib.hid (HOK.out x (List.mem_of_getElem? hx))
      have HX := Lib.hid hx
      have i0 : (0 : Int) ≤ (k : Int) := by omega
      have i1 : (k : Int) < (na : Int) := by omega
      clear hs hb hg hx
      go_upto_region 5 with (first | go_in)
      obtain ⟨WX, hWX⟩ : ∃ W, W = wr.alloc (.cells #[.int .i64 x.kind, .int .i64 x.a, .int .i64 x.b] 45) := ⟨_, rfl⟩
      rw [← hWX]
      have hbx : Below wr.heap.size wr WX := by rw [hWX]; exact (Below.refl _ _).alloc (Nat.le_refl _) _
      have hcx : ∀ (j : Nat) (v : Value), #[Value.int .i64 x.kind, .int .i64 x.a, .int .i64 x.b][j]? = some v → WX.cell? ⟨wr.heap.size, j, none⟩ = some v := fun j v h => by rw [hWX]; exact cell_new wr _ _ h
      have hzx : WX.heap.size = wr.heap.size + 1 := by rw [hWX]; simp
      have HBX := Lib.hid hbx
      have HZX := Lib.hid hzx
      have c0 := hcx 0 _ rfl
      have c1 := hcx 1 _ rfl
      have c2 := hcx 2 _ rfl
      have HCX := Lib.hid hcx
      have hbb := HBR.out.trans (hbx.mono HBR.out.size)
      have HCT := Lib.hid (Contains_F Ab nb cb x b WX F (Rows.keep HB.out (SameOn.of_below hbb HF.out)) (fun k hk => Nat.lt_of_lt_of_le (HF.out k hk) hbb.size) (by omega))
      clear hWX hbx hcx hzx hbb
      have hsl : w.heap.size < wr.heap.size := HSR.out.lt
      cases hcn : b.contains x
      · rw [hcn] at HCT
        have HN := Lib.hid (show (a.take (k + 1)).filter (fun f => b.contains f) = (a.take k).filter fun f => b.contains f by rw [List.take_add_one, HX.out, List.filter_append, show (Option.toList (some x)).filter (fun f => b.contains f) = [] by simp [-List.contains_eq_mem, hcn], List.append_nil])
        clear hcn
        go_wp2_with (first | ((with_reducible refine HCT.out.mono ?_); rintro e w1 ⟨rfl, hb1⟩; have HB1 := Lib.hid hb1; clear hb1) | go_in)
        go_roundw
        case rel =>
          refine ⟨k + 1, hlt, by go_num, ?_, HBR.out.trans ((HBX.out.trans (HB1.out.mono HBX.out.size)).mono HBR.out.size)⟩
          rw [HN.out]
          exact set_drop (HSR.out.keep (((HBX.out.trans (HB1.out.mono HBX.out.size))).block _ hsl)) (by omega)
        case measure => simp [intOf]; omega
      · rw [hcn] at HCT
        have HN := Lib.hid (show (a.take (k + 1)).filter (fun f => b.contains f) = ((a.take k).filter fun f => b.contains f) ++ [x] by rw [List.take_add_one, HX.out, List.filter_append, show (Option.toList (some x)).filter (fun f => b.contains f) = [x] by simp [-List.contains_eq_mem, hcn]])
        clear hcn
        have HPT := Lib.hid (fun (w1 : World) (h1 : Below WX.heap.size WX w1) => put_any (b := w.heap.size) (N := k) (l := putsF [] ((a.take k).filter fun f => b.contains f)) (fs := [x]) (A := some ⟨w1.heap.size, 0, none⟩) (n := 1) (c := 1) (w1.alloc (.cells #[.int .i64 x.kind, .int .i64 x.a, .int .i64 x.b] 45)) (fun q => q = w1.heap.size)
          (HSR.out.keep (by
            have h2 := (HBX.out.trans (h1.mono HBX.out.size)).block _ hsl
            have h3 := h1.size
            have h4 := HBX.out.size
            rw [← h2]
            exact Below.heap_alloc w1 _ _ (by omega)))
          (facts_blk w1 x) (fun q hq => by subst hq; have h3 := h1.size; have h4 := HBX.out.size; exact ⟨by simp, by omega⟩) (fun f hf => by rw [List.mem_singleton] at hf; subst hf; exact HOX.out) (by omega))
        go_wp2_with (first
          | ((with_reducible refine HCT.out.mono ?_); rintro e w1 ⟨rfl, hb1⟩; have HB1 := Lib.hid hb1; have c0 := (hb1.cell (p := ⟨wr.heap.size, 0, none⟩) (by have := HZX.out; simp only; omega)).trans (HCX.out 0 _ rfl); have c1 := (hb1.cell (p := ⟨wr.heap.size, 1, none⟩) (by have := HZX.out; simp only; omega)).trans (HCX.out 1 _ rfl); have c2 := (hb1.cell (p := ⟨wr.heap.size, 2, none⟩) (by have := HZX.out; simp only; omega)).trans (HCX.out 2 _ rfl); clear hb1)
          | ((with_reducible refine (HPT.out w1 HB1.out).mono ?_); rintro e w2 ⟨rfl, hs2, hc2⟩; have HS2 := Lib.hid hs2; have HC2 := Lib.hid hc2; clear hs2 hc2)
          | go_in)
        go_roundw
        case rel =>
          refine ⟨k + 1, hlt, by go_num, ?_, ?_⟩
          · rw [HN.out, puts_app]; exact HS2.out
          · have h1 := HBX.out.trans (HB1.out.mono HBX.out.size)
            have h2 := HBR.out.trans (h1.mono HBR.out.size)
            have h3 := h2.alloc (o := .cells #[.int .i64 x.kind, .int .i64 x.a, .int .i64 x.b] 45) h2.size
            exact h3.trans (HC2.out.below (fun q hq e => by omega) h3.size)
        case measure => simp [intOf]; omega
    · have d1 : decide (k < na) = false := decide_eq_false hlt
      have HN := Lib.hid (show putsF [] ((a.take k).filter fun f => b.contains f) = commonF a b by rw [List.take_of_length_le (by have := HNA.out; omega)]; rfl)
      have HST := Lib.hid (sorted_any wr hs (ord_putsF List.Pairwise.nil) (by omega))
      clear hs hb
      go_wp2_with (first | ((with_reducible refine HST.out.mono ?_); rintro e w1 ⟨v1, rfl, ho1, hb1⟩; have HO1 := Lib.hid ho1; have HB1 := Lib.hid hb1; clear ho1 hb1) | go_in)
      go_ret
      rw [← HN.out]
      exact FactsSay.to (FactsSay.of ⟨v1, rfl, HO1.out, HB1.out⟩) HBR.out
end Go.Proofs.YtjbabpnepjhllaaGreat

/- duties.Start, After. -/
namespace Go.Proofs.YtjbabpnepjhllaaGreat
open Go.RowKit

/-- What is known at the start. -/
def startF (k : Krn) : List Fct := if checkK k then sortF (k.reqs.map needsF).flatten else []
def after_at (k : Krn) (at_ : Int) (l : List Fct) : List Fct := if checkK k = true ∧ 0 ≤ at_ ∧ at_ < (k.ops.length : Int) then afterF k.vars (k.ops.getD at_.toNat ⟨0, 0, 0, 0, 0, 0, 0⟩) (sortF l) else []
theorem facts_nil (w : World) (F : Nat → Prop) : FactsAt w F (.slice none 0 0) [] := ⟨none, 0, rfl, by simp, by simp, fun h => absurd rfl h⟩
set_option maxRecDepth 100000 in
set_option maxHeartbeats 8000000 in
/-- Start. -/
theorem Start_any (Av Ao Ar : Option Addr) (nv cv no co nr cr : Nat) (k : Krn) (w : World) (F : Nat → Prop) (hk : KernAt w F [.slice Av nv cv, .slice Ao no co, .slice Ar nr cr] k) (hF : ∀ k, F k → k < w.heap.size) (hvn : k.vars.length ≤ 100000) :
    Calls Tryz.prog 25 #[.agg #[.slice Av nv cv, .slice Ao no co, .slice Ar nr cr]] w (FactsSay (startF k) w) := by
  obtain ⟨W, hW⟩ : ∃ W, W = w.alloc (.cells #[.slice Av nv cv, .slice Ao no co, .slice Ar nr cr] 25) := ⟨_, rfl⟩
  have hb : Below w.heap.size w W := by rw [hW]; exact (Below.refl _ _).alloc (Nat.le_refl _) _
  have hz : W.heap.size = w.heap.size + 1 := by rw [hW]; simp
  have hbox : W.heap[w.heap.size]? = some (.cells #[.slice Av nv cv, .slice Ao no co, .slice Ar nr cr] 25 (0, 0)) := by rw [hW]; exact heap_alloc_new w _
  have hk2 : KernAt W (fun k => k < W.heap.size) [.slice Av nv cv, .slice Ao no co, .slice Ar nr cr] k := (hk.keep (SameOn.of_below hb hF)).mono fun j hj => by have := hF j hj; omega
  have hkb := kbox_of hbox hk2
  have HCH := Lib.hid (fun (w1 : World) (h1 : Below W.heap.size W w1) => lcheck_any Av Ao Ar nv cv no co nr cr k w1 _ (kern_next hk2 h1) (fun k hk => hk) hvn)
  have HW := Lib.hid hW
  have HB := Lib.hid hb
  have HK := Lib.hid hkb
  have HNR := Lib.hid hkb.nv.2.2
  have HOK := Lib.hid hk.reqs
  obtain ⟨WM, hWM⟩ : ∃ WM, WM = W.alloc (.map #[] 0) := ⟨_, rfl⟩
  have hbm : Below W.heap.size W WM := by rw [hWM]; exact (Below.refl _ _).alloc (Nat.le_refl _) _
  have hs : SetAt WM W.heap.size 0 [] := by rw [hWM]; exact SetAt.made W
  have HWM := Lib.hid hWM
  have HBM := Lib.hid hbm
  have HS := Lib.hid hs
  have c0 := (hkb.next hbm).c0
  have c1 := (hkb.next hbm).c1
  have c2 := (hkb.next hbm).c2
  have HZ := Lib.hid (show WM.heap.size = W.heap.size + 1 by rw [hWM]; simp)
  have hmm := @run_makeMap Tryz.prog
  cases hc : checkK k
  · have HX := Lib.hid (show startF k = [] by unfold startF; rw [hc]; rfl)
    have he : errK k = 2 := by unfold errK; rw [hc]; rfl
    rw [he] at HCH
    clear hW hb hz hbox hk2 hkb hk hF hWM hbm hs hc he
    go_enter Tryz.func25, Tryz.ntmps25
    go_upto_region 1 with (first | go_in)
    rw [← HW.out]
    clear HW
    go_upto_region 2 with (first | go_in)
    rw [← HWM.out]
    clear HWM
    go_wp2_with (first | ((with_reducible refine (HCH.out _ HBM.out).mono ?_); rintro e w1 ⟨rfl, hb1⟩; have HB1 := Lib.hid hb1; clear hb1) | go_in)
    go_ret
    rw [HX.out]
    exact ⟨none, 0, 0, rfl, facts_nil _ _, HB.out.trans ((HBM.out.trans (HB1.out.mono HBM.out.size)).mono HB.out.size)⟩
  have HX := Lib.hid (show startF k = putsF [] (k.reqs.map needsF).flatten by unfold startF; rw [hc]; rfl)
  have he : errK k = 0 := by unfold errK; rw [hc]; rfl
  have n5 : nr ≤ 4096 := by have := hkb.nv; have := (checkK_parts hc).2.2.1; omega
  rw [he] at HCH
  clear hW hb hz hbox hk2 hkb hk hF hWM hbm hs hc he
  go_enter Tryz.func25, Tryz.ntmps25
  go_upto_region 1 with (first | go_in)
  rw [← HW.out]
  clear HW
  go_upto_region 2 with (first | go_in)
  rw [← HWM.out]
  clear HWM
  go_upto_region 4 with (first | ((with_reducible refine (HCH.out _ HBM.out).mono ?_); rintro e w1 ⟨rfl, hb1⟩; have HB1 := Lib.hid (HBM.out.trans (hb1.mono HBM.out.size)); have HS1 := Lib.hid (HS.out.keep (hb1.block W.heap.size (by have := HZ.out; omega))); clear hb1) | go_in)
  clear c0 c1 c2
  have c2 := (HK.out.next HB1.out).c2
  have HSZ := Lib.hid (show W.heap.size < w1.heap.size from HS1.out.lt)
  go_wp2
  go_loopw [5, 13] (fun _ i wr => ∃ j N : Nat, j ≤ nr ∧ i = .int .i64 j ∧ N ≤ 3 * j ∧ SetAt wr W.heap.size N (putsF [] ((k.reqs.take j).map needsF).flatten) ∧ Below W.heap.size W wr) (fun _ i _ => nr - (intOf i).toNat)
  case atStart => exact ⟨0, 0, by omega, rfl, by omega, HS1.out, HB1.out⟩
  case round =>
    obtain ⟨j, N, hj, rfl, hN, hs, hb⟩ := hrel
    have HSR := Lib.hid hs
    have HBR := Lib.hid hb
    by_cases hlt : j < nr
    · have d1 : decide (j < nr) = true := decide_eq_true hlt
      obtain ⟨o, hx⟩ : ∃ v, k.reqs[j]? = some v := ⟨_, List.getElem?_eq_getElem (by have := HNR.out; omega)⟩
      obtain ⟨gg, off, hA, hgg, x0, x1, x2, x3, x4, x5, x6⟩ := (HK.out.next hb).reqs.at_ hx
      subst hA
      have HN := Lib.hid (show ((k.reqs.take (j + 1)).map needsF).flatten = ((k.reqs.take j).map needsF).flatten ++ needsF o by rw [List.take_add_one, hx]; simp)
      have HOX := Lib.hid (needsF_ok (HOK.out o (List.mem_of_getElem? hx)))
      have i0 : (0 : Int) ≤ (j : Int) := by omega
      have i1 : (j : Int) < (nr : Int) := by omega
      have hsl := hs.lt
      clear hs hb hgg hx
      go_upto_region 7 with (first | go_in)
      obtain ⟨WO, hWO⟩ : ∃ W, W = wr.alloc (.cells #[.int .i64 o.kind, .int .i64 o.d, .int .i64 o.e, .int .i64 o.a, .int .i64 o.b, .int .i64 o.c, .int .u64 o.imm] 43) := ⟨_, rfl⟩
      rw [← hWO]
      have hbo : Below wr.heap.size wr WO := by rw [hWO]; exact (Below.refl _ _).alloc (Nat.le_refl _) _
      have hob : OpBox WO wr.heap.size o := OpBox.of (t := 43) (fr := (0, 0)) (by rw [hWO]; exact heap_alloc_new wr _)
      have HBO := Lib.hid hbo
      have y0 := hob.kind
      have y1 := hob.d
      have y2 := hob.e
      have y3 := hob.a
      have y4 := hob.b
      have y5 := hob.c
      have y6 := hob.imm
      have HND := Lib.hid (show Calls Tryz.prog 39 #[.agg #[.int .i64 o.kind, .int .i64 o.d, .int .i64 o.e, .int .i64 o.a, .int .i64 o.b, .int .i64 o.c, .int .u64 o.imm]] WO (SortedSays WO.heap.size (needsF o) WO) from Needs_any o WO)
      have HPT := Lib.hid (fun (w2 : World) (A : Option Addr) (c : Nat) (h1 : Below WO.heap.size WO w2) (h2 : w2.ownsRow WO.heap.size 45 3 (.slice A (needsF o).length c) (needsF o).length (cellsOfF (needsF o))) => put_any (b := W.heap.size) (N := N) (l := putsF [] ((k.reqs.take j).map needsF).flatten) w2 (fun q => (Value.slice A (needsF o).length c).ownBlock = some q)
        (HSR.out.keep ((HBO.out.trans (h1.mono HBO.out.size)).block _ hsl)) (facts_own h2) (fun q hq => by have := own_lt h2 q hq; have := HBO.out.size; exact ⟨this |> fun _ => (own_lt h2 q hq).1, by have := (own_lt h2 q hq).2; omega⟩) HOX.out (by have := needsF_len o; omega))
      clear hWO hbo hob x0 x1 x2 x3 x4 x5 x6
      go_wp2_with (first
        | ((with_reducible refine HND.out.mono ?_); rintro e w2 ⟨v2, rfl, ho2, hb2⟩; obtain ⟨A2, e2, rfl⟩ := own_form ho2; have HO2 := Lib.hid ho2; have HB2 := Lib.hid hb2; clear ho2 hb2)
        | ((with_reducible refine (HPT.out w2 A2 e2 HB2.out HO2.out).mono ?_); rintro e w3 ⟨rfl, hs3, hc3⟩; have HS3 := Lib.hid hs3; have HC3 := Lib.hid hc3; clear hs3 hc3)
        | go_in)
      go_roundw
      case rel =>
        refine ⟨j + 1, N + (needsF o).length, hlt, by go_num, by have := needsF_len o; omega, by rw [HN.out, puts_app]; exact HS3.out, ?_⟩
        have h1 := HBO.out.trans (HB2.out.mono HBO.out.size)
        have h2 := HBR.out.trans (h1.mono HBR.out.size)
        exact h2.trans (HC3.out.below (fun q hq e => by omega) h2.size)
      case measure => simp [intOf]; omega
    · have d1 : decide (j < nr) = false := decide_eq_false hlt
      have HN := Lib.hid (show putsF [] ((k.reqs.take j).map needsF).flatten = startF k by rw [List.take_of_length_le (by have := HNR.out; omega), HX.out])
      have HST := Lib.hid (sorted_any wr hs (ord_putsF List.Pairwise.nil) (by omega))
      clear hs hb
      go_wp2_with (first | ((with_reducible refine HST.out.mono ?_); rintro e w2 ⟨v2, rfl, ho2, hb2⟩; have HO2 := Lib.hid ho2; have HB2 := Lib.hid hb2; clear ho2 hb2) | go_in)
      go_ret
      rw [← HN.out]
      exact FactsSay.to (FactsSay.of ⟨v2, rfl, HO2.out, HB2.out⟩) (HB.out.trans (HBR.out.mono HB.out.size))
set_option maxRecDepth 100000 in
set_option maxHeartbeats 8000000 in
/-- After. -/
theorem After_any (Av Ao Ar Al : Option Addr) (nv cv no co nr cr nl cl : Nat) (k : Krn) (at_ : Int) (l : List Fct) (w : World) (F : Nat → Prop) (hk : KernAt w F [.slice Av nv cv, .slice Ao no co, .slice Ar nr cr] k) (hF : ∀ k, F k → k < w.heap.size) (hvn : k.vars.length ≤ 100000)
    (hl : FactsAt w F (.slice Al nl cl) l) (hok : ∀ f ∈ l, FctOk f) (hn : l.length ≤ 40000) :
    Calls Tryz.prog 23 #[.agg #[.slice Av nv cv, .slice Ao no co, .slice Ar nr cr], .int .i64 at_, .slice Al nl cl] w (FactsSay (after_at k at_ l) w) := by
  obtain ⟨W, hW⟩ : ∃ W, W = w.alloc (.cells #[.slice Av nv cv, .slice Ao no co, .slice Ar nr cr] 25) := ⟨_, rfl⟩
  have hb : Below w.heap.size w W := by rw [hW]; exact (Below.refl _ _).alloc (Nat.le_refl _) _
  have hz : W.heap.size = w.heap.size + 1 := by rw [hW]; simp
  have hbox : W.heap[w.heap.size]? = some (.cells #[.slice Av nv cv, .slice Ao no co, .slice Ar nr cr] 25 (0, 0)) := by rw [hW]; exact heap_alloc_new w _
  have hk2 : KernAt W (fun k => k < W.heap.size) [.slice Av nv cv, .slice Ao no co, .slice Ar nr cr] k := (hk.keep (SameOn.of_below hb hF)).mono fun j hj => by have := hF j hj; omega
  have hkb := kbox_of hbox hk2
  have HCH := Lib.hid (fun (w1 : World) (h1 : Below W.heap.size W w1) => lcheck_any Av Ao Ar nv cv no co nr cr k w1 _ (kern_next hk2 h1) (fun k hk => hk) hvn)
  have HW := Lib.hid hW
  have HB := Lib.hid hb
  have HK := Lib.hid hkb
  have HNO := Lib.hid hkb.nv.2.1
  have c0 := hkb.c0
  have c1 := hkb.c1
  have c2 := hkb.c2
  cases hc : checkK k
  · have HX := Lib.hid (show after_at k at_ l = [] by unfold after_at; rw [if_neg (by rw [hc]; simp)])
    have he : errK k = 2 := by unfold errK; rw [hc]; rfl
    rw [he] at HCH
    clear hW hb hz hbox hk2 hkb hk hF hc he hl
    go_enter Tryz.func23, Tryz.ntmps23
    go_upto_region 1 with (first | go_in)
    rw [← HW.out]
    clear HW
    go_wp2_with (first | ((with_reducible refine (HCH.out _ (Below.refl _ _)).mono ?_); rintro e w1 ⟨rfl, hb1⟩; have c1 := (HK.out.next hb1).c1; have HB1 := Lib.hid hb1; clear hb1) | go_in)
    go_ret
    rw [HX.out]
    exact ⟨none, 0, 0, rfl, facts_nil _ _, HB.out.trans (HB1.out.mono HB.out.size)⟩
  have he : errK k = 0 := by unfold errK; rw [hc]; rfl
  rw [he] at HCH
  by_cases h0 : 0 ≤ at_
  rotate_left
  · have d0 : decide (at_ < 0) = true := decide_eq_true (by omega)
    have HX := Lib.hid (show after_at k at_ l = [] by unfold after_at; rw [if_neg (by omega)])
    clear hW hb hz hbox hk2 hkb hk hF hc he hl h0
    go_enter Tryz.func23, Tryz.ntmps23
    go_upto_region 1 with (first | go_in)
    rw [← HW.out]
    clear HW
    go_wp2_with (first | ((with_reducible refine (HCH.out _ (Below.refl _ _)).mono ?_); rintro e w1 ⟨rfl, hb1⟩; have c1 := (HK.out.next hb1).c1; have HB1 := Lib.hid hb1; clear hb1) | go_in)
    go_ret
    rw [HX.out]
    exact ⟨none, 0, 0, rfl, facts_nil _ _, HB.out.trans (HB1.out.mono HB.out.size)⟩
  have d0 : decide (at_ < 0) = false := decide_eq_false (by omega)
  obtain ⟨i, hi⟩ : ∃ i : Nat, at_ = i := ⟨at_.toNat, by omega⟩
  subst hi
  by_cases h1 : i < no
  rotate_left
  · have d1 : decide (no ≤ i) = true := decide_eq_true (by omega)
    have HX := Lib.hid (show after_at k i l = [] by unfold after_at; rw [if_neg (by have := HNO.out; omega)])
    clear hW hb hz hbox hk2 hkb hk hF hc he hl h0 h1
    go_enter Tryz.func23, Tryz.ntmps23
    go_upto_region 1 with (first | go_in)
    rw [← HW.out]
    clear HW
    go_wp2_with (first | ((with_reducible refine (HCH.out _ (Below.refl _ _)).mono ?_); rintro e w1 ⟨rfl, hb1⟩; have c1 := (HK.out.next hb1).c1; have HB1 := Lib.hid hb1; clear hb1) | go_in)
    go_ret
    rw [HX.out]
    exact ⟨none, 0, 0, rfl, facts_nil _ _, HB.out.trans (HB1.out.mono HB.out.size)⟩
  have d1 : decide (no ≤ i) = false := decide_eq_false (by omega)
  obtain ⟨o, hx⟩ : ∃ v, k.ops[i]? = some v := ⟨_, List.getElem?_eq_getElem (by have := HNO.out; omega)⟩
  have HX := Lib.hid (show after_at k i l = afterF k.vars o (sortF l) by
    unfold after_at
    rw [if_pos ⟨hc, by omega, by have := HNO.out; omega⟩, Int.toNat_natCast, List.getD_eq_getElem?_getD, hx]
    rfl)
  have hv2 : k.vars.length ≤ 256 := (varsK_len (checkK_parts hc).1).2
  have hpo := check_op hc hx
  have HL := Lib.hid (show FactsAt W (fun k => k < W.heap.size) (.slice Al nl cl) l from Rows.mono (Rows.keep hl (SameOn.of_below hb hF)) fun q hq => by have := hF q hq; omega)
  have hnl := (rows_len hl).1
  have hsl : (sortF l).length ≤ nl := by
    have h1 := ord_nodup (ord_sortF l)
    have h2 : ∀ f ∈ sortF l, f ∈ l := fun f hf => (mem_sortF.1 hf).1
    have := List.Nodup.length_le_of_subset h1 h2
    omega
  have HOF := Lib.hid (fun (w2 : World) (h2 : Below W.heap.size W w2) => of_any w2 (fun k => k < w2.heap.size) (rows_next HL.out h2) (fun k hk => hk) hok (by omega))
  have HSR := Lib.hid (fun (w3 : World) (b : Nat) (h3 : SetAt w3 b nl (sortF l)) => sorted_any w3 h3 (ord_sortF l) (by omega))
  have HAF := Lib.hid (fun (w4 : World) (A : Option Addr) (n c : Nat) (h4 : Below W.heap.size W w4) (h5 : FactsAt w4 (fun k => k < w4.heap.size) (.slice A n c) (sortF l)) => after_any w4 (fun k => k < w4.heap.size) Av A nv cv n c (.slice Ao no co) (.slice Ar nr cr) k.vars o (sortF l) (HK.out.next h4).vars h5 (fun k hk => hk) hpo (hk.ops o (List.mem_of_getElem? hx)) (fun f hf => hok f (mem_sortF.1 hf).1) (by omega) hv2)
  obtain ⟨g, off, hA, hg, x0, x1, x2, x3, x4, x5, x6⟩ := hkb.ops.at_ hx
  subst hA
  have HFA := Lib.hid (show ∀ w_, Below W.heap.size W w_ → (w_.cell? ⟨w.heap.size, 0, none⟩ = some (.slice Av nv cv) ∧ w_.cell? ⟨w.heap.size, 1, none⟩ = some (.slice (some ⟨g, off, none⟩) no co) ∧ w_.cell? ⟨w.heap.size, 2, none⟩ = some (.slice Ar nr cr)) ∧ (w_.cell? ⟨g, off + i * 7, none⟩ = some (.int .i64 o.kind) ∧ w_.cell? ⟨g, off + i * 7 + 1, none⟩ = some (.int .i64 o.d) ∧ w_.cell? ⟨g, off + i * 7 + 2, none⟩ = some (.int .i64 o.e) ∧ w_.cell? ⟨g, off + i * 7 + 3, none⟩ = some (.int .i64 o.a) ∧ w_.cell? ⟨g, off + i * 7 + 4, none⟩ = some (.int .i64 o.b) ∧ w_.cell? ⟨g, off + i * 7 + 5, none⟩ = some (.int .i64 o.c) ∧ w_.cell? ⟨g, off + i * 7 + 6, none⟩ = some (.int .u64 o.imm)) from fun w_ h =>
    ⟨⟨(HK.out.next h).c0, (HK.out.next h).c1, (HK.out.next h).c2⟩, (h.cell (p := ⟨g, off + i * 7, none⟩) hg).trans x0, (h.cell (p := ⟨g, off + i * 7 + 1, none⟩) hg).trans x1, (h.cell (p := ⟨g, off + i * 7 + 2, none⟩) hg).trans x2, (h.cell (p := ⟨g, off + i * 7 + 3, none⟩) hg).trans x3, (h.cell (p := ⟨g, off + i * 7 + 4, none⟩) hg).trans x4, (h.cell (p := ⟨g, off + i * 7 + 5, none⟩) hg).trans x5, (h.cell (p := ⟨g, off + i * 7 + 6, none⟩) hg).trans x6⟩)
  have i0 : (0 : Int) ≤ (i : Int) := by omega
  have i1 : (i : Int) < (no : Int) := by omega
  have n9 : no ≤ 4096 := by have := (checkK_parts hc).2.1; have := HNO.out; omega
  have i2 : IntKind.i64.wrap (i : Int) = i := by rw [IntKind.wrap_i64]; omega
  clear hW hb hz hbox hk2 hkb hk hF hc he hl h0 h1 hx hg x0 x1 x2 x3 x4 x5 x6 hpo hv2 hsl hnl
  go_enter Tryz.func23, Tryz.ntmps23
  go_upto_region 1 with (first | go_in)
  rw [← HW.out]
  clear HW
  go_upto_region 3 with (first | ((with_reducible refine (HCH.out _ (Below.refl _ _)).mono ?_); rintro e w1 ⟨rfl, hb1⟩; have c1 := (HK.out.next hb1).c1; have HB1 := Lib.hid hb1; clear hb1) | go_in)
  clear c0 c1 c2
  have hS := (Below.refl w1.heap.size w1).drew
  (refine wp_region_lines (Below w1.heap.size w1) (by kernel_rfl) (by kernel_rfl) (Below.refl w1.heap.size w1).drew ?_)
  (try simp only [])
  repeat (first | (refine runL_no (by rfl) ?_; (try simp only [Act.put, List.setIfInBounds_toArray, List.set_cons_zero, List.set_cons_succ])) | (refine runL_val (v := ?_) (by rfl) ?_ ?_; rotate_left; (focus (intro w_ hw_; obtain ⟨⟨f0_, f1_, f2_⟩, f3_, f4_, f5_, f6_, f7_, f8_, f9_⟩ := HFA.out w_ (HB1.out.trans (hw_.mono HB1.out.size)); go_simp; (try with_reducible rfl); done)); (try simp only [Act.put, List.setIfInBounds_toArray, List.set_cons_zero, List.set_cons_succ])) | (refine runL_call (f := ?_) (args := ?_) (w1 := ?_) (by rfl) (by rfl) ?_ ?_; rotate_left 3; (focus (go_simp; refine ⟨⟨?_, ?_⟩, ?_⟩ <;> with_reducible rfl)); (with_reducible refine (HOF.out _ (HB1.out.trans (hS.mono HB1.out.size))).mono ?_); rintro e w2 ⟨rfl, hs2, hb2⟩; have HS2 := Lib.hid (show SetAt w2 w1.heap.size nl (sortF l) from hs2); replace hS := hS.trans (hb2.mono hS.size); clear hs2 hb2; refine ⟨_, rfl, .inr hS, ?_⟩; (try simp only [Act.put, List.setIfInBounds_toArray, List.set_cons_zero, List.set_cons_succ])) | (refine runL_call (f := ?_) (args := ?_) (w1 := ?_) (by rfl) (by rfl) ?_ ?_; rotate_left 3; (focus (go_simp; refine ⟨⟨?_, ?_⟩, ?_⟩ <;> with_reducible rfl)); (with_reducible refine (HSR.out w2 _ HS2.out).mono ?_); rintro e w3 ⟨v3, rfl, ho3, hb3⟩; obtain ⟨A3, e3, rfl⟩ := own_form ho3; have HF3 := Lib.hid (show FactsAt w3 (fun k => k < w3.heap.size) (.slice A3 (sortF l).length e3) (sortF l) from Rows.mono (facts_own ho3) (fun q hq => (own_lt ho3 q hq).1)); replace hS := hS.trans (hb3.mono hS.size); clear ho3 hb3; refine ⟨_, rfl, .inr hS, ?_⟩; (try simp only [Act.put, List.setIfInBounds_toArray, List.set_cons_zero, List.set_cons_succ])) | (refine runL_call (f := ?_) (args := ?_) (w1 := ?_) (by rfl) (by rfl) ?_ ?_; rotate_left 3; (focus (go_simp; refine ⟨⟨?_, ?_⟩, ?_⟩ <;> with_reducible rfl)); (with_reducible refine (HAF.out w3 A3 _ e3 (HB1.out.trans (hS.mono HB1.out.size)) HF3.out).mono ?_); rintro e w4 ⟨A4, n4, c4, rfl, hf4, hb4⟩; have HF4 := Lib.hid hf4; replace hS := hS.trans (hb4.mono hS.size); clear hf4 hb4; refine ⟨_, rfl, .inr hS, ?_⟩; (try simp only [Act.put, List.setIfInBounds_toArray, List.set_cons_zero, List.set_cons_succ])))
  (refine runL_nil ?_)
  have HS := Lib.hid hS
  clear hS
  go_wp2
  go_ret
  rw [HX.out]
  exact ⟨A4, n4, c4, rfl, HF4.out, HB.out.trans ((HB1.out.trans (HS.out.mono HB1.out.size)).mono HB.out.size)⟩
end Go.Proofs.YtjbabpnepjhllaaGreat

/- A looker in memory; what duties.looker's functions say. -/
namespace Go.Proofs.YtjbabpnepjhllaaGreat
open Go.RowKit

/-- The blocks that are there, but one. -/
def NG (w : World) (ga : Nat) : Nat → Prop := fun q => q < w.heap.size ∧ q ≠ ga
theorem ng_chg {w w' : World} {ga sz : Nat} {v : Value} {rows : List (List Value)} (h : Rows w (NG w ga) sz v rows) (hc : Chg (fun q => q = ga) w w') : Rows w' (NG w' ga) sz v rows :=
  (Rows.keep h (hc.same fun _ hk => ⟨hk.1, hk.2⟩)).mono fun _ hk => ⟨Nat.lt_of_lt_of_le hk.1 hc.size, hk.2⟩
theorem ng_next {w w' : World} {ga sz : Nat} {v : Value} {rows : List (List Value)} (h : Rows w (NG w ga) sz v rows) (hb : Below w.heap.size w w') : Rows w' (NG w' ga) sz v rows := ng_chg h (Chg.of_below hb)
/-- A looker. -/
structure LookAt (w : World) (bx ga : Nat) (Av : Option Addr) (nv cv : Nat) (Ao : Option Addr) (no co : Nat) (vr : Value) (Ae : Option Addr) (ne ce : Nat) (k : Krn) (A : List (List Fct)) : Prop where
  box : w.heap[bx]? = some (.cells #[.slice Av nv cv, .slice Ao no co, vr, .slice Ae ne ce, .slice (some ⟨ga, 0, none⟩) no no] 81 (0, 0))
  blk : ∃ vals : List Value, vals.length = no ∧ w.heap[ga]? = some (.cells vals.toArray 39 (0, 0)) ∧ ∀ (i : Nat) (v : Value) (l : List Fct), vals[i]? = some v → A[i]? = some l → (∃ A n c, v = .slice A n c) ∧ FactsAt w (NG w ga) v l
  len : A.length = no
  hne : bx ≠ ga
  vars : KVarsAt w (NG w ga) (.slice Av nv cv) k.vars
  ops : KOpsAt w (NG w ga) (.slice Ao no co) k.ops
  ends : NumsAt w (NG w ga) (.slice Ae ne ce) (kEnds k.ops)
section
variable {w w' : World} {bx ga : Nat} {Av : Option Addr} {nv cv : Nat} {Ao : Option Addr} {no co : Nat} {vr : Value} {Ae : Option Addr} {ne ce : Nat} {k : Krn} {A : List (List Fct)}
theorem LookAt.lt (h : LookAt w bx ga Av nv cv Ao no co vr Ae ne ce k A) : bx < w.heap.size ∧ ga < w.heap.size := by
  obtain ⟨vals, _, h1, _⟩ := h.blk
  exact ⟨lt_of_block h.box, lt_of_block h1⟩
theorem LookAt.next (h : LookAt w bx ga Av nv cv Ao no co vr Ae ne ce k A) (hb : Below w.heap.size w w') : LookAt w' bx ga Av nv cv Ao no co vr Ae ne ce k A := by
  obtain ⟨vals, h1, h2, h3⟩ := h.blk
  exact ⟨(hb.block bx h.lt.1).trans h.box, ⟨vals, h1, (hb.block ga h.lt.2).trans h2, fun i v l hv hl => ⟨(h3 i v l hv hl).1, ng_next (h3 i v l hv hl).2 hb⟩⟩, h.len, h.hne, ng_next h.vars hb, ng_next h.ops hb, ng_next h.ends hb⟩
theorem LookAt.nk (h : LookAt w bx ga Av nv cv Ao no co vr Ae ne ce k A) : nv = k.vars.length ∧ no = k.ops.length ∧ ne = (kEnds k.ops).length := ⟨(rows_len h.vars).1, (rows_len h.ops).1, (rows_len h.ends).1⟩
theorem LookAt.cell (h : LookAt w bx ga Av nv cv Ao no co vr Ae ne ce k A) : w.cell? ⟨bx, 0, none⟩ = some (.slice Av nv cv) ∧ w.cell? ⟨bx, 1, none⟩ = some (.slice Ao no co) ∧ w.cell? ⟨bx, 2, none⟩ = some vr ∧ w.cell? ⟨bx, 3, none⟩ = some (.slice Ae ne ce) ∧ w.cell? ⟨bx, 4, none⟩ = some (.slice (some ⟨ga, 0, none⟩) no no) := by
  have := h.box
  refine ⟨?_, ?_, ?_, ?_, ?_⟩ <;> simp [World.cell?, this]
theorem LookAt.at_ (h : LookAt w bx ga Av nv cv Ao no co vr Ae ne ce k A) {i : Nat} (hi : i < no) : ∃ u, w.cell? ⟨ga, i, none⟩ = some u ∧ w.frozen? ⟨ga, i, none⟩ = false := by
  obtain ⟨vals, h1, h2, _⟩ := h.blk
  obtain ⟨u, hu⟩ : ∃ u, vals[i]? = some u := ⟨_, List.getElem?_eq_getElem (by omega)⟩
  exact ⟨u, by simp only [World.cell?, h2]; simpa using hu, by simp [World.frozen?, h2]⟩
/-- A row is noted. -/
theorem LookAt.set (h : LookAt w bx ga Av nv cv Ao no co vr Ae ne ce k A) {i : Nat} {Al : Option Addr} {nl cl : Nat} {l : List Fct} (hl : FactsAt w (NG w ga) (.slice Al nl cl) l) :
    LookAt (w.setCell ⟨ga, i, none⟩ (.slice Al nl cl)) bx ga Av nv cv Ao no co vr Ae ne ce k (A.set i l) ∧ Chg (fun q => q = ga) w (w.setCell ⟨ga, i, none⟩ (.slice Al nl cl)) := by
  have hc : Chg (fun q => q = ga) w (w.setCell ⟨ga, i, none⟩ (.slice Al nl cl)) := (Chg.refl (fun q => q = ga) w).setCell (p := ⟨ga, i, none⟩) (.inl rfl) _
  obtain ⟨vals, h1, h2, h3⟩ := h.blk
  refine ⟨⟨(Below.heap_setCell _ _ _ bx (fun e => h.hne e)).trans h.box, ⟨vals.set i (.slice Al nl cl), by rw [List.length_set]; exact h1, by simp [World.setCell, Array.getElem?_modify, h2], fun j v q hv hq => ?_⟩, by rw [List.length_set]; exact h.len, h.hne, ng_chg h.vars hc, ng_chg h.ops hc, ng_chg h.ends hc⟩, hc⟩
  by_cases e : i = j
  · subst e
    have hil : i < A.length := by
      have := (List.getElem?_eq_some_iff.1 hq).1
      simpa using this
    rw [List.getElem?_set_self (by rw [h1, ← h.len]; exact hil)] at hv
    rw [List.getElem?_set_self hil] at hq
    cases hv; cases hq
    exact ⟨⟨_, _, _, rfl⟩, ng_chg hl hc⟩
  · rw [List.getElem?_set_ne e] at hv hq
    exact ⟨(h3 j v q hv hq).1, ng_chg (h3 j v q hv hq).2 hc⟩
end
/-- What through and loop answer. -/
def LookSays (bx ga : Nat) (Av : Option Addr) (nv cv : Nat) (Ao : Option Addr) (no co : Nat) (vr : Value) (Ae : Option Addr) (ne ce : Nat) (k : Krn) (l : List Fct) (A : List (List Fct)) (w : World) (e : Ending) (w' : World) : Prop :=
  ∃ A2 n c, e = .returned (.slice A2 n c) ∧ FactsAt w' (NG w' ga) (.slice A2 n c) l ∧ LookAt w' bx ga Av nv cv Ao no co vr Ae ne ce k A ∧ Chg (fun q => q = ga) w w'
theorem LookSays.to {bx ga : Nat} {Av : Option Addr} {nv cv : Nat} {Ao : Option Addr} {no co : Nat} {vr : Value} {Ae : Option Addr} {ne ce : Nat} {k : Krn} {l : List Fct} {A : List (List Fct)} {w w1 : World} {e : Ending} {w' : World}
    (h : LookSays bx ga Av nv cv Ao no co vr Ae ne ce k l A w1 e w') (hc : Chg (fun q => q = ga) w w1) : LookSays bx ga Av nv cv Ao no co vr Ae ne ce k l A w e w' := by
  obtain ⟨A2, n, c, he, h1, h2, h3⟩ := h
  exact ⟨A2, n, c, he, h1, h2, hc.trans h3⟩
theorem runD_well {vs : List KVar} {ops : List KOp} (hone : ∀ (i : Nat) (o : KOp), ops[i]? = some o → o.kind ≠ 15 → oneK vs o = true) {m : Bool} {i t : Nat} {l l' : List Fct} {A A' : List (List Fct)} (h : RunD vs ops m i t l A l' A') : WellL vs.length l → WellL vs.length l' := by
  induction h with
  | done _ => exact id
  | op hi ho hk hr ih => exact fun h => ih (well_after (hone _ _ ho hk) h)
  | loop hi ho hk he hl hr ihl ihr => exact fun h => ihr (ihl h)
  | still hr hs ih => exact ih
  | more hr hs hm ih1 ih2 => exact fun h => ih2 (well_filter h _)
theorem runD_len {vs : List KVar} {ops : List KOp} {m : Bool} {i t : Nat} {l l' : List Fct} {A A' : List (List Fct)} (h : RunD vs ops m i t l A l' A') : A'.length = A.length := by
  induction h with
  | done _ => rfl
  | op hi ho hk hr ih => rw [ih, List.length_set]
  | loop hi ho hk he hl hr ihl ihr => rw [ihr, List.length_set, ihl, List.length_set]
  | still hr hs ih => exact ih
  | more hr hs hm ih1 ih2 => rw [ih2, ih1]
set_option maxRecDepth 100000 in
set_option maxHeartbeats 4000000 in
theorem loop1_any (A : Option Addr) (n c B : Nat) (f : Fct) (l : List Fct) (w : World) (F : Nat → Prop) (hc : w.cell? ⟨B, 0, none⟩ = some (.slice A n c)) (hB : B < w.heap.size) (hl : FactsAt w F (.slice A n c) l) (hF : ∀ k, F k → k < w.heap.size) (hn : l.length ≤ 100000) :
    Calls Tryz.prog 109 #[.agg #[.int .i64 f.kind, .int .i64 f.a, .int .i64 f.b], .pointer (some ⟨B, 0, none⟩)] w fun e w' => e = .returned (.bool (!knowsF l f)) ∧ Below w.heap.size w w' := by
  go_enter Tryz.func109, Tryz.ntmps109
  go_upto_region 1 with (first | go_in)
  obtain ⟨W, hW⟩ : ∃ W, W = w.alloc (.cells #[.int .i64 f.kind, .int .i64 f.a, .int .i64 f.b] 45) := ⟨_, rfl⟩
  rw [← hW]
  have hb : Below w.heap.size w W := by rw [hW]; exact (Below.refl _ _).alloc (Nat.le_refl _) _
  have hcn : ∀ (j : Nat) (v : Value), #[Value.int .i64 f.kind, .int .i64 f.a, .int .i64 f.b][j]? = some v → W.cell? ⟨w.heap.size, j, none⟩ = some v := fun j v h => by rw [hW]; exact cell_new w _ _ h
  have c0 := hcn 0 _ rfl
  have c1 := hcn 1 _ rfl
  have c2 := hcn 2 _ rfl
  have c3 := (hb.cell (p := ⟨B, 0, none⟩) hB).trans hc
  have HK := Lib.hid (Knows_any (.slice A n c) f l W F (Rows.keep hl (SameOn.of_below hb hF)) (fun k hk => Nat.lt_of_lt_of_le (hF k hk) hb.size) hn)
  have HB := Lib.hid hb
  clear hW hb hcn hc hl hF hB
  go_wp2_with (first | ((with_reducible refine HK.out.mono ?_); rintro e w1 ⟨rfl, hb1⟩; have HB1 := Lib.hid hb1; clear hb1) | go_in)
  go_ret
  exact ⟨rfl, HB.out.trans (HB1.out.mono HB.out.size)⟩
set_option maxRecDepth 100000 in
set_option maxHeartbeats 4000000 in
theorem dchk1_any (A : Option Addr) (n c B : Nat) (f : Fct) (l : List Fct) (w : World) (F : Nat → Prop) (hc : w.cell? ⟨B, 0, none⟩ = some (.slice A n c)) (hB : B < w.heap.size) (hl : FactsAt w F (.slice A n c) l) (hF : ∀ k, F k → k < w.heap.size) (hn : l.length ≤ 100000) :
    Calls Tryz.prog 40 #[.agg #[.int .i64 f.kind, .int .i64 f.a, .int .i64 f.b], .pointer (some ⟨B, 0, none⟩)] w fun e w' => e = .returned (.bool (!knowsF l f)) ∧ Below w.heap.size w w' := by
  go_enter Tryz.func40, Tryz.ntmps40
  go_upto_region 1 with (first | go_in)
  obtain ⟨W, hW⟩ : ∃ W, W = w.alloc (.cells #[.int .i64 f.kind, .int .i64 f.a, .int .i64 f.b] 45) := ⟨_, rfl⟩
  rw [← hW]
  have hb : Below w.heap.size w W := by rw [hW]; exact (Below.refl _ _).alloc (Nat.le_refl _) _
  have hcn : ∀ (j : Nat) (v : Value), #[Value.int .i64 f.kind, .int .i64 f.a, .int .i64 f.b][j]? = some v → W.cell? ⟨w.heap.size, j, none⟩ = some v := fun j v h => by rw [hW]; exact cell_new w _ _ h
  have c0 := hcn 0 _ rfl
  have c1 := hcn 1 _ rfl
  have c2 := hcn 2 _ rfl
  have c3 := (hb.cell (p := ⟨B, 0, none⟩) hB).trans hc
  have HK := Lib.hid (Knows_any (.slice A n c) f l W F (Rows.keep hl (SameOn.of_below hb hF)) (fun k hk => Nat.lt_of_lt_of_le (hF k hk) hb.size) hn)
  have HB := Lib.hid hb
  clear hW hb hcn hc hl hF hB
  go_wp2_with (first | ((with_reducible refine HK.out.mono ?_); rintro e w1 ⟨rfl, hb1⟩; have HB1 := Lib.hid hb1; clear hb1) | go_in)
  go_ret
  exact ⟨rfl, HB.out.trans (HB1.out.mono HB.out.size)⟩
set_option maxRecDepth 100000 in
set_option maxHeartbeats 4000000 in
theorem DelS_nil (g : Nat) (cb : Array Value) (w : World) (eg : ∀ args w, (callFunc g args).run Tryz.prog w = .ok (.enter g args) w) :
    Calls Tryz.prog 107 #[.slice none 0 0, .func (.func g) #[] cb] w fun e w' => e = .returned (.slice none 0 0) ∧ Below w.heap.size w w' := by
  have HIF := Lib.hid (IndexFunc_Fct (.slice none 0 0) g cb w (fun _ => False) [] (fun _ => true) (by simp) eg (facts_nil _ _) (fun k hk => hk.elim) (fun x hx => by simp at hx))
  rw [show firstIn (fun k => (fun _ : Fct => true) (([] : List Fct).getD k ⟨0, 0, 0⟩)) ([] : List Fct).length 0 = -1 from firstIn_end] at HIF
  go_enter Tryz.func107, Tryz.ntmps107
  go_wp2_with (first | ((with_reducible refine HIF.out.mono ?_); rintro e w1 ⟨rfl, hb1⟩) | go_in)
  go_ret
  exact ⟨rfl, hb1⟩
end Go.Proofs.YtjbabpnepjhllaaGreat

/- duties.looker: through and loop. -/
namespace Go.Proofs.YtjbabpnepjhllaaGreat
open Go.RowKit

/-- A kernel that may be, as the looker needs it. -/
structure KFine (k : Krn) : Prop where
  bal : KBal k.ops
  one : ∀ (i : Nat) (o : KOp), k.ops[i]? = some o → oneK k.vars o = true
  ok : ∀ o ∈ k.ops, KOpOk o
  nv : k.vars.length ≤ 190
  no : k.ops.length ≤ 4096
theorem KFine.small {k : Krn} (h : KFine k) {l : List Fct} (hw : WellL k.vars.length l) : l.length ≤ 40000 ∧ ∀ f ∈ l, FctOk f := by
  have h1 := well_len hw
  have h2 := h.nv
  have h3 : k.vars.length * k.vars.length ≤ 190 * 190 := Nat.mul_le_mul h2 h2
  exact ⟨by omega, fun f hf => well_ok (by omega) (hw.well f hf)⟩
theorem KFine.live {k : Krn} (h : KFine k) {m : Bool} {i t : Nat} {l l' : List Fct} {A A' : List (List Fct)} (hr : RunD k.vars k.ops m i t l A l' A') (hw : WellL k.vars.length l) : WellL k.vars.length l' := runD_well (fun i o ho _ => h.one i o ho) hr hw
section
variable (bx ga : Nat) (Av : Option Addr) (nv cv : Nat) (Ao : Option Addr) (no co : Nat) (vr : Value) (Ae : Option Addr) (ne ce : Nat) (k : Krn)
def ThrC (N : Nat) : Prop := ∀ (w : World) (A A' : List (List Fct)) (l l' : List Fct) (Al : Option Addr) (nl cl i t : Nat), t - i ≤ N → LookAt w bx ga Av nv cv Ao no co vr Ae ne ce k A → FactsAt w (NG w ga) (.slice Al nl cl) l → WellL k.vars.length l → LiveK k.ops i t → RunD k.vars k.ops false i t l A l' A' →
  Calls Tryz.prog 48 #[.pointer (some ⟨bx, 0, none⟩), .int .i64 (i : Nat), .int .i64 (t : Nat), .slice Al nl cl] w (LookSays bx ga Av nv cv Ao no co vr Ae ne ce k l' A' w)
def LoopC (N : Nat) : Prop := ∀ (w : World) (A A' : List (List Fct)) (l l' : List Fct) (Al : Option Addr) (nl cl i t : Nat), t - i ≤ N → i < t → (kEnds k.ops).getD i 0 = (t : Int) → LookAt w bx ga Av nv cv Ao no co vr Ae ne ce k A → FactsAt w (NG w ga) (.slice Al nl cl) l → WellL k.vars.length l → LiveK k.ops (i + 1) t → RunD k.vars k.ops true i t l A l' A' →
  Calls Tryz.prog 75 #[.pointer (some ⟨bx, 0, none⟩), .int .i64 (i : Nat), .slice Al nl cl] w (LookSays bx ga Av nv cv Ao no co vr Ae ne ce k l' A' w)
set_option maxRecDepth 100000 in
set_option maxHeartbeats 8000000 in
theorem thr_step (hk : KFine k) (N : Nat) (hL : ∀ M, M < N → LoopC bx ga Av nv cv Ao no co vr Ae ne ce k M) : ThrC bx ga Av nv cv Ao no co vr Ae ne ce k N := by
  intro w A A' l l' Al nl cl i t hN h hf hw hlv hr
  have HL := Lib.hid hL
  have HK := Lib.hid hk
  have HST := Lib.hid (And.intro h (And.intro hf (And.intro hw (And.intro hlv hr))))
  have HNK := Lib.hid h.nk
  have HTO := Lib.hid (And.intro hlv.len (And.intro hlv.le hN))
  have hit := hlv.le
  have htn : t ≤ 4096 := by have := hlv.len; have := hk.no; omega
  clear hL hk hN h hf hw hlv hr
  go_enter Tryz.func48, Tryz.ntmps48
  go_wp2
  go_loopw [3, 9] (fun s3 s9 wr => ∃ (j : Nat) (Aj : List (List Fct)) (lj : List Fct) (A3 : Option Addr) (n3 c3 : Nat), i ≤ j ∧ j ≤ t ∧ s9 = .int .i64 (j : Nat) ∧ s3 = .slice A3 n3 c3 ∧ LookAt wr bx ga Av nv cv Ao no co vr Ae ne ce k Aj ∧ FactsAt wr (NG wr ga) (.slice A3 n3 c3) lj ∧ WellL k.vars.length lj ∧ LiveK k.ops j t ∧ Hid (RunD k.vars k.ops false j t lj Aj l' A') ∧ Chg (fun q => q = ga) w wr) (fun _ s9 _ => t - (intOf s9).toNat)
  case atStart => exact ⟨i, A, l, Al, nl, cl, Nat.le_refl _, hit, rfl, rfl, HST.out.1, HST.out.2.1, HST.out.2.2.1, HST.out.2.2.2.1, Lib.hid HST.out.2.2.2.2, Chg.refl _ _⟩
  case round =>
    obtain ⟨j, Aj, lj, A3, n3, c3, hij, hjt, rfl, rfl, hla, hfl, hwl, hlv, HR, hch⟩ := hrel
    have HLA := Lib.hid hla
    have HFL := Lib.hid hfl
    have HWL := Lib.hid hwl
    have HLV := Lib.hid hlv
    have HCH := Lib.hid hch
    clear hfl hwl hlv hch HST
    by_cases hlt : j < t
    · have d1 : decide (j < t) = true := decide_eq_true hlt
      have hjn : j < no := by have := HTO.out.1; have := HNK.out.2.1; omega
      obtain ⟨o, hx⟩ : ∃ v, k.ops[j]? = some v := ⟨_, List.getElem?_eq_getElem (by have := HTO.out.1; omega)⟩
      have HX := Lib.hid hx
      obtain ⟨c0, c1, c2, c3', c4⟩ := hla.cell
      obtain ⟨u, hu, hz⟩ := hla.at_ hjn
      obtain ⟨hset, hcs⟩ := hla.set (i := j) HFL.out
      have HLS := Lib.hid hset
      have HCS := Lib.hid hcs
      have HFS := Lib.hid (show FactsAt (wr.setCell ⟨ga, j, none⟩ (.slice A3 n3 c3)) (NG (wr.setCell ⟨ga, j, none⟩ (.slice A3 n3 c3)) ga) (.slice A3 n3 c3) lj from ng_chg HFL.out hcs)
      have hno : no ≤ 4096 := by have := HK.out.no; have := HNK.out.2.1; omega
      have i0 : (0 : Int) ≤ (j : Int) := by omega
      have i1 : (j : Int) < (no : Int) := by omega
      have i2 : IntKind.i64.wrap (j : Int) = j := by rw [IntKind.wrap_i64]; omega
      clear hset hcs hx hla
      go_upto_region 5 with (first | go_in)
      obtain ⟨W, hW⟩ : ∃ W, W = wr.setCell ⟨ga, j, none⟩ (.slice A3 n3 c3) := ⟨_, rfl⟩
      rw [← hW] at HLS HCS HFS ⊢
      clear hW hu hz c0 c1 c2 c3' c4
      obtain ⟨c0, c1, c2, c3', c4⟩ := HLS.out.cell
      obtain ⟨g, off, hA, hg, x0, x1, x2, x3, x4, x5, x6⟩ := HLS.out.ops.at_ HX.out
      by_cases h15 : o.kind = 15
      rotate_left
      · have e15 : (o.kind != 15) = true := by rw [bne_iff_ne]; exact h15
        obtain ⟨h16, hlv1⟩ := HLV.out.op HK.out.bal hlt HX.out h15
        have HLV1 := Lib.hid hlv1
        have HR1 := Lib.hid (show RunD k.vars k.ops false (j + 1) t (afterF k.vars o lj) (Aj.set j lj) l' A' from by
          cases HR.out with
          | done h => omega
          | op h ho hk hr => rw [HX.out] at ho; cases ho; exact hr
          | loop h ho hk he hl hr => rw [HX.out] at ho; cases ho; exact absurd hk h15)
        have hsm := HK.out.small HWL.out
        have HAF := Lib.hid (fun (w1 : World) (h1 : Below W.heap.size W w1) => after_in w1 (NG w1 ga) Av A3 nv cv n3 c3 (.slice Ao no co) vr k.vars o lj (HLS.out.next h1).vars (ng_next HFS.out h1) (fun q hq => hq.1) (oneK_parts (HK.out.one j o HX.out)) (HK.out.ok o (List.mem_of_getElem? HX.out)) hsm.2 hsm.1 (by have := HK.out.nv; omega))
        have HFA := Lib.hid (show ∀ w_, Below W.heap.size W w_ → (w_.cell? ⟨bx, 0, none⟩ = some (.slice Av nv cv) ∧ w_.cell? ⟨bx, 1, none⟩ = some (.slice Ao no co) ∧ w_.cell? ⟨bx, 2, none⟩ = some vr) ∧ (w_.cell? ⟨g, off + j * 7, none⟩ = some (.int .i64 o.kind) ∧ w_.cell? ⟨g, off + j * 7 + 1, none⟩ = some (.int .i64 o.d) ∧ w_.cell? ⟨g, off + j * 7 + 2, none⟩ = some (.int .i64 o.e) ∧ w_.cell? ⟨g, off + j * 7 + 3, none⟩ = some (.int .i64 o.a) ∧ w_.cell? ⟨g, off + j * 7 + 4, none⟩ = some (.int .i64 o.b) ∧ w_.cell? ⟨g, off + j * 7 + 5, none⟩ = some (.int .i64 o.c) ∧ w_.cell? ⟨g, off + j * 7 + 6, none⟩ = some (.int .u64 o.imm)) from fun w_ h =>
          ⟨⟨(HLS.out.next h).cell.1, (HLS.out.next h).cell.2.1, (HLS.out.next h).cell.2.2.1⟩, (h.cell (p := ⟨g, off + j * 7, none⟩) hg.1).trans x0, (h.cell (p := ⟨g, off + j * 7 + 1, none⟩) hg.1).trans x1, (h.cell (p := ⟨g, off + j * 7 + 2, none⟩) hg.1).trans x2, (h.cell (p := ⟨g, off + j * 7 + 3, none⟩) hg.1).trans x3, (h.cell (p := ⟨g, off + j * 7 + 4, none⟩) hg.1).trans x4, (h.cell (p := ⟨g, off + j * 7 + 5, none⟩) hg.1).trans x5, (h.cell (p := ⟨g, off + j * 7 + 6, none⟩) hg.1).trans x6⟩)
        subst hA
        clear h15 h16 hlv1 hsm hg
        go_upto_region 6 with (first | go_in)
        have hS := (Below.refl W.heap.size W).drew
        (refine wp_region_lines (Below W.heap.size W) (by kernel_rfl) (by kernel_rfl) (Below.refl W.heap.size W).drew ?_)
        (try simp only [])
        repeat (first | (refine runL_no (by rfl) ?_; (try simp only [Act.put, List.setIfInBounds_toArray, List.set_cons_zero, List.set_cons_succ])) | (refine runL_val (v := ?_) (by rfl) ?_ ?_; rotate_left; (focus (intro w_ hw_; obtain ⟨⟨f0_, f1_, f2_⟩, f3_, f4_, f5_, f6_, f7_, f8_, f9_⟩ := HFA.out w_ hw_; go_simp; (try with_reducible rfl); done)); (try simp only [Act.put, List.setIfInBounds_toArray, List.set_cons_zero, List.set_cons_succ])) | (refine runL_call (f := ?_) (args := ?_) (w1 := ?_) (by rfl) (by rfl) ?_ ?_; rotate_left 3; (focus (go_simp; refine ⟨⟨?_, ?_⟩, ?_⟩ <;> with_reducible rfl)); (with_reducible refine (HAF.out _ hS).mono ?_); rintro e w4 ⟨A4, n4, c4', rfl, hf4, hb4⟩; have HF4 := Lib.hid hf4; have HS0 := Lib.hid hS; replace hS := hS.trans (hb4.mono hS.size); clear hf4 hb4; refine ⟨_, rfl, .inr hS, ?_⟩; (try simp only [Act.put, List.setIfInBounds_toArray, List.set_cons_zero, List.set_cons_succ])))
        (refine runL_nil ?_)
        have HS := Lib.hid hS
        clear hS
        go_wp2
        go_roundw
        case rel =>
          have hga := HLS.out.lt.2
          refine ⟨j + 1, Aj.set j lj, afterF k.vars o lj, A4, n4, c4', by omega, hlt, by go_num, rfl, HLS.out.next HS.out, Rows.mono HF4.out (fun q hq => ?_), well_after (HK.out.one j o HX.out) HWL.out, HLV1.out, HR1, (HCH.out.trans HCS.out).trans (Chg.of_below HS.out)⟩
          have h1 := HS0.out.size
          have h2 := HS.out.size
          rcases hq with hq | hq
          · exact ⟨by have := hq.1; have e : W.drew.heap.size = W.heap.size := rfl; omega, hq.2⟩
          · have e : W.drew.heap.size = W.heap.size := rfl
            exact ⟨hq.2, by omega⟩
        case measure => simp [intOf]; omega
      · have e15 : (o.kind != 15) = false := by rw [bne, beq_iff_eq.2 h15]; rfl
        obtain ⟨e, he, hie, het, hl1, hl2, _⟩ := HLV.out.loop HK.out.bal hlt HX.out h15
        obtain ⟨l1, A1, hr1, hr2⟩ : ∃ l1 A1, RunD k.vars k.ops true j e lj (Aj.set j lj) l1 A1 ∧ RunD k.vars k.ops false (e + 1) t l1 (A1.set e l1) l' A' := by
          cases HR.out with
          | done h => omega
          | op h ho hk hr => rw [HX.out] at ho; cases ho; exact absurd h15 hk
          | loop h ho hk he2 hl hr =>
            rw [he] at he2
            have := Int.ofNat.inj he2
            subst this
            exact ⟨_, _, hl, hr⟩
        have HLC := Lib.hid (HL.out (e - j) (by have := HTO.out; omega) W (Aj.set j lj) A1 lj l1 A3 n3 c3 j e (Nat.le_refl _) hie he HLS.out HFS.out HWL.out hl1 hr1)
        have HE := Lib.hid he
        have HR2 := Lib.hid hr2
        have HW1 := Lib.hid (HK.out.live hr1 HWL.out)
        have HL2 := Lib.hid hl2
        subst hA
        clear h15 he hl1 hl2 hr1 hr2 hg x1 x2 x3 x4 x5 x6
        go_upto_region 8 with (first | ((with_reducible refine HLC.out.mono ?_); rintro e_ w1 ⟨A4, n4, c4', rfl, hf4, hla4, hch4⟩; have HF4 := Lib.hid hf4; have HLA4 := Lib.hid hla4; have HCH4 := Lib.hid hch4; clear hf4 hla4 hch4) | go_in)
        have hen : e < no := by have := HTO.out.1; have := HNK.out.2.1; omega
        clear c0 c1 c2 c3' c4 x0
        obtain ⟨c0, c1, c2, c3', c4⟩ := HLA4.out.cell
        have hel : j < (kEnds k.ops).length := by have := kTo_len k.ops k.ops.length; unfold kEnds; have := HTO.out.1; omega
        obtain ⟨ge, oe, hAe, hge, y0⟩ := HLA4.out.ends.at_ (k := j) (x := (e : Int)) (by
          have h1 := HE.out
          rw [List.getD_eq_getElem?_getD] at h1
          rw [List.getElem?_eq_getElem hel] at h1 ⊢
          simpa using h1)
        have hne' : (j : Int) < (ne : Int) := by have := HNK.out.2.2; omega
        obtain ⟨u2, hu2, hz2⟩ := HLA4.out.at_ hen
        obtain ⟨hset2, hcs2⟩ := HLA4.out.set (i := e) HF4.out
        have HLS2 := Lib.hid hset2
        have HCS2 := Lib.hid hcs2
        have HFS2 := Lib.hid (show FactsAt (w1.setCell ⟨ga, e, none⟩ (.slice A4 n4 c4')) (NG (w1.setCell ⟨ga, e, none⟩ (.slice A4 n4 c4')) ga) (.slice A4 n4 c4') l1 from ng_chg HF4.out hcs2)
        have i3 : (0 : Int) ≤ (e : Int) := by omega
        have i4 : (e : Int) < (no : Int) := by omega
        have i5 : IntKind.i64.wrap (e : Int) = e := by rw [IntKind.wrap_i64]; omega
        subst hAe
        clear hset2 hcs2 hge hel
        go_wp2
        go_roundw
        case rel => exact ⟨e + 1, A1.set e l1, l1, A4, n4, c4', by omega, by omega, by go_num, rfl, HLS2.out, HFS2.out, HW1.out, HL2.out, HR2, ((HCH.out.trans HCS.out).trans HCH4.out).trans HCS2.out⟩
        case measure => simp [intOf]; omega
    · have d1 : decide (j < t) = false := decide_eq_false hlt
      have HE := Lib.hid (show l' = lj ∧ A' = Aj by
        cases HR.out with
        | done h => exact ⟨rfl, rfl⟩
        | op h => omega
        | loop h => omega)
      clear hla
      go_wp2
      go_ret
      rw [HE.out.1, HE.out.2]
      exact ⟨A3, n3, c3, rfl, HFL.out, HLA.out, HCH.out⟩
end
end Go.Proofs.YtjbabpnepjhllaaGreat

/- duties.looker: loop; both together. -/
namespace Go.Proofs.YtjbabpnepjhllaaGreat
open Go.RowKit

theorem runD_det {vs : List KVar} {ops : List KOp} {m : Bool} {i t : Nat} {l l1 : List Fct} {A A1 : List (List Fct)} (h : RunD vs ops m i t l A l1 A1) : ∀ l2 A2, RunD vs ops m i t l A l2 A2 → l2 = l1 ∧ A2 = A1 := by
  induction h with
  | done h =>
    intro l2 A2 h2
    cases h2 with
    | done _ => exact ⟨rfl, rfl⟩
    | op h' => omega
    | loop h' => omega
  | op h ho hk hr ih =>
    intro l2 A2 h2
    cases h2 with
    | done _ => omega
    | op h' ho' hk' hr' => rw [ho] at ho'; cases ho'; exact ih _ _ hr'
    | loop h' ho' hk' => rw [ho] at ho'; cases ho'; exact absurd hk' hk
  | loop h ho hk he hl hr ihl ihr =>
    intro l2 A2 h2
    cases h2 with
    | done _ => omega
    | op h' ho' hk' => rw [ho] at ho'; cases ho'; exact absurd hk hk'
    | loop h' ho' hk' he' hl' hr' =>
      rw [he] at he'
      have e := Int.ofNat.inj he'
      subst e
      obtain ⟨e1, e2⟩ := ihl _ _ hl'
      subst e1; subst e2
      exact ihr _ _ hr'
  | still hr hs ih =>
    intro l2 A2 h2
    cases h2 with
    | still hr' hs' => exact ih _ _ hr'
    | more hr' hs' hm' =>
      obtain ⟨e1, e2⟩ := ih _ _ hr'
      subst e1
      exact absurd hs hs'
  | more hr hs hm ih1 ih2 =>
    intro l2 A2 h2
    cases h2 with
    | still hr' hs' =>
      obtain ⟨e1, e2⟩ := ih1 _ _ hr'
      subst e1
      exact absurd hs' hs
    | more hr' hs' hm' =>
      obtain ⟨e1, e2⟩ := ih1 _ _ hr'
      subst e1; subst e2
      exact ih2 _ _ hm'
/-- DeleteFunc, of a row of facts of one's own, nil or not. -/
theorem DelAny (g : Nat) (cb : Array Value) (v : Value) (base : Nat) (l : List Fct) (p : Fct → Bool) (w : World) (eg : ∀ args w, (callFunc g args).run Tryz.prog w = .ok (.enter g args) w) (hn2 : l.length ≤ 100000) (hbase : base ≤ w.heap.size)
    (hown : w.ownsRow base 45 3 v l.length (cellsOfF l))
    (hp : ∀ x ∈ l, ∀ wr, Below base w wr → Calls Tryz.prog g (#[.agg #[.int .i64 x.kind, .int .i64 x.a, .int .i64 x.b]] ++ cb) wr fun e w' => e = .returned (.bool (p x)) ∧ Below wr.heap.size wr w') :
    Calls Tryz.prog 107 #[v, .func (.func g) #[] cb] w fun e w' => ∃ A c, e = .returned (.slice A (l.filter fun x => !p x).length c) ∧ w'.ownsRow base 45 3 (.slice A (l.filter fun x => !p x).length c) (l.filter fun x => !p x).length (cellsOfF (l.filter fun x => !p x)) ∧ Below base w w' := by
  rcases hown.2 with ⟨rfl, h0⟩ | ⟨gb, c, cur, rfl, hg, _⟩
  · have hnil := List.eq_nil_of_length_eq_zero h0
    subst hnil
    refine (DelS_nil g cb w eg).mono ?_
    rintro e w' ⟨rfl, hb⟩
    exact ⟨none, 0, rfl, World.ownsRow_nil _ _ _ _, hb.mono hbase⟩
  · refine (DelS_Fct g cb gb c l.length base l p w eg rfl hn2 hown (fun x hx wr hch => hp x hx wr (hch.below (fun k hk e => by omega) hbase))).mono ?_
    rintro e w' ⟨rfl, ho, hc⟩
    exact ⟨some ⟨gb, 0, none⟩, c, rfl, ho, hc.below (fun k hk e => by omega) hbase⟩
section
variable (bx ga : Nat) (Av : Option Addr) (nv cv : Nat) (Ao : Option Addr) (no co : Nat) (vr : Value) (Ae : Option Addr) (ne ce : Nat) (k : Krn)
theorem filter_know (l l1 : List Fct) : (l.filter fun x => !(fun f => !knowsF l1 f) x) = l.filter (knowsF l1) := by
  refine List.filter_congr fun x _ => ?_
  simp
set_option maxRecDepth 100000 in
set_option maxHeartbeats 8000000 in
theorem loop_step (hk : KFine k) (N : Nat) (hT : ∀ M, M < N → ThrC bx ga Av nv cv Ao no co vr Ae ne ce k M) : LoopC bx ga Av nv cv Ao no co vr Ae ne ce k N := by
  intro w A A' l l' Al nl cl i t hN hit hends h hf hw hlv hr
  have key : ∀ (q : Nat) (w : World) (A : List (List Fct)) (l : List Fct) (Al : Option Addr) (nl cl : Nat), l.length = q → LookAt w bx ga Av nv cv Ao no co vr Ae ne ce k A → FactsAt w (NG w ga) (.slice Al nl cl) l → WellL k.vars.length l → RunD k.vars k.ops true i t l A l' A' →
      Calls Tryz.prog 75 #[.pointer (some ⟨bx, 0, none⟩), .int .i64 (i : Nat), .slice Al nl cl] w (LookSays bx ga Av nv cv Ao no co vr Ae ne ce k l' A' w) := by
    intro q
    induction q using Nat.strongRecOn with
    | _ q ih =>
      intro w A l Al nl cl hq h hf hw hr
      obtain ⟨l1, A1, hr1⟩ : ∃ l1 A1, RunD k.vars k.ops false (i + 1) t l A l1 A1 := by
        cases hr with
        | still hr hs => exact ⟨_, _, hr⟩
        | more hr hs hm => exact ⟨_, _, hr⟩
      have htc := hT (t - (i + 1)) (by omega) w A A1 l l1 Al nl cl (i + 1) t (Nat.le_refl _) h hf hw hlv hr1
      rw [Int.natCast_succ] at htc
      have HTC := Lib.hid htc
      have HDET := Lib.hid (show (∀ l2 A2, RunD k.vars k.ops false (i + 1) t l A l2 A2 → l2 = l1 ∧ A2 = A1) ∧ True from ⟨fun l2 A2 h2 => runD_det hr1 l2 A2 h2, trivial⟩)
      have HR := Lib.hid hr
      have HIH := Lib.hid (fun (q' : Nat) (hq' : q' < l.length) => ih q' (by omega))
      have HK := Lib.hid hk
      have HW1 := Lib.hid (hk.live hr1 hw)
      have HWL := Lib.hid hw
      have HF := Lib.hid hf
      have HNL := Lib.hid (rows_len hf).1
      have hsm := hk.small hw
      have n5 : nl ≤ 40000 := by have := (rows_len hf).1; omega
      have hik : i < k.ops.length := by have := hlv.len; have := hlv.le; omega
      have hin : (i : Int) < (ne : Int) := by have := h.nk.2.2; have := kTo_len k.ops k.ops.length; unfold kEnds at *; omega
      obtain ⟨c0, c1, c2, c3, c4⟩ := h.cell
      obtain ⟨ge, oe, hAe, hge, y0⟩ := h.ends.at_ (k := i) (x := (t : Int)) (by
        have h1 := hends
        have hel : i < (kEnds k.ops).length := by have := kTo_len k.ops k.ops.length; unfold kEnds; omega
        rw [List.getD_eq_getElem?_getD] at h1
        rw [List.getElem?_eq_getElem hel] at h1 ⊢
        simpa using h1)
      subst hAe
      have hi63 : i ≤ 4096 := by have := hk.no; omega
      have i0 : (0 : Int) ≤ (i : Int) := by omega
      have i2 : IntKind.i64.wrap (i : Int) = i := by rw [IntKind.wrap_i64]; omega
      have i3 : IntKind.i64.wrap ((i : Int) + 1) = (i : Int) + 1 := by rw [IntKind.wrap_i64]; omega
      clear ih hr hr1 hf hw h hge hik hq c0 c1 c2 c4 hsm htc
      go_enter Tryz.func75, Tryz.ntmps75
      go_upto_region 2 with (first | ((with_reducible refine HTC.out.mono ?_); rintro e_ w1 ⟨Ae1, ne1, ce1, rfl, hf1, hla1, hch1⟩; have HF1 := Lib.hid hf1; have HLA1 := Lib.hid hla1; have HCH1 := Lib.hid hch1; clear hf1 hla1 hch1) | go_in)
      obtain ⟨W2, hW2⟩ : ∃ W, W = w1.alloc (.cells #[.slice Ae1 ne1 ce1] 39) := ⟨_, rfl⟩
      rw [← hW2]
      have hb2 : Below w1.heap.size w1 W2 := by rw [hW2]; exact (Below.refl _ _).alloc (Nat.le_refl _) _
      have hc2 : W2.cell? ⟨w1.heap.size, 0, none⟩ = some (.slice Ae1 ne1 ce1) := by rw [hW2]; exact cell_new w1 _ _ rfl
      have hz2 : W2.heap.size = w1.heap.size + 1 := by rw [hW2]; simp
      have HB2 := Lib.hid hb2
      have HC2 := Lib.hid hc2
      have HZ2 := Lib.hid hz2
      have HF12 := Lib.hid (show FactsAt W2 (NG W2 ga) (.slice Ae1 ne1 ce1) l1 from ng_next HF1.out hb2)
      have HF2 := Lib.hid (show FactsAt W2 (NG W2 ga) (.slice Al nl cl) l from ng_next (ng_chg HF.out HCH1.out) hb2)
      have HSM1 := Lib.hid (HK.out.small HW1.out)
      have HCL := Lib.hid (CloneF_rows (.slice Al nl cl) W2 (NG W2 ga) (l.map factRow) HF2.out (fun u hu => by
        obtain ⟨r, hr, hu2⟩ := List.mem_flatten.1 hu
        obtain ⟨x, _, rfl⟩ := List.mem_map.1 hr
        simp only [factRow, List.mem_cons, List.not_mem_nil, or_false] at hu2
        rcases hu2 with rfl | rfl | rfl <;> rfl) (by rw [List.length_map]; have := HNL.out; omega))
      obtain ⟨B, hB⟩ : ∃ b, b = w1.heap.size := ⟨_, rfl⟩
      rw [← hB] at HC2 HZ2 ⊢
      clear hW2 hb2 hc2 hz2 hB y0 c3
      have HDL := Lib.hid (fun (w3 : World) (v3 : Value) (h3 : Below W2.heap.size W2 w3) (ho : w3.ownsRow W2.heap.size 45 3 v3 l.length (cellsOfF l)) => DelAny 109 #[.pointer (some ⟨B, 0, none⟩)] v3 W2.heap.size l (fun f => !knowsF l1 f) w3 (enters_of Tryz.func109 (by kernel_rfl) rfl) (by have := HNL.out; omega) h3.size ho
        (fun x hx wr hch => loop1_any Ae1 ne1 ce1 B x l1 wr (NG W2 ga) ((World.cell?_of_block (w := w3) (a := ⟨B, 0, none⟩) (hch.block B (by have := HZ2.out; omega))).trans ((h3.cell (p := ⟨B, 0, none⟩) (show B < W2.heap.size by have := HZ2.out; omega)).trans HC2.out))
          (by have := h3.size; have := hch.size; have := HZ2.out; omega)
          (Rows.keep HF12.out (SameOn.of_below (h3.trans hch) (fun q hq => hq.1)))
          (fun q hq => by have := hq.1; have := h3.size; have := hch.size; omega) (by have := HSM1.out.1; omega)))
      rw [filter_know] at HDL
      obtain ⟨n4, hn4⟩ : ∃ n, (l.filter (knowsF l1)).length = n := ⟨_, rfl⟩
      rw [hn4] at HDL
      have HN4 := Lib.hid hn4
      clear hn4
      go_upto_region 3 with (first
        | ((with_reducible refine HCL.out.mono ?_); rintro e_ w3 ⟨v3, rfl, ho3, hb3⟩; have HO3 := Lib.hid (show w3.ownsRow W2.heap.size 45 3 v3 l.length (cellsOfF l) from by rw [List.length_map] at ho3; exact ho3); have HB3 := Lib.hid hb3; clear ho3 hb3)
        | ((with_reducible refine (HDL.out w3 v3 HB3.out HO3.out).mono ?_); rintro e_ w4 ⟨A4, c4, rfl, ho4, hb4⟩; have HO4 := Lib.hid ho4; have HB4 := Lib.hid (HB3.out.trans hb4); clear ho4 hb4)
        | go_in)
      have HC4 := Lib.hid ((HB4.out.cell (p := ⟨B, 0, none⟩) (show B < W2.heap.size by have := HZ2.out; omega)).trans HC2.out)
      have HF14 := Lib.hid (show FactsAt w4 (NG w4 ga) (.slice Ae1 ne1 ce1) l1 from ng_next HF12.out HB4.out)
      have HLA4 := Lib.hid ((HLA1.out.next HB2.out).next HB4.out)
      have HCH4 := Lib.hid ((HCH1.out.trans (Chg.of_below HB2.out)).trans (Chg.of_below HB4.out))
      have HFS4 := Lib.hid (show FactsAt w4 (NG w4 ga) (.slice A4 n4 c4) (l.filter (knowsF l1)) from by
        have ho := HO4.out
        rw [← HN4.out] at ho ⊢
        refine Rows.mono (facts_own ho) (fun q hq => ⟨(own_lt ho q hq).1, ?_⟩)
        have h1 := (own_lt ho q hq).2
        have h2 := (HLA1.out.next HB2.out).lt.2
        omega)
      by_cases hs : (l.filter (knowsF l1)).length = l.length
      · have e1 : (n4 == nl) = true := by rw [beq_iff_eq]; have := HN4.out; have := HNL.out; omega
        have HRR := Lib.hid (show l' = l1 ∧ A' = A1 by
          cases HR.out with
          | still hr hs2 => exact HDET.out.1 _ _ hr
          | more hr hs2 hm =>
            obtain ⟨e1, e2⟩ := HDET.out.1 _ _ hr
            subst e1
            exact absurd hs hs2)
        have c0 := HC4.out
        clear hs
        go_wp2
        go_ret
        rw [HRR.out.1, HRR.out.2]
        exact ⟨Ae1, ne1, ce1, rfl, HF14.out, HLA4.out, HCH4.out⟩
      · have e1 : (n4 == nl) = false := beq_eq_false_iff_ne.2 (by have := HN4.out; have := HNL.out; omega)
        have HRM := Lib.hid (show RunD k.vars k.ops true i t (l.filter (knowsF l1)) A1 l' A' by
          cases HR.out with
          | still hr hs2 =>
            obtain ⟨e1, e2⟩ := HDET.out.1 _ _ hr
            subst e1
            exact absurd hs2 hs
          | more hr hs2 hm =>
            obtain ⟨e1, e2⟩ := HDET.out.1 _ _ hr
            subst e1; subst e2
            exact hm)
        have HREC := Lib.hid (HIH.out (l.filter (knowsF l1)).length (by have := filter_lt (p := knowsF l1) hs; omega) w4 A1 (l.filter (knowsF l1)) A4 n4 c4 rfl HLA4.out HFS4.out (well_filter HWL.out _) HRM.out)
        clear hs
        go_wp2_with (first | ((with_reducible refine HREC.out.mono ?_); rintro e_ w5 h5; have H5 := Lib.hid (h5.to HCH4.out); obtain ⟨A5, n5, c5, rfl, _, _, _⟩ := h5) | go_in)
        go_ret
        exact H5.out
  exact key l.length w A l Al nl cl rfl h hf hw hr
theorem look_all (hk : KFine k) : ∀ N, ThrC bx ga Av nv cv Ao no co vr Ae ne ce k N ∧ LoopC bx ga Av nv cv Ao no co vr Ae ne ce k N := by
  intro N
  induction N using Nat.strongRecOn with
  | _ N ih => exact ⟨thr_step bx ga Av nv cv Ao no co vr Ae ne ce k hk N fun M hM => (ih M hM).2, loop_step bx ga Av nv cv Ao no co vr Ae ne ce k hk N fun M hM => (ih M hM).1⟩
end
end Go.Proofs.YtjbabpnepjhllaaGreat
