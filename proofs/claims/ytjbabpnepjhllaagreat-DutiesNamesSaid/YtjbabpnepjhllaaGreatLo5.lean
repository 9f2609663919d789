/- keysmithkit.Same, of facts. -/
import Derived.Test.YtjbabpnepjhllaaGreatLo4
import Derived.Test.YtjbabpnepjhllaaGreatLenB
import Derived.Test.YtjbabpnepjhllaaGreatLenE
import Derived.Test.YtjbabpnepjhllaaGreatLo1
import Derived.Test.YtjbabpnepjhllaaGreatLo3
import Derived.Test.YtjbabpnepjhllaaGreatSepOps
import Derived.Deep.DeepCutAuto
namespace Go.Proofs.YtjbabpnepjhllaaGreat
open Go.RowKit

theorem same_no {a b : List Fct} {i : Nat} {x y : Fct} (hx : a[i]? = some x) (hy : b[i]? = some y) (h : x ≠ y) : (a == b) = false := beq_eq_false_iff_ne.2 fun e => by
  subst e
  rw [hx] at hy
  cases hy
  exact h rfl
set_option maxRecDepth 100000 in
set_option maxHeartbeats 8000000 in
theorem SameF_any (Aa Ab : Option Addr) (na ca nb cb : Nat) (a b : List Fct) (w : World) (ha : FactsAt w (fun q => q < w.heap.size) (.slice Aa na ca) a) (hb : FactsAt w (fun q => q < w.heap.size) (.slice Ab nb cb) b) (hn : a.length ≤ 1000000) :
    Calls Tryz.prog 22 #[.slice Aa na ca, .slice Ab nb cb] w fun e w' => e = .returned (.bool (a == b)) ∧ Below w.heap.size w w' := by
  have hna := (rows_len ha).1
  have hnb := (rows_len hb).1
  have n5 : na ≤ 1000000 := by omega
  cases hl : (na != nb)
  rotate_left
  · have HX := Lib.hid (show (a == b) = false from beq_eq_false_iff_ne.2 fun e => by
      subst e
      rw [← hna] at hnb
      simp [hnb] at hl)
    have h1 : ((na : Int) != (nb : Int)) = true := by
      rw [bne_iff_ne] at hl ⊢
      omega
    clear hna hnb ha hb hl
    go_enter Tryz.func22, Tryz.ntmps22
    go_wp2
    go_ret
    exact ⟨ret_bool HX.out.symm, Below.refl _ _⟩
  have hab : na = nb := by simpa using hl
  have h1 : ((na : Int) != (nb : Int)) = false := by rw [hab]; simp
  have HA := Lib.hid ha
  have HBF := Lib.hid hb
  have HN := Lib.hid (And.intro hna (And.intro hnb hab))
  clear hna hnb ha hb hl hab
  go_enter Tryz.func22, Tryz.ntmps22
  go_wp2
  go_loopw [4, 5] (fun _ s5 wr => ∃ j : Nat, j ≤ na ∧ s5 = .int .i64 (j : Nat) ∧ (∀ i, i < j → a[i]? = b[i]?) ∧ Below w.heap.size w wr) (fun _ s5 _ => na - (intOf s5).toNat)
  case atStart => exact ⟨0, Nat.zero_le _, rfl, fun i hi => absurd hi (by omega), Below.refl _ _⟩
  case round =>
    obtain ⟨j, hj, rfl, hms, hbr⟩ := hrel
    have HMS := Lib.hid hms
    have HBR := Lib.hid hbr
    by_cases hlt : j < na
    · have d1 : decide (j < na) = true := decide_eq_true hlt
      obtain ⟨x, hx⟩ : ∃ v, a[j]? = some v := ⟨_, List.getElem?_eq_getElem (by have := HN.out; omega)⟩
      obtain ⟨y, hy⟩ : ∃ v, b[j]? = some v := ⟨_, List.getElem?_eq_getElem (by have := HN.out; omega)⟩
      obtain ⟨g, off, hA, hg, x0, x1, x2⟩ := FactsAt.at_ (rows_next HA.out hbr) hx
      obtain ⟨g', off', hB, hg', y0, y1, y2⟩ := FactsAt.at_ (rows_next HBF.out hbr) hy
      have HFC := Lib.hid (show ∀ w_, Below wr.heap.size wr w_ → (w_.cell? ⟨g, off + j * 3, none⟩ = some (.int .i64 x.kind) ∧ w_.cell? ⟨g, off + j * 3 + 1, none⟩ = some (.int .i64 x.a) ∧ w_.cell? ⟨g, off + j * 3 + 2, none⟩ = some (.int .i64 x.b)) ∧ w_.cell? ⟨g', off' + j * 3, none⟩ = some (.int .i64 y.kind) ∧ w_.cell? ⟨g', off' + j * 3 + 1, none⟩ = some (.int .i64 y.a) ∧ w_.cell? ⟨g', off' + j * 3 + 2, none⟩ = some (.int .i64 y.b) from fun w_ h =>
        ⟨⟨(h.cell (p := ⟨g, off + j * 3, none⟩) hg).trans x0, (h.cell (p := ⟨g, off + j * 3 + 1, none⟩) hg).trans x1, (h.cell (p := ⟨g, off + j * 3 + 2, none⟩) hg).trans x2⟩, (h.cell (p := ⟨g', off' + j * 3, none⟩) hg').trans y0, (h.cell (p := ⟨g', off' + j * 3 + 1, none⟩) hg').trans y1, (h.cell (p := ⟨g', off' + j * 3 + 2, none⟩) hg').trans y2⟩)
      have i0 : (0 : Int) ≤ (j : Int) := by omega
      have i1 : (j : Int) < (na : Int) := by omega
      have i3 : (j : Int) < (nb : Int) := by have := HN.out; omega
      have i2 : IntKind.i64.wrap (j : Int) = j := by rw [IntKind.wrap_i64]; omega
      have hqe := fun w_ => eq_fact x y w_
      have HXY := Lib.hid (And.intro hx hy)
      subst hA; subst hB
      clear hx hy hg hg' x0 x1 x2 y0 y1 y2 hms hbr
      cases hv : (x == y)
      · rw [hv] at hqe
        have HX := Lib.hid (show (a == b) = false from same_no HXY.out.1 HXY.out.2 (by simpa using hv))
        clear hv
        go_upto_region 6 with (first | go_in)
        (refine wp_region_lines (Below wr.heap.size wr) (by kernel_rfl) (by kernel_rfl) ((Below.refl wr.heap.size wr).drew) ?_)
        (try simp only [])
        repeat (first | (refine runL_no (by rfl) ?_; (try simp only [Act.put, List.setIfInBounds_toArray, List.set_cons_zero, List.set_cons_succ])) | (refine runL_val (v := ?_) (by rfl) ?_ ?_; rotate_left; (focus (intro w_ hw_; obtain ⟨⟨f0_, f1_, f2_⟩, f3_, f4_, f5_⟩ := HFC.out w_ hw_; have f6_ := hqe w_; go_simp; (try with_reducible rfl); done)); (try simp only [Act.put, List.setIfInBounds_toArray, List.set_cons_zero, List.set_cons_succ])))
        (refine runL_nil ?_)
        clear hqe
        go_wp2
        go_ret
        exact ⟨ret_bool HX.out.symm, HBR.out.drew⟩
      · rw [hv] at hqe
        have HE := Lib.hid (show a[j]? = b[j]? by rw [HXY.out.1, HXY.out.2]; congr 1; simpa using hv)
        clear hv
        go_upto_region 6 with (first | go_in)
        (refine wp_region_lines (Below wr.heap.size wr) (by kernel_rfl) (by kernel_rfl) ((Below.refl wr.heap.size wr).drew) ?_)
        (try simp only [])
        repeat (first | (refine runL_no (by rfl) ?_; (try simp only [Act.put, List.setIfInBounds_toArray, List.set_cons_zero, List.set_cons_succ])) | (refine runL_val (v := ?_) (by rfl) ?_ ?_; rotate_left; (focus (intro w_ hw_; obtain ⟨⟨f0_, f1_, f2_⟩, f3_, f4_, f5_⟩ := HFC.out w_ hw_; have f6_ := hqe w_; go_simp; (try with_reducible rfl); done)); (try simp only [Act.put, List.setIfInBounds_toArray, List.set_cons_zero, List.set_cons_succ])))
        (refine runL_nil ?_)
        clear hqe
        go_wp2
        go_roundw
        case rel =>
          refine ⟨j + 1, hlt, by go_num, fun i hi => ?_, HBR.out.drew⟩
          by_cases e : i = j
          · subst e; exact HE.out
          · exact HMS.out i (by omega)
        case measure => simp [intOf]; omega
    · have d1 : decide (j < na) = false := decide_eq_false hlt
      have HX := Lib.hid (show (a == b) = true by
        rw [beq_iff_eq]
        refine List.ext_getElem? fun i => ?_
        by_cases h : i < j
        · exact hms i h
        · rw [List.getElem?_eq_none (by have := HN.out; omega), List.getElem?_eq_none (by have := HN.out; omega)])
      clear hms hbr
      go_wp2
      go_ret
      exact ⟨ret_bool HX.out.symm, HBR.out⟩
end Go.Proofs.YtjbabpnepjhllaaGreat

/- keysmithref19: shape, fields, number, need. -/
namespace Go.Proofs.YtjbabpnepjhllaaGreat
open Go.RowKit

set_option maxRecDepth 100000 in
set_option maxHeartbeats 4000000 in
theorem rshape_any (k : Int) (w : World) : Calls Tryz.prog 55 #[.int .i64 k] w fun e w' => e = .returned (.int .i64 (if 1 ≤ k ∧ k ≤ 16 then shapeK k else -1)) ∧ w' = w := by
  by_cases h : 1 ≤ k ∧ k ≤ 16
  · rcases kinds16 h with rfl | rfl | rfl | rfl | rfl | rfl | rfl | rfl | rfl | rfl | rfl | rfl | rfl | rfl | rfl | rfl
    all_goals
      clear h
      go_enter Tryz.func55, Tryz.ntmps55
      go_wp2
      go_ret
      exact ⟨rfl, rfl⟩
  · have HV := Lib.hid (show (Value.int .i64 (if 1 ≤ k ∧ k ≤ 16 then shapeK k else -1)) = .int .i64 (-1) by rw [if_neg h])
    have hne : ∀ j : Int, 1 ≤ j ∧ j ≤ 16 → (k == j) = false := fun j hj => beq_eq_false_iff_ne.2 (by omega)
    have e1 := hne 1 (by omega)
    have e2 := hne 2 (by omega)
    have e3 := hne 3 (by omega)
    have e4 := hne 4 (by omega)
    have e5 := hne 5 (by omega)
    have e6 := hne 6 (by omega)
    have e7 := hne 7 (by omega)
    have e8 := hne 8 (by omega)
    have e9 := hne 9 (by omega)
    have e10 := hne 10 (by omega)
    have e11 := hne 11 (by omega)
    have e12 := hne 12 (by omega)
    have e13 := hne 13 (by omega)
    have e14 := hne 14 (by omega)
    have e15 := hne 15 (by omega)
    have e16 := hne 16 (by omega)
    clear hne h
    rw [HV.out]
    go_enter Tryz.func55, Tryz.ntmps55
    go_wp2
    go_ret
    exact ⟨rfl, rfl⟩
set_option maxRecDepth 100000 in
set_option maxHeartbeats 4000000 in
theorem rfields_any (o : KOp) (w : World) : Calls Tryz.prog 56 #[.agg #[.int .i64 o.kind, .int .i64 o.d, .int .i64 o.e, .int .i64 o.a, .int .i64 o.b, .int .i64 o.c, .int .u64 o.imm]] w fun e w' => e = .returned (.agg #[.int .i64 o.d, .int .i64 o.e, .int .i64 o.a, .int .i64 o.b, .int .i64 o.c]) ∧ Below w.heap.size w w' := by
  go_enter Tryz.func56, Tryz.ntmps56
  go_wp2
  refine bodyPost_ret (results_cell_row (ty := 90) rfl _ _ (w.heap.size + 1) 90 #[.int .i64 o.d, .int .i64 o.e, .int .i64 o.a, .int .i64 o.b, .int .i64 o.c] (0, 0) _ rfl ?_ Tryz.underlying90 rfl (by kernel_rfl)) rfl ⟨rfl, ?_⟩
  · have h := heap_alloc_new (w.alloc (.cells #[.int .i64 o.kind, .int .i64 o.d, .int .i64 o.e, .int .i64 o.a, .int .i64 o.b, .int .i64 o.c, .int .u64 o.imm] 43)) (.cells #[.int .i64 o.d, .int .i64 o.e, .int .i64 o.a, .int .i64 o.b, .int .i64 o.c] 90)
    simpa using h
  · exact ((Below.refl _ _).alloc (Nat.le_refl _) _).alloc (by simp) _
set_option maxRecDepth 100000 in
set_option maxHeartbeats 4000000 in
theorem rnumber_any (o : KOp) (w : World) : Calls Tryz.prog 57 #[.agg #[.int .i64 o.kind, .int .i64 o.d, .int .i64 o.e, .int .i64 o.a, .int .i64 o.b, .int .i64 o.c, .int .u64 o.imm]] w fun e w' => e = .returned (.bool (numK o)) ∧ Below w.heap.size w w' := by
  have hx : numK o = if o.kind = 1 then true else if o.kind = 13 then decide (1 ≤ o.imm) && decide (o.imm ≤ 6) else if o.kind = 15 then decide (1 ≤ o.imm) && decide (o.imm ≤ 4096) else decide (o.imm = 0) := rfl
  cases d1 : (o.kind == 1)
  rotate_left
  · have HX := Lib.hid (show numK o = true by rw [hx, if_pos (by simpa using d1)])
    clear hx
    go_enter Tryz.func57, Tryz.ntmps57
    go_wp2
    go_ret
    exact ⟨ret_bool HX.out.symm, (Below.refl _ _).alloc (Nat.le_refl _) _⟩
  rw [if_neg (by simpa using d1)] at hx
  cases d13 : (o.kind == 13)
  rotate_left
  · rw [if_pos (by simpa using d13)] at hx
    cases d2 : decide ((1 : Int) ≤ (o.imm : Int))
    · have HX := Lib.hid (show numK o = false by rw [hx, show decide (1 ≤ o.imm) = false from decide_eq_false (by have := of_decide_eq_false d2; omega)]; rfl)
      clear hx
      go_enter Tryz.func57, Tryz.ntmps57
      go_wp2
      go_ret
      exact ⟨ret_bool HX.out.symm, (Below.refl _ _).alloc (Nat.le_refl _) _⟩
    · cases d3 : decide ((o.imm : Int) ≤ 6)
      · have HX := Lib.hid (show numK o = false by rw [hx, show decide (o.imm ≤ 6) = false from decide_eq_false (by have := of_decide_eq_false d3; omega), Bool.and_false])
        clear hx
        go_enter Tryz.func57, Tryz.ntmps57
        go_wp2
        go_ret
        exact ⟨ret_bool HX.out.symm, (Below.refl _ _).alloc (Nat.le_refl _) _⟩
      · have HX := Lib.hid (show numK o = true by rw [hx, show decide (1 ≤ o.imm) = true from decide_eq_true (by have := of_decide_eq_true d2; omega), show decide (o.imm ≤ 6) = true from decide_eq_true (by have := of_decide_eq_true d3; omega)]; rfl)
        clear hx
        go_enter Tryz.func57, Tryz.ntmps57
        go_wp2
        go_ret
        exact ⟨ret_bool HX.out.symm, (Below.refl _ _).alloc (Nat.le_refl _) _⟩
  rw [if_neg (by simpa using d13)] at hx
  cases d15 : (o.kind == 15)
  rotate_left
  · rw [if_pos (by simpa using d15)] at hx
    cases d2 : decide ((1 : Int) ≤ (o.imm : Int))
    · have HX := Lib.hid (show numK o = false by rw [hx, show decide (1 ≤ o.imm) = false from decide_eq_false (by have := of_decide_eq_false d2; omega)]; rfl)
      clear hx
      go_enter Tryz.func57, Tryz.ntmps57
      go_wp2
      go_ret
      exact ⟨ret_bool HX.out.symm, (Below.refl _ _).alloc (Nat.le_refl _) _⟩
    · cases d3 : decide ((o.imm : Int) ≤ 4096)
      · have HX := Lib.hid (show numK o = false by rw [hx, show decide (o.imm ≤ 4096) = false from decide_eq_false (by have := of_decide_eq_false d3; omega), Bool.and_false])
        clear hx
        go_enter Tryz.func57, Tryz.ntmps57
        go_wp2
        go_ret
        exact ⟨ret_bool HX.out.symm, (Below.refl _ _).alloc (Nat.le_refl _) _⟩
      · have HX := Lib.hid (show numK o = true by rw [hx, show decide (1 ≤ o.imm) = true from decide_eq_true (by have := of_decide_eq_true d2; omega), show decide (o.imm ≤ 4096) = true from decide_eq_true (by have := of_decide_eq_true d3; omega)]; rfl)
        clear hx
        go_enter Tryz.func57, Tryz.ntmps57
        go_wp2
        go_ret
        exact ⟨ret_bool HX.out.symm, (Below.refl _ _).alloc (Nat.le_refl _) _⟩
  rw [if_neg (by simpa using d15)] at hx
  cases d0 : ((o.imm : Int) == 0)
  · have HX := Lib.hid (show numK o = false by rw [hx]; exact decide_eq_false (by have := beq_eq_false_iff_ne.1 d0; omega))
    clear hx
    go_enter Tryz.func57, Tryz.ntmps57
    go_wp2
    go_ret
    exact ⟨ret_bool HX.out.symm, (Below.refl _ _).alloc (Nat.le_refl _) _⟩
  · have HX := Lib.hid (show numK o = true by rw [hx]; exact decide_eq_true (by have := beq_iff_eq.1 d0; omega))
    clear hx
    go_enter Tryz.func57, Tryz.ntmps57
    go_wp2
    go_ret
    exact ⟨ret_bool HX.out.symm, (Below.refl _ _).alloc (Nat.le_refl _) _⟩
set_option maxRecDepth 100000 in
set_option maxHeartbeats 4000000 in
theorem rneed_any (A : Option Addr) (n c : Nat) (o : KOp) (w : World) : Calls Tryz.prog 33 #[.slice A n c, .agg #[.int .i64 o.kind, .int .i64 o.d, .int .i64 o.e, .int .i64 o.a, .int .i64 o.b, .int .i64 o.c, .int .u64 o.imm]] w fun e w' => e = .returned (.bool (needK n o)) ∧ Below w.heap.size w w' := by
  have hx : needK n o = (o.d == -1 && (o.e == -1 && (o.c == -1 && (thereK n o.a && (if o.imm = 2 then thereK n o.b else if o.imm = 1 ∨ o.imm = 3 then o.b == -1 else false))))) := rfl
  cases d1 : (o.d == -1)
  · have d1' := ne_of d1
    have HX := Lib.hid (show needK n o = false by rw [hx, d1]; rfl)
    clear hx
    go_enter Tryz.func33, Tryz.ntmps33
    go_wp2
    go_ret
    exact ⟨ret_bool HX.out.symm, (Below.refl _ _).alloc (Nat.le_refl _) _⟩
  have d1' := ne_of d1
  cases d2 : (o.e == -1)
  · have d2' := ne_of d2
    have HX := Lib.hid (show needK n o = false by rw [hx, d1, d2]; rfl)
    clear hx
    go_enter Tryz.func33, Tryz.ntmps33
    go_wp2
    go_ret
    exact ⟨ret_bool HX.out.symm, (Below.refl _ _).alloc (Nat.le_refl _) _⟩
  have d2' := ne_of d2
  cases d3 : (o.c == -1)
  · have d3' := ne_of d3
    have HX := Lib.hid (show needK n o = false by rw [hx, d1, d2, d3]; rfl)
    clear hx
    go_enter Tryz.func33, Tryz.ntmps33
    go_wp2
    go_ret
    exact ⟨ret_bool HX.out.symm, (Below.refl _ _).alloc (Nat.le_refl _) _⟩
  have d3' := ne_of d3
  rw [d1, d2, d3, Bool.true_and, Bool.true_and, Bool.true_and] at hx
  cases d4 : decide (o.a < 0)
  rotate_left
  · have HX := Lib.hid (show needK n o = false by rw [hx, show thereK n o.a = false by unfold thereK; rw [show decide (0 ≤ o.a) = false from decide_eq_false (by have := of_decide_eq_true d4; omega)]; rfl]; rfl)
    clear hx
    go_enter Tryz.func33, Tryz.ntmps33
    go_wp2
    go_ret
    exact ⟨ret_bool HX.out.symm, (Below.refl _ _).alloc (Nat.le_refl _) _⟩
  cases d5 : decide ((n : Int) ≤ o.a)
  rotate_left
  · have HX := Lib.hid (show needK n o = false by rw [hx, show thereK n o.a = false by unfold thereK; rw [show decide (o.a < (n : Int)) = false from decide_eq_false (by have := of_decide_eq_true d5; omega), Bool.and_false]]; rfl)
    clear hx
    go_enter Tryz.func33, Tryz.ntmps33
    go_wp2
    go_ret
    exact ⟨ret_bool HX.out.symm, (Below.refl _ _).alloc (Nat.le_refl _) _⟩
  rw [show thereK n o.a = true by unfold thereK; rw [decide_eq_true (by have := of_decide_eq_false d4; omega), decide_eq_true (by have := of_decide_eq_false d5; omega)]; rfl, Bool.true_and] at hx
  cases d6 : decide ((o.imm : Int) < 1)
  rotate_left
  · have HX := Lib.hid (show needK n o = false by rw [hx, if_neg (by have := of_decide_eq_true d6; omega), if_neg (by have := of_decide_eq_true d6; omega)])
    clear hx
    go_enter Tryz.func33, Tryz.ntmps33
    go_wp2
    go_ret
    exact ⟨ret_bool HX.out.symm, (Below.refl _ _).alloc (Nat.le_refl _) _⟩
  cases d7 : decide ((3 : Int) < (o.imm : Int))
  rotate_left
  · have HX := Lib.hid (show needK n o = false by rw [hx, if_neg (by have := of_decide_eq_true d7; omega), if_neg (by have := of_decide_eq_true d7; omega)])
    clear hx
    go_enter Tryz.func33, Tryz.ntmps33
    go_wp2
    go_ret
    exact ⟨ret_bool HX.out.symm, (Below.refl _ _).alloc (Nat.le_refl _) _⟩
  cases d8 : ((o.imm : Int) == 2)
  rotate_left
  · rw [if_pos (by have := beq_iff_eq.1 d8; omega)] at hx
    cases d9 : decide (0 ≤ o.b)
    · have HX := Lib.hid (show needK n o = false by rw [hx]; unfold thereK; rw [d9]; rfl)
      clear hx
      go_enter Tryz.func33, Tryz.ntmps33
      go_wp2
      go_ret
      exact ⟨ret_bool HX.out.symm, (Below.refl _ _).alloc (Nat.le_refl _) _⟩
    cases d10 : decide (o.b < (n : Int))
    · have HX := Lib.hid (show needK n o = false by rw [hx]; unfold thereK; rw [d10, Bool.and_false])
      clear hx
      go_enter Tryz.func33, Tryz.ntmps33
      go_wp2
      go_ret
      exact ⟨ret_bool HX.out.symm, (Below.refl _ _).alloc (Nat.le_refl _) _⟩
    have HX := Lib.hid (show needK n o = true by rw [hx]; unfold thereK; rw [d9, d10]; rfl)
    clear hx
    go_enter Tryz.func33, Tryz.ntmps33
    go_wp2
    go_ret
    exact ⟨ret_bool HX.out.symm, (Below.refl _ _).alloc (Nat.le_refl _) _⟩
  rw [if_neg (by have := beq_eq_false_iff_ne.1 d8; omega), if_pos (by have := beq_eq_false_iff_ne.1 d8; have := of_decide_eq_false d7; have := of_decide_eq_false d6; omega)] at hx
  cases d9 : (o.b == -1)
  · have HX := Lib.hid (show needK n o = false by rw [hx, d9])
    clear hx
    go_enter Tryz.func33, Tryz.ntmps33
    go_wp2
    go_ret
    exact ⟨ret_bool HX.out.symm, (Below.refl _ _).alloc (Nat.le_refl _) _⟩
  have HX := Lib.hid (show needK n o = true by rw [hx, d9])
  clear hx
  go_enter Tryz.func33, Tryz.ntmps33
  go_wp2
  go_ret
  exact ⟨ret_bool HX.out.symm, (Below.refl _ _).alloc (Nat.le_refl _) _⟩
end Go.Proofs.YtjbabpnepjhllaaGreat

/- keysmithref19: alike, agree. -/
namespace Go.Proofs.YtjbabpnepjhllaaGreat
open Go.RowKit

theorem nums_new2 (w : World) (X : Obj) (l : List Int) : NumsSay l w (.returned (.slice (some ⟨w.heap.size + 1, 0, none⟩) l.length l.length)) ((w.alloc X).alloc (.cells (intV l).toArray 3)) := by
  have h := heap_alloc_new (w.alloc X) (.cells (intV l).toArray 3)
  have hz : (w.alloc X).heap.size = w.heap.size + 1 := by simp
  rw [hz] at h
  exact ⟨_, _, _, rfl, Rows.mono (nums_blk h) (fun q hq => by subst hq; exact lt_of_block h), ((Below.refl _ _).alloc (Nat.le_refl _) _).alloc (by simp) _⟩
theorem nums_nil2 (w : World) (X : Obj) : NumsSay [] w (.returned (.slice none 0 0)) (w.alloc X) :=
  ⟨none, 0, 0, rfl, ⟨none, 0, rfl, by simp, by simp, fun h => absurd rfl h⟩, (Below.refl _ _).alloc (Nat.le_refl _) _⟩
set_option maxRecDepth 100000 in
set_option maxHeartbeats 8000000 in
theorem ralike_at (k d e a b c : Int) (imm : Nat) (w : World) : Calls Tryz.prog 84 #[.agg #[.int .i64 k, .int .i64 d, .int .i64 e, .int .i64 a, .int .i64 b, .int .i64 c, .int .u64 imm]] w (NumsSay (alikeK ⟨k, d, e, a, b, c, imm⟩) w) := by
  by_cases hk : k = 6
  · subst hk
    go_enter Tryz.func84, Tryz.ntmps84
    go_wp2
    go_ret
    exact nums_new2 w _ [a, b]
  have e6 : (k == 6) = false := beq_eq_false_iff_ne.2 hk
  have n6 := Lib.hid hk
  clear hk
  by_cases hk : k = 14
  · subst hk
    go_enter Tryz.func84, Tryz.ntmps84
    go_wp2
    go_ret
    exact nums_new2 w _ [d, e]
  have e14 : (k == 14) = false := beq_eq_false_iff_ne.2 hk
  have n14 := Lib.hid hk
  clear hk
  by_cases hk : k = 8
  · subst hk
    go_enter Tryz.func84, Tryz.ntmps84
    go_wp2
    go_ret
    exact nums_new2 w _ [d, a, b]
  have e8 : (k == 8) = false := beq_eq_false_iff_ne.2 hk
  have n8 := Lib.hid hk
  clear hk
  by_cases hk : k = 9
  · subst hk
    go_enter Tryz.func84, Tryz.ntmps84
    go_wp2
    go_ret
    exact nums_new2 w _ [d, c]
  have e9 : (k == 9) = false := beq_eq_false_iff_ne.2 hk
  have n9 := Lib.hid hk
  clear hk
  by_cases hk : k = 10
  · subst hk
    go_enter Tryz.func84, Tryz.ntmps84
    go_wp2
    go_ret
    exact nums_new2 w _ [d, a, b, c]
  have e10 : (k == 10) = false := beq_eq_false_iff_ne.2 hk
  have n10 := Lib.hid hk
  clear hk
  by_cases hk : k = 11
  · subst hk
    go_enter Tryz.func84, Tryz.ntmps84
    go_wp2
    go_ret
    exact nums_new2 w _ [d, a, b, c]
  have e11 : (k == 11) = false := beq_eq_false_iff_ne.2 hk
  have n11 := Lib.hid hk
  clear hk
  by_cases hk : k = 12
  · subst hk
    go_enter Tryz.func84, Tryz.ntmps84
    go_wp2
    go_ret
    exact nums_new2 w _ [d, a, b, c]
  have e12 : (k == 12) = false := beq_eq_false_iff_ne.2 hk
  have n12 := Lib.hid hk
  clear hk
  by_cases hk : k = 13
  · subst hk
    go_enter Tryz.func84, Tryz.ntmps84
    go_wp2
    go_ret
    exact nums_new2 w _ [d, a, c]
  have e13 : (k == 13) = false := beq_eq_false_iff_ne.2 hk
  have HX := Lib.hid (show alikeK ⟨k, d, e, a, b, c, imm⟩ = [] by
    have := n6.out; have := n14.out; have := n8.out; have := n9.out; have := n10.out; have := n11.out; have := n12.out
    unfold alikeK
    simp_all)
  rw [HX.out]
  clear hk
  go_enter Tryz.func84, Tryz.ntmps84
  go_wp2
  go_ret
  exact nums_nil2 w _
theorem ralike_any (o : KOp) (w : World) : Calls Tryz.prog 84 #[.agg #[.int .i64 o.kind, .int .i64 o.d, .int .i64 o.e, .int .i64 o.a, .int .i64 o.b, .int .i64 o.c, .int .u64 o.imm]] w (NumsSay (alikeK o) w) := ralike_at o.kind o.d o.e o.a o.b o.c o.imm w
theorem agree_no {vs : List KVar} {o : KOp} {j : Nat} {v h : Int} (hv : (alikeK o)[j]? = some v) (hh : (alikeK o)[0]? = some h) (hne : (varK vs v).limbs ≠ (varK vs h).limbs) : agreeK vs o = false := by
  unfold agreeK
  rw [List.all_eq_false]
  refine ⟨v, List.mem_of_getElem? hv, ?_⟩
  have : (alikeK o).headD 0 = h := by cases hl : alikeK o with
    | nil => rw [hl] at hh; cases hh
    | cons x l => rw [hl] at hh; simpa using hh
  rw [this]
  simpa using hne
theorem agree_yes {vs : List KVar} {o : KOp} (h : ∀ (j : Nat) (v h : Int), (alikeK o)[j]? = some v → (alikeK o)[0]? = some h → (varK vs v).limbs = (varK vs h).limbs) : agreeK vs o = true := by
  unfold agreeK
  rw [List.all_eq_true]
  intro v hv
  obtain ⟨j, hj⟩ := List.mem_iff_getElem?.1 hv
  cases hl : alikeK o with
  | nil => rw [hl] at hv; cases hv
  | cons x l => simpa using h j v x hj (by rw [hl]; rfl)
set_option maxRecDepth 100000 in
set_option maxHeartbeats 8000000 in
theorem ragree_any (Av : Option Addr) (nv cv : Nat) (vs : List KVar) (o : KOp) (w : World) (F : Nat → Prop) (hv : KVarsAt w F (.slice Av nv cv) vs) (hF : ∀ k, F k → k < w.heap.size) (hn : vs.length ≤ 100000)
    (hin : ∀ v ∈ alikeK o, 0 ≤ v ∧ v < (vs.length : Int)) :
    Calls Tryz.prog 58 #[.slice Av nv cv, .agg #[.int .i64 o.kind, .int .i64 o.d, .int .i64 o.e, .int .i64 o.a, .int .i64 o.b, .int .i64 o.c, .int .u64 o.imm]] w fun e w' => e = .returned (.bool (agreeK vs o)) ∧ Below w.heap.size w w' := by
  obtain ⟨W, hW⟩ : ∃ W, W = w.alloc (.cells #[.int .i64 o.kind, .int .i64 o.d, .int .i64 o.e, .int .i64 o.a, .int .i64 o.b, .int .i64 o.c, .int .u64 o.imm] 43) := ⟨_, rfl⟩
  have hb : Below w.heap.size w W := by rw [hW]; exact (Below.refl _ _).alloc (Nat.le_refl _) _
  have hbx : OpBox W w.heap.size o := OpBox.of (t := 43) (fr := (0, 0)) (by rw [hW]; exact heap_alloc_new w _)
  have HW := Lib.hid hW
  have HB := Lib.hid hb
  have HAL := Lib.hid (ralike_any o W)
  have HVS := Lib.hid (show KVarsAt W (fun q => q < W.heap.size) (.slice Av nv cv) vs from Rows.mono (Rows.keep hv (SameOn.of_below hb hF)) fun q hq => Nat.lt_of_lt_of_le (hF q hq) hb.size)
  have HIN := Lib.hid hin
  have HNV := Lib.hid (rows_len hv).1
  have n4 : nv ≤ 100000 := by have := (rows_len hv).1; omega
  have c0 := hbx.kind
  have c1 := hbx.d
  have c2 := hbx.e
  have c3 := hbx.a
  have c4 := hbx.b
  have c5 := hbx.c
  have c6 := hbx.imm
  clear hW hb hbx hv hF hn hin
  go_enter Tryz.func58, Tryz.ntmps58
  go_upto_region 1 with (first | go_in)
  rw [← HW.out]
  clear HW
  go_upto_region 2 with (first | ((with_reducible refine HAL.out.mono ?_); rintro e w1 ⟨Al, nl, cl, rfl, hl1, hb1⟩; have HL1 := Lib.hid hl1; have HB1 := Lib.hid hb1; clear hl1 hb1) | go_in)
  clear c0 c1 c2 c3 c4 c5 c6
  have hnl := (rows_len HL1.out).1
  have HNL := Lib.hid hnl
  have hln : nl ≤ 4 := by
    rw [hnl]
    unfold alikeK
    repeat' split
    all_goals simp
  clear hnl
  go_wp2
  go_loopw [4, 6] (fun _ s6 wr => ∃ i : Nat, 1 ≤ i ∧ (i ≤ nl ∨ i = 1) ∧ s6 = .int .i64 (i : Nat) ∧ (∀ (j : Nat) (v h : Int), j < i → (alikeK o)[j]? = some v → (alikeK o)[0]? = some h → (varK vs v).limbs = (varK vs h).limbs) ∧ Below w1.heap.size w1 wr) (fun _ s6 _ => nl + 1 - (intOf s6).toNat)
  case atStart =>
    refine ⟨1, Nat.le_refl _, .inr rfl, rfl, fun j v h hj h1 h2 => ?_, Below.refl _ _⟩
    have e : j = 0 := by omega
    subst e
    rw [h1] at h2
    cases h2
    rfl
  case round =>
    obtain ⟨i, hi1, hi2, rfl, hms, hbr⟩ := hrel
    have HMS := Lib.hid hms
    have HBR := Lib.hid hbr
    by_cases hlt : i < nl
    · have d1 : decide (i < nl) = true := decide_eq_true hlt
      obtain ⟨v, hx⟩ : ∃ v, (alikeK o)[i]? = some v := ⟨_, List.getElem?_eq_getElem (by have := HNL.out; omega)⟩
      obtain ⟨h, hh⟩ : ∃ v, (alikeK o)[0]? = some v := ⟨_, List.getElem?_eq_getElem (by have := HNL.out; omega)⟩
      have hvr := HIN.out v (List.mem_of_getElem? hx)
      have hhr := HIN.out h (List.mem_of_getElem? hh)
      obtain ⟨v', hv'⟩ : ∃ n : Nat, v = n := ⟨v.toNat, by omega⟩
      obtain ⟨h', hh'⟩ : ∃ n : Nat, h = n := ⟨h.toNat, by omega⟩
      subst hv'; subst hh'
      obtain ⟨x, hxv⟩ : ∃ x, vs[v']? = some x := ⟨_, List.getElem?_eq_getElem (by omega)⟩
      obtain ⟨y, hyv⟩ : ∃ x, vs[h']? = some x := ⟨_, List.getElem?_eq_getElem (by omega)⟩
      have hlr : NumsAt wr (fun q => q < wr.heap.size) (.slice Al nl cl) (alikeK o) := rows_next HL1.out hbr
      have hvw : KVarsAt wr (fun q => q < wr.heap.size) (.slice Av nv cv) vs := rows_next HVS.out (HB1.out.trans (hbr.mono HB1.out.size))
      obtain ⟨gl, ol, hA, hg, z0⟩ := hlr.at_ hx
      obtain ⟨gl', ol', hA', hg', z1⟩ := hlr.at_ hh
      have hAe := hA.symm.trans hA'
      simp only [Option.some.injEq, Addr.mk.injEq, and_true] at hAe
      obtain ⟨e1, e2⟩ := hAe
      subst e1; subst e2
      obtain ⟨gv, ov, hB, hgv, y0, _, _⟩ := hvw.at_ hxv
      obtain ⟨gv', ov', hB', hgv', y1, _, _⟩ := hvw.at_ hyv
      have hBe := hB.symm.trans hB'
      simp only [Option.some.injEq, Addr.mk.injEq, and_true] at hBe
      obtain ⟨e1, e2⟩ := hBe
      subst e1; subst e2
      rw [Nat.add_zero] at z1
      have HFC := Lib.hid (show ∀ w_, Below wr.heap.size wr w_ → w_.cell? ⟨gl, ol + i, none⟩ = some (.int .i64 (v' : Int)) ∧ w_.cell? ⟨gl, ol, none⟩ = some (.int .i64 (h' : Int)) ∧ w_.cell? ⟨gv, ov + v' * 3, none⟩ = some (.int .i64 x.limbs) ∧ w_.cell? ⟨gv, ov + h' * 3, none⟩ = some (.int .i64 y.limbs) from fun w_ h => ⟨(h.cell (p := ⟨gl, ol + i, none⟩) hg).trans z0, (h.cell (p := ⟨gl, ol, none⟩) hg).trans z1, (h.cell (p := ⟨gv, ov + v' * 3, none⟩) hgv).trans y0, (h.cell (p := ⟨gv, ov + h' * 3, none⟩) hgv).trans y1⟩)
      have hvx : (varK vs (v' : Int)).limbs = x.limbs := by unfold varK; rw [Int.toNat_natCast, List.getD_eq_getElem?_getD, hxv]; rfl
      have hhy : (varK vs (h' : Int)).limbs = y.limbs := by unfold varK; rw [Int.toNat_natCast, List.getD_eq_getElem?_getD, hyv]; rfl
      have i0 : (0 : Int) ≤ (i : Int) := by omega
      have i1 : (i : Int) < (nl : Int) := by omega
      have i2 : IntKind.i64.wrap (i : Int) = i := by rw [IntKind.wrap_i64]; omega
      have i3 : 0 < nl := by omega
      have j0 : (0 : Int) ≤ (v' : Int) := by omega
      have j1 : (v' : Int) < (nv : Int) := by have := HNV.out; omega
      have j2 : IntKind.i64.wrap (v' : Int) = v' := by rw [IntKind.wrap_i64]; omega
      have k0 : (0 : Int) ≤ (h' : Int) := by omega
      have k1 : (h' : Int) < (nv : Int) := by have := HNV.out; omega
      have k2 : IntKind.i64.wrap (h' : Int) = h' := by rw [IntKind.wrap_i64]; omega
      have HX := Lib.hid (And.intro hx (And.intro hh (And.intro hvx hhy)))
      have HI := Lib.hid hi1
      subst hA; subst hB
      clear hx hh hvr hhr hxv hyv hlr hvw hg hg' hA' hB' hgv hgv' y0 y1 z0 z1 hvx hhy hms hbr hi1 hi2
      cases hne : (x.limbs != y.limbs)
      · have HE := Lib.hid (show x.limbs = y.limbs by simpa using hne)
        go_upto_region 5 with (first | go_in)
        (refine wp_region_lines (Below wr.heap.size wr) (by kernel_rfl) (by kernel_rfl) ((Below.refl wr.heap.size wr).drew) ?_)
        (try simp only [])
        repeat (first | (refine runL_no (by rfl) ?_; (try simp only [Act.put, List.setIfInBounds_toArray, List.set_cons_zero, List.set_cons_succ])) | (refine runL_val (v := ?_) (by rfl) ?_ ?_; rotate_left; (focus (intro w_ hw_; obtain ⟨f0_, f1_, f2_, f3_⟩ := HFC.out w_ hw_; go_simp; (try with_reducible rfl); done)); (try simp only [Act.put, List.setIfInBounds_toArray, List.set_cons_zero, List.set_cons_succ])))
        (refine runL_nil ?_)
        go_wp2
        go_roundw
        case rel =>
          refine ⟨i + 1, by omega, by omega, by go_num, fun j v h hj h1 h2 => ?_, HBR.out.drew⟩
          by_cases e : j = i
          · subst e
            rw [HX.out.1] at h1; cases h1
            rw [HX.out.2.1] at h2; cases h2
            rw [HX.out.2.2.1, HX.out.2.2.2]; exact HE.out
          · exact HMS.out j v h (by omega) h1 h2
        case measure => simp [intOf]; omega
      · have HN := Lib.hid (show agreeK vs o = false from agree_no HX.out.1 HX.out.2.1 (by rw [HX.out.2.2.1, HX.out.2.2.2]; simpa using hne))
        go_upto_region 5 with (first | go_in)
        (refine wp_region_lines (Below wr.heap.size wr) (by kernel_rfl) (by kernel_rfl) ((Below.refl wr.heap.size wr).drew) ?_)
        (try simp only [])
        repeat (first | (refine runL_no (by rfl) ?_; (try simp only [Act.put, List.setIfInBounds_toArray, List.set_cons_zero, List.set_cons_succ])) | (refine runL_val (v := ?_) (by rfl) ?_ ?_; rotate_left; (focus (intro w_ hw_; obtain ⟨f0_, f1_, f2_, f3_⟩ := HFC.out w_ hw_; go_simp; (try with_reducible rfl); done)); (try simp only [Act.put, List.setIfInBounds_toArray, List.set_cons_zero, List.set_cons_succ])))
        (refine runL_nil ?_)
        go_wp2
        go_ret
        exact ⟨ret_bool HN.out.symm, HB.out.trans ((HB1.out.trans (HBR.out.drew.mono HB1.out.size)).mono HB.out.size)⟩
    · have d1 : decide (i < nl) = false := decide_eq_false hlt
      have HN := Lib.hid (show agreeK vs o = true from agree_yes fun j v h h1 h2 => hms j v h (by have := (List.getElem?_eq_some_iff.1 h1).1; have := HNL.out; omega) h1 h2)
      clear hms hbr hi2
      go_wp2
      go_ret
      exact ⟨ret_bool HN.out.symm, HB.out.trans ((HB1.out.trans (HBR.out.mono HB1.out.size)).mono HB.out.size)⟩
end Go.Proofs.YtjbabpnepjhllaaGreat

/- keysmithref19.One: its regions. -/
namespace Go.Proofs.YtjbabpnepjhllaaGreat
open Go.RowKit

set_option maxRecDepth 100000 in
set_option maxHeartbeats 4000000 in
theorem rone_r10 {s i : Int} (w : World) (Q : Exit → Act → World → Prop) {u0 u1 u2 u3 u4 u6 u7 u9 u10 u11 u12 u13 u14 u15 u16 u17 u18 u19 u20 u21 u22 u23 u24 u25 u26 u27 u28 u29 u30 u31 u32 u33 u34 u35 u36 u37 u38 u39 u40 u41 u42 u43 u44 u45 u46 u47 u48 u49 u50 u51 u52 u53 u54 u55 u56 u57 u58 u59 u60 u61 u62 u63 u64 u65 u66 u67 u68 u69 u70 u71 u72 u73 u74 u75 u76 u77 u78 u79 u80 u81 u82 u83 u84 u85 u86 u87 u88 u89 u90 u91 u92 u93 u94 u95 u96 u97 u98 u99 u100 u101 u102 u103 u104 u105 u106 u107 u108 u109 u110 u111 u112 u113 u114 u115 u116 u117 u118 u119 u120 u121 u122 u123 u124 u125 u126 u127 u128 u129 u130 u131 u132 u133 u134 u135 u136 u137 u138 u139 : Value} (hs : s = 0 ∨ s = 1 ∨ s = 5 ∨ s = 13 ∨ s = 19 ∨ s = 21 ∨ s = 29) (hi : i = 0 ∨ i = 1 ∨ i = 2 ∨ i = 3 ∨ i = 4)
    (k : ∀ (v33 v34 v35 v36 v37 v38 : Value), Q .normal ⟨#[u0, u1, u2, u3, u4, .int .i64 s, u6, u7, .int .i64 i, .bool (bitK s i), u10, u11, u12, u13, u14, u15, u16, u17, u18, u19, u20, u21, u22, u23, u24, u25, u26, u27, u28, u29, u30, u31, u32, v33, v34, v35, v36, v37, v38, u39, u40, u41, u42, u43, u44, u45, u46, u47, u48, u49, u50, u51, u52, u53, u54, u55, u56, u57, u58, u59, u60, u61, u62, u63, u64, u65, u66, u67, u68, u69, u70, u71, u72, u73, u74, u75, u76, u77, u78, u79, u80, u81, u82, u83, u84, u85, u86, u87, u88, u89, u90, u91, u92, u93, u94, u95, u96, u97, u98, u99, u100, u101, u102, u103, u104, u105, u106, u107, u108, u109, u110, u111, u112, u113, u114, u115, u116, u117, u118, u119, u120, u121, u122, u123, u124, u125, u126, u127, u128, u129, u130, u131, u132, u133, u134, u135, u136, u137, u138, u139], []⟩ w) : (partR Tryz.f34 10).wp Tryz.prog Q ⟨#[u0, u1, u2, u3, u4, .int .i64 s, u6, u7, .int .i64 i, u9, u10, u11, u12, u13, u14, u15, u16, u17, u18, u19, u20, u21, u22, u23, u24, u25, u26, u27, u28, u29, u30, u31, u32, u33, u34, u35, u36, u37, u38, u39, u40, u41, u42, u43, u44, u45, u46, u47, u48, u49, u50, u51, u52, u53, u54, u55, u56, u57, u58, u59, u60, u61, u62, u63, u64, u65, u66, u67, u68, u69, u70, u71, u72, u73, u74, u75, u76, u77, u78, u79, u80, u81, u82, u83, u84, u85, u86, u87, u88, u89, u90, u91, u92, u93, u94, u95, u96, u97, u98, u99, u100, u101, u102, u103, u104, u105, u106, u107, u108, u109, u110, u111, u112, u113, u114, u115, u116, u117, u118, u119, u120, u121, u122, u123, u124, u125, u126, u127, u128, u129, u130, u131, u132, u133, u134, u135, u136, u137, u138, u139], []⟩ w := by
  
  have HK := Lib.hid k
  clear k
  conv => arg 2; whnf
  rcases hs with rfl | rfl | rfl | rfl | rfl | rfl | rfl <;> rcases hi with rfl | rfl | rfl | rfl | rfl
  all_goals
    go_wp2_with fail
    exact HK.out _ _ _ _ _ _

set_option maxRecDepth 100000 in
set_option maxHeartbeats 4000000 in
theorem rone_r11 {g n c j : Nat} {A : Option Addr} {x : Int} {h : Bool} (w : World) (Q : Exit → Act → World → Prop) {u1 u2 u3 u4 u5 u7 u10 u11 u12 u13 u14 u15 u16 u17 u18 u19 u20 u21 u22 u23 u24 u25 u26 u27 u28 u29 u30 u31 u32 u33 u34 u35 u36 u37 u38 u39 u40 u41 u42 u43 u44 u45 u46 u47 u48 u49 u50 u51 u52 u53 u54 u55 u56 u57 u58 u59 u60 u61 u62 u63 u64 u65 u66 u67 u68 u69 u70 u71 u72 u73 u74 u75 u76 u77 u78 u79 u80 u81 u82 u83 u84 u85 u86 u87 u88 u89 u90 u91 u92 u93 u94 u95 u96 u97 u98 u99 u100 u101 u102 u103 u104 u105 u106 u107 u108 u109 u110 u111 u112 u113 u114 u115 u116 u117 u118 u119 u120 u121 u122 u123 u124 u125 u126 u127 u128 u129 u130 u131 u132 u133 u134 u135 u136 u137 u138 u139 : Value} (hc : w.cell? ⟨g, j, none⟩ = some (.int .i64 x)) (hj : j < 5)
    (k : ∀ (v39 v40 v41 v42 v43 v44 v45 v46 v47 v48 v49 v50 v51 v52 v53 v54 v55 v56 v57 v58 v59 v60 v61 v62 : Value), Q .normal ⟨#[.slice A n c, u1, u2, u3, u4, u5, .pointer (some ⟨g, 0, none⟩), u7, .int .i64 (j : Nat), .bool h, u10, u11, u12, u13, u14, u15, u16, u17, u18, u19, u20, u21, u22, u23, u24, u25, u26, u27, u28, u29, u30, u31, u32, u33, u34, u35, u36, u37, u38, v39, v40, v41, v42, v43, v44, v45, v46, v47, v48, v49, v50, v51, v52, v53, v54, v55, v56, v57, v58, v59, v60, v61, v62, .bool (!partK n h x), u64, u65, u66, u67, u68, u69, u70, u71, u72, u73, u74, u75, u76, u77, u78, u79, u80, u81, u82, u83, u84, u85, u86, u87, u88, u89, u90, u91, u92, u93, u94, u95, u96, u97, u98, u99, u100, u101, u102, u103, u104, u105, u106, u107, u108, u109, u110, u111, u112, u113, u114, u115, u116, u117, u118, u119, u120, u121, u122, u123, u124, u125, u126, u127, u128, u129, u130, u131, u132, u133, u134, u135, u136, u137, u138, u139], []⟩ w) : (partR Tryz.f34 11).wp Tryz.prog Q ⟨#[.slice A n c, u1, u2, u3, u4, u5, .pointer (some ⟨g, 0, none⟩), u7, .int .i64 (j : Nat), .bool h, u10, u11, u12, u13, u14, u15, u16, u17, u18, u19, u20, u21, u22, u23, u24, u25, u26, u27, u28, u29, u30, u31, u32, u33, u34, u35, u36, u37, u38, u39, u40, u41, u42, u43, u44, u45, u46, u47, u48, u49, u50, u51, u52, u53, u54, u55, u56, u57, u58, u59, u60, u61, u62, u63, u64, u65, u66, u67, u68, u69, u70, u71, u72, u73, u74, u75, u76, u77, u78, u79, u80, u81, u82, u83, u84, u85, u86, u87, u88, u89, u90, u91, u92, u93, u94, u95, u96, u97, u98, u99, u100, u101, u102, u103, u104, u105, u106, u107, u108, u109, u110, u111, u112, u113, u114, u115, u116, u117, u118, u119, u120, u121, u122, u123, u124, u125, u126, u127, u128, u129, u130, u131, u132, u133, u134, u135, u136, u137, u138, u139], []⟩ w := by
  
  have HK := Lib.hid k
  clear k
  conv => arg 2; whnf
  have i0 : (0 : Int) ≤ (j : Int) := by omega
  have i1 : (j : Int) < 5 := by omega
  have i2 : IntKind.i64.wrap (j : Int) = j := by rw [IntKind.wrap_i64]; omega
  have i3 : j < 5 := hj
  
  cases h
  · cases d0 : (x == -1)
    · have d1 : (x != -1) = true := by rw [bne, d0]; rfl
      have HV := Lib.hid (show (!partK n false x) = true by unfold partK; simp only [d0]; rfl)
      rw [HV.out] at HK
      go_wp2_with fail
      exact HK.out _ _ _ _ _ _ _ _ _ _ _ _ _ _ _ _ _ _ _ _ _ _ _ _
    · have d1 : (x != -1) = false := by rw [bne, d0]; rfl
      have HV := Lib.hid (show (!partK n false x) = false by unfold partK; simp only [d0]; rfl)
      rw [HV.out] at HK
      go_wp2_with fail
      exact HK.out _ _ _ _ _ _ _ _ _ _ _ _ _ _ _ _ _ _ _ _ _ _ _ _
  · cases d0 : decide (x < 0)
    · cases d1 : decide ((n : Int) ≤ x)
      · have HV := Lib.hid (show (!partK n true x) = false by
          unfold partK thereK
          rw [if_pos rfl, decide_eq_true (by simpa using d0), decide_eq_true (by simpa using d1)]; rfl)
        rw [HV.out] at HK
        go_wp2_with fail
        exact HK.out _ _ _ _ _ _ _ _ _ _ _ _ _ _ _ _ _ _ _ _ _ _ _ _
      · have HV := Lib.hid (show (!partK n true x) = true by
          unfold partK thereK
          have h1 : (n : Int) ≤ x := by simpa using d1
          rw [if_pos rfl, decide_eq_false (p := x < (n : Int)) (by omega), Bool.and_false]; rfl)
        rw [HV.out] at HK
        go_wp2_with fail
        exact HK.out _ _ _ _ _ _ _ _ _ _ _ _ _ _ _ _ _ _ _ _ _ _ _ _
    · have HV := Lib.hid (show (!partK n true x) = true by
        unfold partK thereK
        have h1 : x < 0 := by simpa using d0
        rw [if_pos rfl, decide_eq_false (p := 0 ≤ x) (by omega), Bool.false_and]; rfl)
      rw [HV.out] at HK
      go_wp2_with fail
      exact HK.out _ _ _ _ _ _ _ _ _ _ _ _ _ _ _ _ _ _ _ _ _ _ _ _

set_option maxRecDepth 100000 in
set_option maxHeartbeats 4000000 in
theorem rone_r13 {b j : Nat} {k0 : Int} {h : Bool} (w : World) (Q : Exit → Act → World → Prop) {u0 u1 u2 u4 u5 u6 u7 u10 u11 u12 u13 u14 u15 u16 u17 u18 u19 u20 u21 u22 u23 u24 u25 u26 u27 u28 u29 u30 u31 u32 u33 u34 u35 u36 u37 u38 u39 u40 u41 u42 u43 u44 u45 u46 u47 u48 u49 u50 u51 u52 u53 u54 u55 u56 u57 u58 u59 u60 u61 u62 u63 u64 u65 u66 u67 u68 u69 u70 u71 u72 u73 u74 u75 u76 u77 u78 u79 u80 u81 u82 u83 u84 u85 u86 u87 u88 u89 u90 u91 u92 u93 u94 u95 u96 u97 u98 u99 u100 u101 u102 u103 u104 u105 u106 u107 u108 u109 u110 u111 u112 u113 u114 u115 u116 u117 u118 u119 u120 u121 u122 u123 u124 u125 u126 u127 u128 u129 u130 u131 u132 u133 u134 u135 u136 u137 u138 u139 : Value} (hc : w.cell? ⟨b, 0, none⟩ = some (.int .i64 k0))
    (k : ∀ (v64 v65 v66 v67 v68 v69 v70 v71 v72 : Value), Q .normal ⟨#[u0, u1, u2, .pointer (some ⟨b, 0, none⟩), u4, u5, u6, u7, .int .i64 (j : Nat), .bool h, u10, u11, u12, u13, u14, u15, u16, u17, u18, u19, u20, u21, u22, u23, u24, u25, u26, u27, u28, u29, u30, u31, u32, u33, u34, u35, u36, u37, u38, u39, u40, u41, u42, u43, u44, u45, u46, u47, u48, u49, u50, u51, u52, u53, u54, u55, u56, u57, u58, u59, u60, u61, u62, u63, v64, v65, v66, v67, v68, v69, v70, v71, v72, .bool (h && (decide (2 ≤ j) || (k0 == 14))), u74, u75, u76, u77, u78, u79, u80, u81, u82, u83, u84, u85, u86, u87, u88, u89, u90, u91, u92, u93, u94, u95, u96, u97, u98, u99, u100, u101, u102, u103, u104, u105, u106, u107, u108, u109, u110, u111, u112, u113, u114, u115, u116, u117, u118, u119, u120, u121, u122, u123, u124, u125, u126, u127, u128, u129, u130, u131, u132, u133, u134, u135, u136, u137, u138, u139], []⟩ w) : (partR Tryz.f34 13).wp Tryz.prog Q ⟨#[u0, u1, u2, .pointer (some ⟨b, 0, none⟩), u4, u5, u6, u7, .int .i64 (j : Nat), .bool h, u10, u11, u12, u13, u14, u15, u16, u17, u18, u19, u20, u21, u22, u23, u24, u25, u26, u27, u28, u29, u30, u31, u32, u33, u34, u35, u36, u37, u38, u39, u40, u41, u42, u43, u44, u45, u46, u47, u48, u49, u50, u51, u52, u53, u54, u55, u56, u57, u58, u59, u60, u61, u62, u63, u64, u65, u66, u67, u68, u69, u70, u71, u72, u73, u74, u75, u76, u77, u78, u79, u80, u81, u82, u83, u84, u85, u86, u87, u88, u89, u90, u91, u92, u93, u94, u95, u96, u97, u98, u99, u100, u101, u102, u103, u104, u105, u106, u107, u108, u109, u110, u111, u112, u113, u114, u115, u116, u117, u118, u119, u120, u121, u122, u123, u124, u125, u126, u127, u128, u129, u130, u131, u132, u133, u134, u135, u136, u137, u138, u139], []⟩ w := by
  
  have HK := Lib.hid k
  clear k
  conv => arg 2; whnf
  cases h
  · rw [Bool.false_and] at HK
    go_wp2_with fail
    exact HK.out _ _ _ _ _ _ _ _ _
  · rw [Bool.true_and] at HK
    by_cases h2 : 2 ≤ j
    · have d2 : decide ((2 : Int) ≤ (j : Int)) = true := decide_eq_true (by omega)
      rw [decide_eq_true h2, Bool.true_or] at HK
      clear h2
      go_wp2_with fail
      exact HK.out _ _ _ _ _ _ _ _ _
    · have d2 : decide ((2 : Int) ≤ (j : Int)) = false := decide_eq_false (by omega)
      rw [decide_eq_false h2, Bool.false_or] at HK
      clear h2
      cases d3 : (k0 == 14)
      · rw [d3] at HK
        go_wp2_with fail
        exact HK.out _ _ _ _ _ _ _ _ _
      · rw [d3] at HK
        go_wp2_with fail
        exact HK.out _ _ _ _ _ _ _ _ _

set_option maxRecDepth 100000 in
set_option maxHeartbeats 4000000 in
theorem rone_r14 {g gv ov n c j v : Nat} {sec q : Bool} (w : World) (Q : Exit → Act → World → Prop) {u1 u2 u3 u4 u5 u9 u10 u11 u12 u13 u14 u15 u16 u17 u18 u19 u20 u21 u22 u23 u24 u25 u26 u27 u28 u29 u30 u31 u32 u33 u34 u35 u36 u37 u38 u39 u40 u41 u42 u43 u44 u45 u46 u47 u48 u49 u50 u51 u52 u53 u54 u55 u56 u57 u58 u59 u60 u61 u62 u63 u64 u65 u66 u67 u68 u69 u70 u71 u72 u73 u74 u75 u76 u77 u78 u79 u80 u81 u82 u83 u84 u85 u86 u87 u88 u89 u90 u91 u92 u93 u94 u95 u96 u97 u98 u99 u100 u101 u102 u103 u104 u105 u106 u107 u108 u109 u110 u111 u112 u113 u114 u115 u116 u117 u118 u119 u120 u121 u122 u123 u124 u125 u126 u127 u128 u129 u130 u131 u132 u133 u134 u135 u136 u137 u138 u139 : Value} (hc : w.cell? ⟨g, j, none⟩ = some (.int .i64 (v : Nat))) (hv : w.cell? ⟨gv, ov + v * 3 + 1, none⟩ = some (.bool q)) (hj : j < 5) (hvn : v < n) (hn : n ≤ 100000)
    (k : ∀ (v74 v75 v76 v77 v78 v79 v80 v81 v82 v83 : Value), Q .normal ⟨#[.slice (some ⟨gv, ov, none⟩) n c, u1, u2, u3, u4, u5, .pointer (some ⟨g, 0, none⟩), .bool (sec || q), .int .i64 (j : Nat), u9, u10, u11, u12, u13, u14, u15, u16, u17, u18, u19, u20, u21, u22, u23, u24, u25, u26, u27, u28, u29, u30, u31, u32, u33, u34, u35, u36, u37, u38, u39, u40, u41, u42, u43, u44, u45, u46, u47, u48, u49, u50, u51, u52, u53, u54, u55, u56, u57, u58, u59, u60, u61, u62, u63, u64, u65, u66, u67, u68, u69, u70, u71, u72, u73, v74, v75, v76, v77, v78, v79, v80, v81, v82, v83, u84, u85, u86, u87, u88, u89, u90, u91, u92, u93, u94, u95, u96, u97, u98, u99, u100, u101, u102, u103, u104, u105, u106, u107, u108, u109, u110, u111, u112, u113, u114, u115, u116, u117, u118, u119, u120, u121, u122, u123, u124, u125, u126, u127, u128, u129, u130, u131, u132, u133, u134, u135, u136, u137, u138, u139], []⟩ w) : (partR Tryz.f34 14).wp Tryz.prog Q ⟨#[.slice (some ⟨gv, ov, none⟩) n c, u1, u2, u3, u4, u5, .pointer (some ⟨g, 0, none⟩), .bool sec, .int .i64 (j : Nat), u9, u10, u11, u12, u13, u14, u15, u16, u17, u18, u19, u20, u21, u22, u23, u24, u25, u26, u27, u28, u29, u30, u31, u32, u33, u34, u35, u36, u37, u38, u39, u40, u41, u42, u43, u44, u45, u46, u47, u48, u49, u50, u51, u52, u53, u54, u55, u56, u57, u58, u59, u60, u61, u62, u63, u64, u65, u66, u67, u68, u69, u70, u71, u72, u73, u74, u75, u76, u77, u78, u79, u80, u81, u82, u83, u84, u85, u86, u87, u88, u89, u90, u91, u92, u93, u94, u95, u96, u97, u98, u99, u100, u101, u102, u103, u104, u105, u106, u107, u108, u109, u110, u111, u112, u113, u114, u115, u116, u117, u118, u119, u120, u121, u122, u123, u124, u125, u126, u127, u128, u129, u130, u131, u132, u133, u134, u135, u136, u137, u138, u139], []⟩ w := by
  
  have HK := Lib.hid k
  clear k
  conv => arg 2; whnf
  have i0 : (0 : Int) ≤ (j : Int) := by omega
  have i1 : (j : Int) < 5 := by omega
  have i2 : IntKind.i64.wrap (j : Int) = j := by rw [IntKind.wrap_i64]; omega
  have i3 : j < 5 := hj
  
  have j0 : (0 : Int) ≤ (v : Int) := by omega
  have j1 : (v : Int) < (n : Int) := by omega
  have j2 : IntKind.i64.wrap (v : Int) = v := by rw [IntKind.wrap_i64]; omega
  cases sec
  · go_wp2_with fail
    exact HK.out _ _ _ _ _ _ _ _ _ _
  · go_wp2_with fail
    exact HK.out _ _ _ _ _ _ _ _ _ _

set_option maxRecDepth 100000 in
set_option maxHeartbeats 4000000 in
theorem rone_r18n {g j : Nat} {x : Int} (w : World) (Q : Exit → Act → World → Prop) {u0 u1 u2 u3 u4 u5 u7 u8 u9 u11 u12 u13 u14 u15 u16 u17 u18 u19 u20 u21 u22 u23 u24 u25 u26 u27 u28 u29 u30 u31 u32 u33 u34 u35 u36 u37 u38 u39 u40 u41 u42 u43 u44 u45 u46 u47 u48 u49 u50 u51 u52 u53 u54 u55 u56 u57 u58 u59 u60 u61 u62 u63 u64 u65 u66 u67 u68 u69 u70 u71 u72 u73 u74 u75 u76 u77 u78 u79 u80 u81 u82 u83 u84 u85 u86 u87 u88 u89 u90 u91 u92 u93 u94 u95 u96 u97 u98 u99 u100 u101 u102 u103 u104 u105 u106 u107 u108 u109 u110 u111 u112 u113 u114 u115 u116 u117 u118 u119 u120 u121 u122 u123 u124 u125 u126 u127 u128 u129 u130 u131 u132 u133 u134 u135 u136 u137 u138 u139 : Value} (hc : w.cell? ⟨g, j, none⟩ = some (.int .i64 x)) (hj : j < 5) (hx : decide (0 ≤ x) = false)
    (k : ∀ (v88 v89 v90 v91 v92 v93 v94 v95 v96 v97 v98 v99 v100 v101 v102 v103 v104 v105 v106 v107 v108 v109 v110 v111 v112 v113 v114 v115 v116 v117 v118 v119 v120 v121 v122 v123 : Value), Q .normal ⟨#[u0, u1, u2, u3, u4, u5, .pointer (some ⟨g, 0, none⟩), u7, u8, u9, .int .i64 (j : Nat), u11, u12, u13, u14, u15, u16, u17, u18, u19, u20, u21, u22, u23, u24, u25, u26, u27, u28, u29, u30, u31, u32, u33, u34, u35, u36, u37, u38, u39, u40, u41, u42, u43, u44, u45, u46, u47, u48, u49, u50, u51, u52, u53, u54, u55, u56, u57, u58, u59, u60, u61, u62, u63, u64, u65, u66, u67, u68, u69, u70, u71, u72, u73, u74, u75, u76, u77, u78, u79, u80, u81, u82, u83, u84, u85, u86, u87, v88, v89, v90, v91, v92, v93, v94, v95, v96, v97, v98, v99, v100, v101, v102, v103, v104, v105, v106, v107, v108, v109, v110, v111, v112, v113, v114, v115, v116, v117, v118, v119, v120, v121, v122, v123, .bool false, u125, u126, u127, u128, u129, u130, u131, u132, u133, u134, u135, u136, u137, u138, u139], []⟩ w) : (partR Tryz.f34 18).wp Tryz.prog Q ⟨#[u0, u1, u2, u3, u4, u5, .pointer (some ⟨g, 0, none⟩), u7, u8, u9, .int .i64 (j : Nat), u11, u12, u13, u14, u15, u16, u17, u18, u19, u20, u21, u22, u23, u24, u25, u26, u27, u28, u29, u30, u31, u32, u33, u34, u35, u36, u37, u38, u39, u40, u41, u42, u43, u44, u45, u46, u47, u48, u49, u50, u51, u52, u53, u54, u55, u56, u57, u58, u59, u60, u61, u62, u63, u64, u65, u66, u67, u68, u69, u70, u71, u72, u73, u74, u75, u76, u77, u78, u79, u80, u81, u82, u83, u84, u85, u86, u87, u88, u89, u90, u91, u92, u93, u94, u95, u96, u97, u98, u99, u100, u101, u102, u103, u104, u105, u106, u107, u108, u109, u110, u111, u112, u113, u114, u115, u116, u117, u118, u119, u120, u121, u122, u123, u124, u125, u126, u127, u128, u129, u130, u131, u132, u133, u134, u135, u136, u137, u138, u139], []⟩ w := by
  
  have HK := Lib.hid k
  clear k
  conv => arg 2; whnf
  have i0 : (0 : Int) ≤ (j : Int) := by omega
  have i1 : (j : Int) < 5 := by omega
  have i2 : IntKind.i64.wrap (j : Int) = j := by rw [IntKind.wrap_i64]; omega
  have i3 : j < 5 := hj
  
  go_wp2_with fail
  exact HK.out _ _ _ _ _ _ _ _ _ _ _ _ _ _ _ _ _ _ _ _ _ _ _ _ _ _ _ _ _ _ _ _ _ _ _ _

set_option maxRecDepth 100000 in
set_option maxHeartbeats 4000000 in
theorem rone_r18 {g gv ov n c j v : Nat} {sec : Bool} {x : KVar} (w : World) (Q : Exit → Act → World → Prop) {u1 u2 u3 u4 u5 u8 u9 u11 u12 u13 u14 u15 u16 u17 u18 u19 u20 u21 u22 u23 u24 u25 u26 u27 u28 u29 u30 u31 u32 u33 u34 u35 u36 u37 u38 u39 u40 u41 u42 u43 u44 u45 u46 u47 u48 u49 u50 u51 u52 u53 u54 u55 u56 u57 u58 u59 u60 u61 u62 u63 u64 u65 u66 u67 u68 u69 u70 u71 u72 u73 u74 u75 u76 u77 u78 u79 u80 u81 u82 u83 u84 u85 u86 u87 u88 u89 u90 u91 u92 u93 u94 u95 u96 u97 u98 u99 u100 u101 u102 u103 u104 u105 u106 u107 u108 u109 u110 u111 u112 u113 u114 u115 u116 u117 u118 u119 u120 u121 u122 u123 u124 u125 u126 u127 u128 u129 u130 u131 u132 u133 u134 u135 u136 u137 u138 u139 : Value} (hc : w.cell? ⟨g, j, none⟩ = some (.int .i64 (v : Nat))) (hm : w.cell? ⟨gv, ov + v * 3 + 2, none⟩ = some (.int .i64 x.mode)) (hs : w.cell? ⟨gv, ov + v * 3 + 1, none⟩ = some (.bool x.secret)) (hj : j < 5) (hvn : v < n) (hn : n ≤ 100000)
    (k : ∀ (v88 v89 v90 v91 v92 v93 v94 v95 v96 v97 v98 v99 v100 v101 v102 v103 v104 v105 v106 v107 v108 v109 v110 v111 v112 v113 v114 v115 v116 v117 v118 v119 v120 v121 v122 v123 : Value), Q .normal ⟨#[.slice (some ⟨gv, ov, none⟩) n c, u1, u2, u3, u4, u5, .pointer (some ⟨g, 0, none⟩), .bool sec, u8, u9, .int .i64 (j : Nat), u11, u12, u13, u14, u15, u16, u17, u18, u19, u20, u21, u22, u23, u24, u25, u26, u27, u28, u29, u30, u31, u32, u33, u34, u35, u36, u37, u38, u39, u40, u41, u42, u43, u44, u45, u46, u47, u48, u49, u50, u51, u52, u53, u54, u55, u56, u57, u58, u59, u60, u61, u62, u63, u64, u65, u66, u67, u68, u69, u70, u71, u72, u73, u74, u75, u76, u77, u78, u79, u80, u81, u82, u83, u84, u85, u86, u87, v88, v89, v90, v91, v92, v93, v94, v95, v96, v97, v98, v99, v100, v101, v102, v103, v104, v105, v106, v107, v108, v109, v110, v111, v112, v113, v114, v115, v116, v117, v118, v119, v120, v121, v122, v123, .bool (givenK x || (sec && !x.secret)), u125, u126, u127, u128, u129, u130, u131, u132, u133, u134, u135, u136, u137, u138, u139], []⟩ w) : (partR Tryz.f34 18).wp Tryz.prog Q ⟨#[.slice (some ⟨gv, ov, none⟩) n c, u1, u2, u3, u4, u5, .pointer (some ⟨g, 0, none⟩), .bool sec, u8, u9, .int .i64 (j : Nat), u11, u12, u13, u14, u15, u16, u17, u18, u19, u20, u21, u22, u23, u24, u25, u26, u27, u28, u29, u30, u31, u32, u33, u34, u35, u36, u37, u38, u39, u40, u41, u42, u43, u44, u45, u46, u47, u48, u49, u50, u51, u52, u53, u54, u55, u56, u57, u58, u59, u60, u61, u62, u63, u64, u65, u66, u67, u68, u69, u70, u71, u72, u73, u74, u75, u76, u77, u78, u79, u80, u81, u82, u83, u84, u85, u86, u87, u88, u89, u90, u91, u92, u93, u94, u95, u96, u97, u98, u99, u100, u101, u102, u103, u104, u105, u106, u107, u108, u109, u110, u111, u112, u113, u114, u115, u116, u117, u118, u119, u120, u121, u122, u123, u124, u125, u126, u127, u128, u129, u130, u131, u132, u133, u134, u135, u136, u137, u138, u139], []⟩ w := by
  
  have HK := Lib.hid k
  clear k
  conv => arg 2; whnf
  have i0 : (0 : Int) ≤ (j : Int) := by omega
  have i1 : (j : Int) < 5 := by omega
  have i2 : IntKind.i64.wrap (j : Int) = j := by rw [IntKind.wrap_i64]; omega
  have i3 : j < 5 := hj
  
  have j0 : (0 : Int) ≤ (v : Int) := by omega
  have j1 : (v : Int) < (n : Int) := by omega
  have j2 : IntKind.i64.wrap (v : Int) = v := by rw [IntKind.wrap_i64]; omega
  have hg : givenK x = (x.mode == 1 || x.mode == 2) := rfl
  rw [hg] at HK
  clear hg
  cases d1 : (x.mode == 1)
  · cases d2 : (x.mode == 2)
    · rw [d1, d2] at HK
      cases sec
      · go_wp2_with fail
        exact HK.out _ _ _ _ _ _ _ _ _ _ _ _ _ _ _ _ _ _ _ _ _ _ _ _ _ _ _ _ _ _ _ _ _ _ _ _
      · go_wp2_with fail
        exact HK.out _ _ _ _ _ _ _ _ _ _ _ _ _ _ _ _ _ _ _ _ _ _ _ _ _ _ _ _ _ _ _ _ _ _ _ _
    · rw [d1, d2] at HK
      go_wp2_with fail
      exact HK.out _ _ _ _ _ _ _ _ _ _ _ _ _ _ _ _ _ _ _ _ _ _ _ _ _ _ _ _ _ _ _ _ _ _ _ _
  · rw [d1] at HK
    go_wp2_with fail
    exact HK.out _ _ _ _ _ _ _ _ _ _ _ _ _ _ _ _ _ _ _ _ _ _ _ _ _ _ _ _ _ _ _ _ _ _ _ _

end Go.Proofs.YtjbabpnepjhllaaGreat

/- keysmithref19.One. -/
namespace Go.Proofs.YtjbabpnepjhllaaGreat
open Go.RowKit

def fiveV (o : KOp) : Array Value := #[.int .i64 o.d, .int .i64 o.e, .int .i64 o.a, .int .i64 o.b, .int .i64 o.c]
/-- What One has in memory. -/
structure OneW (wx : World) (b g : Nat) (Av : Option Addr) (nv cv : Nat) (vs : List KVar) (o : KOp) : Prop where
  box : OpBox wx b o
  lt : b < wx.heap.size
  arr : wx.heap[g]? = some (.cells (fiveV o) 90 (0, 0))
  vars : KVarsAt wx (fun q => q < wx.heap.size) (.slice Av nv cv) vs
theorem OneW.next {wx w' : World} {b g : Nat} {Av : Option Addr} {nv cv : Nat} {vs : List KVar} {o : KOp} (h : OneW wx b g Av nv cv vs o) (hb : Below wx.heap.size wx w') : OneW w' b g Av nv cv vs o :=
  ⟨h.box.next hb h.lt, Nat.lt_of_lt_of_le h.lt hb.size, (hb.block g (lt_of_block h.arr)).trans h.arr, rows_next h.vars hb⟩
theorem OneW.cell {wx : World} {b g : Nat} {Av : Option Addr} {nv cv : Nat} {vs : List KVar} {o : KOp} (h : OneW wx b g Av nv cv vs o) {j : Nat} {v : Value} (hj : (fiveV o)[j]? = some v) : wx.cell? ⟨g, j, none⟩ = some v := by
  simp only [World.cell?, h.arr]
  exact hj
theorem keep_blk' {w_ w' : World} {g : Nat} {o : Obj} (h : w_.heap[g]? = some o) (hb : Below w_.heap.size w_ w') : w'.heap[g]? = some o := (hb.block g (lt_of_block h)).trans h
theorem info5 : (Tryz.prog.info? 90).map (fun i => (i.zero, i.size, i.bytes)) = some (some (.agg #[.int .i64 0, .int .i64 0, .int .i64 0, .int .i64 0, .int .i64 0]), 5, 40) := by kernel_rfl
/-- Whether what it takes is secret, part by part. -/
def secL (vs : List KVar) (o : KOp) : List Bool := [(kHasD o.kind && (decide (2 ≤ 0) || (o.kind == 14))) && (varK vs o.d).secret, (kHasE o.kind && (decide (2 ≤ 1) || (o.kind == 14))) && (varK vs o.e).secret, (kHasA o.kind && (decide (2 ≤ 2) || (o.kind == 14))) && (varK vs o.a).secret, (kHasB o.kind && (decide (2 ≤ 3) || (o.kind == 14))) && (varK vs o.b).secret, (kHasC o.kind && (decide (2 ≤ 4) || (o.kind == 14))) && (varK vs o.c).secret]
theorem sany_next {l : List Bool} {k : Nat} {x b : Bool} (hb : b = (l.take k).any id) (hx : l[k]? = some x) : (b || x) = (l.take (k + 1)).any id := by
  subst hb
  rw [List.take_add_one, hx]
  simp
theorem sec_eq {vs : List KVar} {o : KOp} {n : Nat} (h : partsK n o = true) : (secL vs o).any id = secretK vs o := by
  unfold partsK at h
  simp only [Bool.and_eq_true] at h
  obtain ⟨hd, he, ha, hb, hc⟩ := h
  have key : ∀ {b : Bool} {x : Int}, partK n b x = true → ((b && (varK vs x).secret) = ([x].filter fun v => decide (0 ≤ v)).any fun v => (varK vs v).secret) := fun {b x} h => by
    cases b
    · unfold partK at h
      have hx : x = -1 := by simpa using h
      subst hx
      simp
    · unfold partK thereK at h
      have hx : 0 ≤ x := by
        simp only [if_true, Bool.and_eq_true, decide_eq_true_eq] at h
        exact h.1
      rw [List.filter_cons, if_pos (by simpa using hx)]
      simp
  have h3 : ∀ (p q : Int → Bool), ([o.a, o.b, o.c].filter p).any q = (([o.a].filter p).any q || (([o.b].filter p).any q || ([o.c].filter p).any q)) := by
    intro p q
    simp only [List.filter_cons, List.filter_nil]
    split <;> split <;> split <;> simp
  unfold secretK takesK
  rw [List.any_append, h3, ← key ha, ← key hb, ← key hc]
  simp only [secL, List.any_cons, List.any_nil, id, Bool.or_false, show decide (2 ≤ 0) = false from rfl, show decide (2 ≤ 1) = false from rfl, show decide (2 ≤ 2) = true from rfl, show decide (2 ≤ 3) = true from rfl, show decide (2 ≤ 4) = true from rfl, Bool.false_or, Bool.true_or, Bool.and_true]
  by_cases h14 : o.kind = 14
  · rw [if_pos h14, show (o.kind == 14) = true from beq_iff_eq.2 h14, show kHasD o.kind = true by rw [h14]; rfl, show kHasE o.kind = true by rw [h14]; rfl]
    simp only [List.any_cons, List.any_nil, Bool.or_false, Bool.true_and]
    generalize (varK vs o.d).secret = x1
    generalize (varK vs o.e).secret = x2
    generalize (kHasA o.kind && (varK vs o.a).secret) = x3
    generalize (kHasB o.kind && (varK vs o.b).secret) = x4
    generalize (kHasC o.kind && (varK vs o.c).secret) = x5
    cases x1 <;> cases x2 <;> cases x3 <;> cases x4 <;> cases x5 <;> rfl
  · rw [if_neg h14, show (o.kind == 14) = false from beq_eq_false_iff_ne.2 h14]
    simp
set_option maxRecDepth 100000 in
set_option maxHeartbeats 20000000 in
theorem rone_any (Av : Option Addr) (nv cv : Nat) (vs : List KVar) (o : KOp) (w : World) (F : Nat → Prop) (hv : KVarsAt w F (.slice Av nv cv) vs) (hF : ∀ k, F k → k < w.heap.size) (hn : vs.length ≤ 100000) :
    Calls Tryz.prog 34 #[.slice Av nv cv, .agg #[.int .i64 o.kind, .int .i64 o.d, .int .i64 o.e, .int .i64 o.a, .int .i64 o.b, .int .i64 o.c, .int .u64 o.imm]] w fun e w' => e = .returned (.bool (oneK vs o)) ∧ Below w.heap.size w w' := by
  have hnv := (rows_len hv).1
  obtain ⟨W, hW⟩ : ∃ W, W = w.alloc (.cells #[.int .i64 o.kind, .int .i64 o.d, .int .i64 o.e, .int .i64 o.a, .int .i64 o.b, .int .i64 o.c, .int .u64 o.imm] 43) := ⟨_, rfl⟩
  have hb : Below w.heap.size w W := by rw [hW]; exact (Below.refl _ _).alloc (Nat.le_refl _) _
  have hbk : W.heap[w.heap.size]? = some (.cells #[.int .i64 o.kind, .int .i64 o.d, .int .i64 o.e, .int .i64 o.a, .int .i64 o.b, .int .i64 o.c, .int .u64 o.imm] 43 (0, 0)) := by rw [hW]; exact heap_alloc_new w _
  have HBX := Lib.hid (OpBox.of hbk)
  have HLT := Lib.hid (lt_of_block hbk)
  have HW := Lib.hid hW
  have HB := Lib.hid hb
  have HVS := Lib.hid (show KVarsAt W (fun q => q < W.heap.size) (.slice Av nv cv) vs from Rows.mono (Rows.keep hv (SameOn.of_below hb hF)) fun q hq => Nat.lt_of_lt_of_le (hF q hq) hb.size)
  have HNV := Lib.hid hnv
  have n5 : nv ≤ 100000 := by omega
  clear hW hb hbk hv hF hn
  by_cases h17 : o.kind = 17
  · have HX := Lib.hid (show oneK vs o = needK nv o by unfold oneK; rw [if_pos h17, hnv])
    have d17 : (o.kind == 17) = true := by rw [beq_iff_eq]; exact h17
    have HND := Lib.hid (fun w1 => rneed_any Av nv cv o w1)
    clear hnv h17
    go_enter Tryz.func34, Tryz.ntmps34
    go_upto_region 1 with (first | go_in)
    rw [← HW.out]
    clear HW
    have c0 := HBX.out.kind
    have c1 := HBX.out.d
    have c2 := HBX.out.e
    have c3 := HBX.out.a
    have c4 := HBX.out.b
    have c5 := HBX.out.c
    have c6 := HBX.out.imm
    go_wp2_with (first | ((with_reducible refine (HND.out _).mono ?_); rintro e w1 ⟨rfl, hb1⟩; have HB1 := Lib.hid hb1; clear hb1) | go_in)
    go_ret
    exact ⟨ret_bool HX.out.symm, HB.out.trans (HB1.out.mono HB.out.size)⟩
  have d17 : (o.kind == 17) = false := beq_eq_false_iff_ne.2 h17
  have hx : oneK vs o = (decide (1 ≤ o.kind ∧ o.kind ≤ 16) && (numK o && (partsK nv o && (intoK vs (secretK vs o) o.d && (intoK vs (secretK vs o) o.e && ((decide (o.e < 0) || !(o.d == o.e)) && agreeK vs o)))))) := by
    unfold oneK
    rw [if_neg h17, ← hnv, ← Bool.and_assoc, ← Bool.decide_and]
  have HX := Lib.hid hx
  have HSH := Lib.hid (fun w1 => rshape_any o.kind w1)
  have HNM := Lib.hid (fun w1 => rnumber_any o w1)
  obtain ⟨sh, hsh⟩ : ∃ q, q = (if 1 ≤ o.kind ∧ o.kind ≤ 16 then shapeK o.kind else -1) := ⟨_, rfl⟩
  rw [← hsh] at HSH
  have HSV := Lib.hid hsh
  clear hsh
  clear h17 hnv hx
  go_enter Tryz.func34, Tryz.ntmps34
  go_upto_region 1 with (first | go_in)
  rw [← HW.out]
  clear HW
  have c0 := HBX.out.kind
  have c1 := HBX.out.d
  have c2 := HBX.out.e
  have c3 := HBX.out.a
  have c4 := HBX.out.b
  have c5 := HBX.out.c
  have c6 := HBX.out.imm
  go_upto_region 3 with fail
  go_cut [5, 6] from 17 to 21 (fun a5 a6 wx => ∃ g : Nat, a5 = .int .i64 sh ∧ a6 = .pointer (some ⟨g, 0, none⟩) ∧ OneW wx w.heap.size g Av nv cv vs o ∧ Below W.heap.size W wx)
  case first =>
    clear c0 c1 c2 c3 c4 c5 c6 d17
    obtain ⟨x0, hx0⟩ : ∃ q, q = W.drew := ⟨_, rfl⟩
    have hSx0 : Below W.heap.size W x0 := by rw [hx0]; exact (Below.refl _ _).drew
    refine wp_region_branch (Below W.heap.size W) (by kernel_rfl) (by kernel_rfl) (hx0 ▸ hSx0) ?_
    rw [← hx0]
    clear hx0
    show runB _ _ _ _ 8 [0, 1, 2, 3, 4, 5, 6, 7] _ _
    refine runB_at 0 (v := ?_) (by rfl) (by rfl) (by rfl) (by kernel_rfl) (by rfl) ?_ ?_
    rotate_left
    focus (intro w_ hw_; have hb_ := HBX.out.next hw_ HLT.out; have f0_ := hb_.kind; have f1_ := hb_.d; have f2_ := hb_.e; have f3_ := hb_.a; have f4_ := hb_.b; have f5_ := hb_.c; have f6_ := hb_.imm; go_simp; (try with_reducible rfl); done)
    (try dsimp only [Act.put])
    show runB _ _ _ _ 7 [1, 2, 3, 4, 5, 6, 7] _ _
    try simp only [List.setIfInBounds_toArray, List.set_cons_zero, List.set_cons_succ]
    refine runB_at 1 (v := ?_) (by rfl) (by rfl) (by rfl) (by kernel_rfl) (by rfl) ?_ ?_
    rotate_left
    focus (intro w_ hw_; have hb_ := HBX.out.next hw_ HLT.out; have f0_ := hb_.kind; have f1_ := hb_.d; have f2_ := hb_.e; have f3_ := hb_.a; have f4_ := hb_.b; have f5_ := hb_.c; have f6_ := hb_.imm; go_simp; (try with_reducible rfl); done)
    (try dsimp only [Act.put])
    show runB _ _ _ _ 6 [2, 3, 4, 5, 6, 7] _ _
    try simp only [List.setIfInBounds_toArray, List.set_cons_zero, List.set_cons_succ]
    refine runB_at 3 (v := ?_) (by rfl) (by rfl) (by rfl) (by kernel_rfl) (by rfl) ?_ ?_
    rotate_left
    focus (intro w_ hw_; have hb_ := HBX.out.next hw_ HLT.out; have f0_ := hb_.kind; have f1_ := hb_.d; have f2_ := hb_.e; have f3_ := hb_.a; have f4_ := hb_.b; have f5_ := hb_.c; have f6_ := hb_.imm; go_simp; (try with_reducible rfl); done)
    (try dsimp only [Act.put])
    show runB _ _ _ _ 5 [2, 4, 5, 6, 7] _ _
    try simp only [List.setIfInBounds_toArray, List.set_cons_zero, List.set_cons_succ]
    refine runB_two 2 5 (by kernel_rfl) (by kernel_rfl) (by rfl) (by rfl) (by rfl) (by rfl) ?_ ?_
    · refine tdoes_call (f := ?_) (args := ?_) (w1 := ?_) ?_ ?_
      rotate_left 3
      focus (go_simp; refine ⟨⟨?_, ?_⟩, ?_⟩ <;> with_reducible rfl)
      refine (HSH.out x0).mono ?_
      rintro e_ y_ ⟨rfl, hy_⟩
      subst y_
      refine ⟨_, rfl, hSx0, ?_⟩
      (try dsimp only [Act.put])
      try simp only [List.setIfInBounds_toArray, List.set_cons_zero, List.set_cons_succ]
      show runB _ _ _ _ 4 [4, 5, 6, 7] _ _
      refine runB_two 4 5 (by kernel_rfl) (by kernel_rfl) (by rfl) (by rfl) (by rfl) (by rfl) ?_ ?_
      · refine tdoes_call (f := ?_) (args := ?_) (w1 := ?_) ?_ ?_
        rotate_left 3
        focus (go_simp; refine ⟨⟨?_, ?_⟩, ?_⟩ <;> with_reducible rfl)
        refine (rfields_any o x0).mono ?_
        rintro e_ x1 ⟨rfl, hb_⟩
        have hSx1 := hSx0.trans (hb_.mono hSx0.size)
        refine ⟨_, rfl, hSx1, ?_⟩
        (try dsimp only [Act.put])
        try simp only [List.setIfInBounds_toArray, List.set_cons_zero, List.set_cons_succ]
        show runB _ _ _ _ 3 [5, 6, 7] _ _
        refine runB_one 5 (by kernel_rfl) (by kernel_rfl) (by rfl) (by rfl) ?_
        refine tdoes_op (w1 := x1.alloc (.cells #[.int .i64 0, .int .i64 0, .int .i64 0, .int .i64 0, .int .i64 0] 90)) (v := .pointer (some ⟨x1.heap.size, 0, none⟩)) (by go_simp) ⟨hSx1.trans (((Below.refl _ _).alloc (Nat.le_refl _) _).mono hSx1.size), ?_⟩
        (try dsimp only [Act.put])
        try simp only [List.setIfInBounds_toArray, List.set_cons_zero, List.set_cons_succ]
        obtain ⟨x2, h_⟩ : ∃ q, q = x1.alloc (.cells #[.int .i64 0, .int .i64 0, .int .i64 0, .int .i64 0, .int .i64 0] 90) := ⟨_, rfl⟩
        obtain ⟨g, hg_⟩ : ∃ q, q = x1.heap.size := ⟨_, rfl⟩
        have hb_ : Below x1.heap.size x1 x2 := by rw [h_]; exact (Below.refl _ _).alloc (Nat.le_refl _) _
        have hG : x2.heap[g]? = some (.cells #[.int .i64 0, .int .i64 0, .int .i64 0, .int .i64 0, .int .i64 0] 90 (0, 0)) := by rw [h_, hg_]; exact heap_alloc_new x1 _
        have hGE : W.heap.size ≤ g := by rw [hg_]; exact hSx1.size
        have hSx2 := hSx1.trans (hb_.mono hSx1.size)
        rw [← h_, ← hg_]
        clear h_ hg_ hb_
        show runB _ _ _ _ 2 [6, 7] _ _
        refine runB_at 6 (v := ?_) (by rfl) (by rfl) (by rfl) (by kernel_rfl) (by rfl) ?_ ?_
        rotate_left
        focus (intro w_ hw_; have hb_ := HBX.out.next hw_ HLT.out; have f0_ := hb_.kind; have f1_ := hb_.d; have f2_ := hb_.e; have f3_ := hb_.a; have f4_ := hb_.b; have f5_ := hb_.c; have f6_ := hb_.imm; go_simp; (try with_reducible rfl); done)
        (try dsimp only [Act.put])
        show runB _ _ _ _ 1 [7] _ _
        try simp only [List.setIfInBounds_toArray, List.set_cons_zero, List.set_cons_succ]
        refine runB_one 7 (by kernel_rfl) (by kernel_rfl) (by rfl) (by rfl) ?_
        refine tdoes_skip (w1 := x2.setRow g (fiveV o)) (sep_store 90 _ _ rfl g (fiveV o) rfl rfl 90 #[.int .i64 0, .int .i64 0, .int .i64 0, .int .i64 0, .int .i64 0] hG (by kernel_rfl) (by rfl) (by kernel_rfl)) ⟨below_setRow hSx2 hGE _, ?_⟩
        show runB _ _ _ _ 0 [] _ _
        refine runB_nil ?_
        (try dsimp only [Act.put])
        try simp only [List.setIfInBounds_toArray, List.set_cons_zero, List.set_cons_succ]
        go_wp2_with fail
        go_meet
        have hbf := below_setRow hSx2 hGE (fiveV o)
        exact ⟨g, rfl, rfl, ⟨HBX.out.next hbf HLT.out, Nat.lt_of_lt_of_le HLT.out hbf.size, setRow_heap _ _ _ _ _ _ hG, rows_next HVS.out hbf⟩, hbf⟩
      · refine tdoes_op (w1 := x0.alloc (.cells #[.int .i64 0, .int .i64 0, .int .i64 0, .int .i64 0, .int .i64 0] 90)) (v := .pointer (some ⟨x0.heap.size, 0, none⟩)) (by go_simp) ⟨hSx0.trans (((Below.refl _ _).alloc (Nat.le_refl _) _).mono hSx0.size), ?_⟩
        (try dsimp only [Act.put])
        try simp only [List.setIfInBounds_toArray, List.set_cons_zero, List.set_cons_succ]
        obtain ⟨x1, h_⟩ : ∃ q, q = x0.alloc (.cells #[.int .i64 0, .int .i64 0, .int .i64 0, .int .i64 0, .int .i64 0] 90) := ⟨_, rfl⟩
        obtain ⟨g, hg_⟩ : ∃ q, q = x0.heap.size := ⟨_, rfl⟩
        have hb_ : Below x0.heap.size x0 x1 := by rw [h_]; exact (Below.refl _ _).alloc (Nat.le_refl _) _
        have hG : x1.heap[g]? = some (.cells #[.int .i64 0, .int .i64 0, .int .i64 0, .int .i64 0, .int .i64 0] 90 (0, 0)) := by rw [h_, hg_]; exact heap_alloc_new x0 _
        have hGE : W.heap.size ≤ g := by rw [hg_]; exact hSx0.size
        have hSx1 := hSx0.trans (hb_.mono hSx0.size)
        rw [← h_, ← hg_]
        clear h_ hg_ hb_
        show runB _ _ _ _ 3 [4, 6, 7] _ _
        refine runB_one 4 (by kernel_rfl) (by kernel_rfl) (by rfl) (by rfl) ?_
        refine tdoes_call (f := ?_) (args := ?_) (w1 := ?_) ?_ ?_
        rotate_left 3
        focus (go_simp; refine ⟨⟨?_, ?_⟩, ?_⟩ <;> with_reducible rfl)
        refine (rfields_any o x1).mono ?_
        rintro e_ x2 ⟨rfl, hb_⟩
        have hSx2 := hSx1.trans (hb_.mono hSx1.size)
        refine ⟨_, rfl, hSx2, ?_⟩
        (try dsimp only [Act.put])
        try simp only [List.setIfInBounds_toArray, List.set_cons_zero, List.set_cons_succ]
        replace hG := keep_blk' hG hb_
        show runB _ _ _ _ 2 [6, 7] _ _
        refine runB_at 6 (v := ?_) (by rfl) (by rfl) (by rfl) (by kernel_rfl) (by rfl) ?_ ?_
        rotate_left
        focus (intro w_ hw_; have hb_ := HBX.out.next hw_ HLT.out; have f0_ := hb_.kind; have f1_ := hb_.d; have f2_ := hb_.e; have f3_ := hb_.a; have f4_ := hb_.b; have f5_ := hb_.c; have f6_ := hb_.imm; go_simp; (try with_reducible rfl); done)
        (try dsimp only [Act.put])
        show runB _ _ _ _ 1 [7] _ _
        try simp only [List.setIfInBounds_toArray, List.set_cons_zero, List.set_cons_succ]
        refine runB_one 7 (by kernel_rfl) (by kernel_rfl) (by rfl) (by rfl) ?_
        refine tdoes_skip (w1 := x2.setRow g (fiveV o)) (sep_store 90 _ _ rfl g (fiveV o) rfl rfl 90 #[.int .i64 0, .int .i64 0, .int .i64 0, .int .i64 0, .int .i64 0] hG (by kernel_rfl) (by rfl) (by kernel_rfl)) ⟨below_setRow hSx2 hGE _, ?_⟩
        show runB _ _ _ _ 0 [] _ _
        refine runB_nil ?_
        (try dsimp only [Act.put])
        try simp only [List.setIfInBounds_toArray, List.set_cons_zero, List.set_cons_succ]
        go_wp2_with fail
        go_meet
        have hbf := below_setRow hSx2 hGE (fiveV o)
        exact ⟨g, rfl, rfl, ⟨HBX.out.next hbf HLT.out, Nat.lt_of_lt_of_le HLT.out hbf.size, setRow_heap _ _ _ _ _ _ hG, rows_next HVS.out hbf⟩, hbf⟩
    · refine tdoes_op (w1 := x0.alloc (.cells #[.int .i64 0, .int .i64 0, .int .i64 0, .int .i64 0, .int .i64 0] 90)) (v := .pointer (some ⟨x0.heap.size, 0, none⟩)) (by go_simp) ⟨hSx0.trans (((Below.refl _ _).alloc (Nat.le_refl _) _).mono hSx0.size), ?_⟩
      (try dsimp only [Act.put])
      try simp only [List.setIfInBounds_toArray, List.set_cons_zero, List.set_cons_succ]
      obtain ⟨x1, h_⟩ : ∃ q, q = x0.alloc (.cells #[.int .i64 0, .int .i64 0, .int .i64 0, .int .i64 0, .int .i64 0] 90) := ⟨_, rfl⟩
      obtain ⟨g, hg_⟩ : ∃ q, q = x0.heap.size := ⟨_, rfl⟩
      have hb_ : Below x0.heap.size x0 x1 := by rw [h_]; exact (Below.refl _ _).alloc (Nat.le_refl _) _
      have hG : x1.heap[g]? = some (.cells #[.int .i64 0, .int .i64 0, .int .i64 0, .int .i64 0, .int .i64 0] 90 (0, 0)) := by rw [h_, hg_]; exact heap_alloc_new x0 _
      have hGE : W.heap.size ≤ g := by rw [hg_]; exact hSx0.size
      have hSx1 := hSx0.trans (hb_.mono hSx0.size)
      rw [← h_, ← hg_]
      clear h_ hg_ hb_
      show runB _ _ _ _ 4 [2, 4, 6, 7] _ _
      refine runB_one 2 (by kernel_rfl) (by kernel_rfl) (by rfl) (by rfl) ?_
      refine tdoes_call (f := ?_) (args := ?_) (w1 := ?_) ?_ ?_
      rotate_left 3
      focus (go_simp; refine ⟨⟨?_, ?_⟩, ?_⟩ <;> with_reducible rfl)
      refine (HSH.out x1).mono ?_
      rintro e_ y_ ⟨rfl, hy_⟩
      subst y_
      refine ⟨_, rfl, hSx1, ?_⟩
      (try dsimp only [Act.put])
      try simp only [List.setIfInBounds_toArray, List.set_cons_zero, List.set_cons_succ]
      show runB _ _ _ _ 3 [4, 6, 7] _ _
      refine runB_one 4 (by kernel_rfl) (by kernel_rfl) (by rfl) (by rfl) ?_
      refine tdoes_call (f := ?_) (args := ?_) (w1 := ?_) ?_ ?_
      rotate_left 3
      focus (go_simp; refine ⟨⟨?_, ?_⟩, ?_⟩ <;> with_reducible rfl)
      refine (rfields_any o x1).mono ?_
      rintro e_ x2 ⟨rfl, hb_⟩
      have hSx2 := hSx1.trans (hb_.mono hSx1.size)
      refine ⟨_, rfl, hSx2, ?_⟩
      (try dsimp only [Act.put])
      try simp only [List.setIfInBounds_toArray, List.set_cons_zero, List.set_cons_succ]
      replace hG := keep_blk' hG hb_
      show runB _ _ _ _ 2 [6, 7] _ _
      refine runB_at 6 (v := ?_) (by rfl) (by rfl) (by rfl) (by kernel_rfl) (by rfl) ?_ ?_
      rotate_left
      focus (intro w_ hw_; have hb_ := HBX.out.next hw_ HLT.out; have f0_ := hb_.kind; have f1_ := hb_.d; have f2_ := hb_.e; have f3_ := hb_.a; have f4_ := hb_.b; have f5_ := hb_.c; have f6_ := hb_.imm; go_simp; (try with_reducible rfl); done)
      (try dsimp only [Act.put])
      show runB _ _ _ _ 1 [7] _ _
      try simp only [List.setIfInBounds_toArray, List.set_cons_zero, List.set_cons_succ]
      refine runB_one 7 (by kernel_rfl) (by kernel_rfl) (by rfl) (by rfl) ?_
      refine tdoes_skip (w1 := x2.setRow g (fiveV o)) (sep_store 90 _ _ rfl g (fiveV o) rfl rfl 90 #[.int .i64 0, .int .i64 0, .int .i64 0, .int .i64 0, .int .i64 0] hG (by kernel_rfl) (by rfl) (by kernel_rfl)) ⟨below_setRow hSx2 hGE _, ?_⟩
      show runB _ _ _ _ 0 [] _ _
      refine runB_nil ?_
      (try dsimp only [Act.put])
      try simp only [List.setIfInBounds_toArray, List.set_cons_zero, List.set_cons_succ]
      go_wp2_with fail
      go_meet
      have hbf := below_setRow hSx2 hGE (fiveV o)
      exact ⟨g, rfl, rfl, ⟨HBX.out.next hbf HLT.out, Nat.lt_of_lt_of_le HLT.out hbf.size, setRow_heap _ _ _ _ _ _ hG, rows_next HVS.out hbf⟩, hbf⟩
  case rest =>
  obtain ⟨g, rfl, rfl, how, hbw⟩ := hcut
  obtain ⟨w1, hw1⟩ : ∃ q : World, q = wc := ⟨_, rfl⟩
  rw [← hw1] at how hbw ⊢
  have HO := Lib.hid how
  have HBW := Lib.hid hbw
  clear how hbw c0 c1 c2 c3 c4 c5 c6 HSH hw1 d17
  by_cases h16 : 1 ≤ o.kind ∧ o.kind ≤ 16
  rotate_left
  · have HX := Lib.hid (show oneK vs o = false by rw [HX.out, decide_eq_false h16]; rfl)
    rw [show sh = -1 by rw [HSV.out, if_neg h16]]
    clear h16
    go_wp2
    go_ret
    exact ⟨ret_bool HX.out.symm, HB.out.trans (HBW.out.mono HB.out.size)⟩
  have hx := HX.out
  rw [decide_eq_true h16, Bool.true_and] at hx
  have HSB := Lib.hid (shape_bits h16)
  have H16 := Lib.hid h16
  have hsv : shapeK o.kind = sh := by rw [HSV.out, if_pos h16]
  rw [hsv] at HSB
  have d2 : decide (sh < 0) = false := decide_eq_false (by have := HSB.out.1; omega)
  have c0 := HO.out.box.kind
  have c1 := HO.out.box.d
  have c2 := HO.out.box.e
  have c3 := HO.out.box.a
  have c4 := HO.out.box.b
  have c5 := HO.out.box.c
  have c6 := HO.out.box.imm
  cases hnk : numK o
  · have HX := Lib.hid (show oneK vs o = false by rw [hx, hnk]; rfl)
    rw [hnk] at HNM
    clear hx h16 hnk hsv
    go_wp2_with (first | ((with_reducible refine (HNM.out _).mono ?_); rintro e w2 ⟨rfl, hb2⟩; have HB2 := Lib.hid hb2; clear hb2) | go_in)
    go_ret
    exact ⟨ret_bool HX.out.symm, HB.out.trans ((HBW.out.trans (HB2.out.mono HBW.out.size)).mono HB.out.size)⟩
  rw [hnk, Bool.true_and] at hx
  rw [hnk] at HNM
  have HX := Lib.hid hx
  clear hx h16 hnk hsv
  go_upto_region 6 with (first | ((with_reducible refine (HNM.out _).mono ?_); rintro e w2 ⟨rfl, hb2⟩; have HO2 := Lib.hid (HO.out.next hb2); have HB2 := Lib.hid (HBW.out.trans (hb2.mono HBW.out.size)); clear hb2) | go_in)
  clear c0 c1 c2 c3 c4 c5 c6
  go_wp2
  go_loopw [4, 7, 8, 9] (fun _ s7 s8 _ wr => ∃ (j : Nat) (sec : Bool), j ≤ 5 ∧ s8 = .int .i64 (j : Nat) ∧ s7 = .bool sec ∧ Below w2.heap.size w2 wr ∧ Hid (((prtL nv o).take j).all id = true ∧ sec = ((secL vs o).take j).any id)) (fun _ _ s8 _ _ => 5 - (intOf s8).toNat)
  case atStart => exact ⟨0, false, by omega, rfl, rfl, Below.refl _ _, Lib.hid ⟨rfl, rfl⟩⟩
  case round =>
    obtain ⟨j, sec, hj5, rfl, rfl, hbr, HT⟩ := hrel
    have HB3 := Lib.hid hbr
    have HBR := Lib.hid (HB2.out.trans (hbr.mono HB2.out.size))
    have HWR := Lib.hid (HO2.out.next hbr)
    clear hbr
    obtain rfl | rfl | rfl | rfl | rfl | rfl : j = 0 ∨ j = 1 ∨ j = 2 ∨ j = 3 ∨ j = 4 ∨ j = 5 := by omega
    · clear hj5
      have hc0 := HWR.out.cell (j := 0) (v := .int .i64 o.d) rfl
      have HC0 := Lib.hid hc0
      clear hc0
      go_upto_region 10 with fail
      refine wp_code (c := partR Tryz.f34 10) (by kernel_rfl) ?_
      refine rone_r10 (s := sh) (i := 0) _ _ HSB.out.1 (by omega) ?_
      intro a33 a34 a35 a36 a37 a38
      rw [HSB.out.2.1]
      go_upto_region 11 with fail
      refine wp_code (c := partR Tryz.f34 11) (by kernel_rfl) ?_
      refine rone_r11 (n := nv) (c := cv) (A := Av) (x := o.d) (h := kHasD o.kind) (g := g) (j := 0) _ _ HC0.out (by omega) ?_
      intro b39 b40 b41 b42 b43 b44 b45 b46 b47 b48 b49 b50 b51 b52 b53 b54 b55 b56 b57 b58 b59 b60 b61 b62
      cases hq : partK nv (kHasD o.kind) o.d
      · have HN := Lib.hid (all_stop (l := prtL nv o) (k := 0) (by rw [← hq]; rfl))
        rw [show (!false) = true from rfl]
        clear hq
        go_wp2
        go_ret
        refine ⟨ret_bool ?_, HB.out.trans (HBR.out.mono HB.out.size)⟩
        rw [HX.out, partsK_split]
        rw [show ([partK nv (kHasD o.kind) o.d, partK nv (kHasE o.kind) o.e, partK nv (kHasA o.kind) o.a, partK nv (kHasB o.kind) o.b, partK nv (kHasC o.kind) o.c] : List Bool) = prtL nv o from rfl, HN.out]
        rfl
      · have HN := Lib.hid (all_next (l := prtL nv o) (k := 0) HT.out.1 rfl hq)
        rw [show (!true) = false from rfl]
        have hpi := part_in hq
        clear hq
        go_upto_region 13 with fail
        refine wp_code (c := partR Tryz.f34 13) (by kernel_rfl) ?_
        refine rone_r13 (k0 := o.kind) (b := w.heap.size) (h := kHasD o.kind) (j := 0) _ _ HWR.out.box.kind ?_
        intro c64 c65 c66 c67 c68 c69 c70 c71 c72
        cases htk : (kHasD o.kind && (decide (2 ≤ 0) || (o.kind == 14)))
        · have HSE := Lib.hid (show sec = ((secL vs o).take (0 + 1)).any id by
            have h := sany_next (l := secL vs o) (k := 0) HT.out.2 (x := false) (by rw [← Bool.false_and (varK vs o.d).secret, ← htk]; rfl)
            rw [Bool.or_false] at h
            exact h)
          clear htk hpi
          go_wp2
          go_roundw
          case rel => exact ⟨0 + 1, sec, by omega, rfl, rfl, HB3.out, Lib.hid ⟨HN.out, HSE.out⟩⟩
          case measure => simp [intOf]
        · have hb : kHasD o.kind = true := by cases hh : kHasD o.kind <;> simp_all
          obtain ⟨v, hv⟩ : ∃ v : Nat, o.d = v := ⟨o.d.toNat, by rcases hpi with h | h; omega; rw [hb] at h; exact absurd h.1 (by decide)⟩
          have hvn : v < nv := by rcases hpi with h | h; omega; rw [hb] at h; exact absurd h.1 (by decide)
          obtain ⟨y, hy⟩ : ∃ y, vs[v]? = some y := ⟨_, List.getElem?_eq_getElem (by have := HNV.out; omega)⟩
          obtain ⟨gv, ov, hA, hg, _, z1, _⟩ := HWR.out.vars.at_ hy
          subst hA
          have hcv := HC0.out
          rw [hv] at hcv
          have HSE := Lib.hid (show (sec || y.secret) = ((secL vs o).take (0 + 1)).any id from sany_next (l := secL vs o) (k := 0) HT.out.2 (by
            show some ((kHasD o.kind && (decide (2 ≤ 0) || (o.kind == 14))) && (varK vs o.d).secret) = _
            rw [htk, Bool.true_and, hv]
            unfold varK
            rw [Int.toNat_natCast, List.getD_eq_getElem?_getD, hy]
            rfl))
          clear htk hpi hb hv hy hg
          go_upto_region 14 with fail
          refine wp_code (c := partR Tryz.f34 14) (by kernel_rfl) ?_
          refine rone_r14 (gv := gv) (ov := ov) (n := nv) (c := cv) (g := g) (j := 0) (v := v) (sec := sec) (q := y.secret) _ _ hcv z1 (by omega) hvn n5 ?_
          intro d74 d75 d76 d77 d78 d79 d80 d81 d82 d83
          generalize (sec || y.secret) = sec2 at HSE ⊢
          go_wp2
          go_roundw
          case rel => exact ⟨0 + 1, sec2, by omega, rfl, rfl, HB3.out, Lib.hid ⟨HN.out, HSE.out⟩⟩
          case measure => simp [intOf]
    · clear hj5
      have hc0 := HWR.out.cell (j := 1) (v := .int .i64 o.e) rfl
      have HC0 := Lib.hid hc0
      clear hc0
      go_upto_region 10 with fail
      refine wp_code (c := partR Tryz.f34 10) (by kernel_rfl) ?_
      refine rone_r10 (s := sh) (i := 1) _ _ HSB.out.1 (by omega) ?_
      intro a33 a34 a35 a36 a37 a38
      rw [HSB.out.2.2.1]
      go_upto_region 11 with fail
      refine wp_code (c := partR Tryz.f34 11) (by kernel_rfl) ?_
      refine rone_r11 (n := nv) (c := cv) (A := Av) (x := o.e) (h := kHasE o.kind) (g := g) (j := 1) _ _ HC0.out (by omega) ?_
      intro b39 b40 b41 b42 b43 b44 b45 b46 b47 b48 b49 b50 b51 b52 b53 b54 b55 b56 b57 b58 b59 b60 b61 b62
      cases hq : partK nv (kHasE o.kind) o.e
      · have HN := Lib.hid (all_stop (l := prtL nv o) (k := 1) (by rw [← hq]; rfl))
        rw [show (!false) = true from rfl]
        clear hq
        go_wp2
        go_ret
        refine ⟨ret_bool ?_, HB.out.trans (HBR.out.mono HB.out.size)⟩
        rw [HX.out, partsK_split]
        rw [show ([partK nv (kHasD o.kind) o.d, partK nv (kHasE o.kind) o.e, partK nv (kHasA o.kind) o.a, partK nv (kHasB o.kind) o.b, partK nv (kHasC o.kind) o.c] : List Bool) = prtL nv o from rfl, HN.out]
        rfl
      · have HN := Lib.hid (all_next (l := prtL nv o) (k := 1) HT.out.1 rfl hq)
        rw [show (!true) = false from rfl]
        have hpi := part_in hq
        clear hq
        go_upto_region 13 with fail
        refine wp_code (c := partR Tryz.f34 13) (by kernel_rfl) ?_
        refine rone_r13 (k0 := o.kind) (b := w.heap.size) (h := kHasE o.kind) (j := 1) _ _ HWR.out.box.kind ?_
        intro c64 c65 c66 c67 c68 c69 c70 c71 c72
        cases htk : (kHasE o.kind && (decide (2 ≤ 1) || (o.kind == 14)))
        · have HSE := Lib.hid (show sec = ((secL vs o).take (1 + 1)).any id by
            have h := sany_next (l := secL vs o) (k := 1) HT.out.2 (x := false) (by rw [← Bool.false_and (varK vs o.e).secret, ← htk]; rfl)
            rw [Bool.or_false] at h
            exact h)
          clear htk hpi
          go_wp2
          go_roundw
          case rel => exact ⟨1 + 1, sec, by omega, rfl, rfl, HB3.out, Lib.hid ⟨HN.out, HSE.out⟩⟩
          case measure => simp [intOf]
        · have hb : kHasE o.kind = true := by cases hh : kHasE o.kind <;> simp_all
          obtain ⟨v, hv⟩ : ∃ v : Nat, o.e = v := ⟨o.e.toNat, by rcases hpi with h | h; omega; rw [hb] at h; exact absurd h.1 (by decide)⟩
          have hvn : v < nv := by rcases hpi with h | h; omega; rw [hb] at h; exact absurd h.1 (by decide)
          obtain ⟨y, hy⟩ : ∃ y, vs[v]? = some y := ⟨_, List.getElem?_eq_getElem (by have := HNV.out; omega)⟩
          obtain ⟨gv, ov, hA, hg, _, z1, _⟩ := HWR.out.vars.at_ hy
          subst hA
          have hcv := HC0.out
          rw [hv] at hcv
          have HSE := Lib.hid (show (sec || y.secret) = ((secL vs o).take (1 + 1)).any id from sany_next (l := secL vs o) (k := 1) HT.out.2 (by
            show some ((kHasE o.kind && (decide (2 ≤ 1) || (o.kind == 14))) && (varK vs o.e).secret) = _
            rw [htk, Bool.true_and, hv]
            unfold varK
            rw [Int.toNat_natCast, List.getD_eq_getElem?_getD, hy]
            rfl))
          clear htk hpi hb hv hy hg
          go_upto_region 14 with fail
          refine wp_code (c := partR Tryz.f34 14) (by kernel_rfl) ?_
          refine rone_r14 (gv := gv) (ov := ov) (n := nv) (c := cv) (g := g) (j := 1) (v := v) (sec := sec) (q := y.secret) _ _ hcv z1 (by omega) hvn n5 ?_
          intro d74 d75 d76 d77 d78 d79 d80 d81 d82 d83
          generalize (sec || y.secret) = sec2 at HSE ⊢
          go_wp2
          go_roundw
          case rel => exact ⟨1 + 1, sec2, by omega, rfl, rfl, HB3.out, Lib.hid ⟨HN.out, HSE.out⟩⟩
          case measure => simp [intOf]
    · clear hj5
      have hc0 := HWR.out.cell (j := 2) (v := .int .i64 o.a) rfl
      have HC0 := Lib.hid hc0
      clear hc0
      go_upto_region 10 with fail
      refine wp_code (c := partR Tryz.f34 10) (by kernel_rfl) ?_
      refine rone_r10 (s := sh) (i := 2) _ _ HSB.out.1 (by omega) ?_
      intro a33 a34 a35 a36 a37 a38
      rw [HSB.out.2.2.2.1]
      go_upto_region 11 with fail
      refine wp_code (c := partR Tryz.f34 11) (by kernel_rfl) ?_
      refine rone_r11 (n := nv) (c := cv) (A := Av) (x := o.a) (h := kHasA o.kind) (g := g) (j := 2) _ _ HC0.out (by omega) ?_
      intro b39 b40 b41 b42 b43 b44 b45 b46 b47 b48 b49 b50 b51 b52 b53 b54 b55 b56 b57 b58 b59 b60 b61 b62
      cases hq : partK nv (kHasA o.kind) o.a
      · have HN := Lib.hid (all_stop (l := prtL nv o) (k := 2) (by rw [← hq]; rfl))
        rw [show (!false) = true from rfl]
        clear hq
        go_wp2
        go_ret
        refine ⟨ret_bool ?_, HB.out.trans (HBR.out.mono HB.out.size)⟩
        rw [HX.out, partsK_split]
        rw [show ([partK nv (kHasD o.kind) o.d, partK nv (kHasE o.kind) o.e, partK nv (kHasA o.kind) o.a, partK nv (kHasB o.kind) o.b, partK nv (kHasC o.kind) o.c] : List Bool) = prtL nv o from rfl, HN.out]
        rfl
      · have HN := Lib.hid (all_next (l := prtL nv o) (k := 2) HT.out.1 rfl hq)
        rw [show (!true) = false from rfl]
        have hpi := part_in hq
        clear hq
        go_upto_region 13 with fail
        refine wp_code (c := partR Tryz.f34 13) (by kernel_rfl) ?_
        refine rone_r13 (k0 := o.kind) (b := w.heap.size) (h := kHasA o.kind) (j := 2) _ _ HWR.out.box.kind ?_
        intro c64 c65 c66 c67 c68 c69 c70 c71 c72
        cases htk : (kHasA o.kind && (decide (2 ≤ 2) || (o.kind == 14)))
        · have HSE := Lib.hid (show sec = ((secL vs o).take (2 + 1)).any id by
            have h := sany_next (l := secL vs o) (k := 2) HT.out.2 (x := false) (by rw [← Bool.false_and (varK vs o.a).secret, ← htk]; rfl)
            rw [Bool.or_false] at h
            exact h)
          clear htk hpi
          go_wp2
          go_roundw
          case rel => exact ⟨2 + 1, sec, by omega, rfl, rfl, HB3.out, Lib.hid ⟨HN.out, HSE.out⟩⟩
          case measure => simp [intOf]
        · have hb : kHasA o.kind = true := by cases hh : kHasA o.kind <;> simp_all
          obtain ⟨v, hv⟩ : ∃ v : Nat, o.a = v := ⟨o.a.toNat, by rcases hpi with h | h; omega; rw [hb] at h; exact absurd h.1 (by decide)⟩
          have hvn : v < nv := by rcases hpi with h | h; omega; rw [hb] at h; exact absurd h.1 (by decide)
          obtain ⟨y, hy⟩ : ∃ y, vs[v]? = some y := ⟨_, List.getElem?_eq_getElem (by have := HNV.out; omega)⟩
          obtain ⟨gv, ov, hA, hg, _, z1, _⟩ := HWR.out.vars.at_ hy
          subst hA
          have hcv := HC0.out
          rw [hv] at hcv
          have HSE := Lib.hid (show (sec || y.secret) = ((secL vs o).take (2 + 1)).any id from sany_next (l := secL vs o) (k := 2) HT.out.2 (by
            show some ((kHasA o.kind && (decide (2 ≤ 2) || (o.kind == 14))) && (varK vs o.a).secret) = _
            rw [htk, Bool.true_and, hv]
            unfold varK
            rw [Int.toNat_natCast, List.getD_eq_getElem?_getD, hy]
            rfl))
          clear htk hpi hb hv hy hg
          go_upto_region 14 with fail
          refine wp_code (c := partR Tryz.f34 14) (by kernel_rfl) ?_
          refine rone_r14 (gv := gv) (ov := ov) (n := nv) (c := cv) (g := g) (j := 2) (v := v) (sec := sec) (q := y.secret) _ _ hcv z1 (by omega) hvn n5 ?_
          intro d74 d75 d76 d77 d78 d79 d80 d81 d82 d83
          generalize (sec || y.secret) = sec2 at HSE ⊢
          go_wp2
          go_roundw
          case rel => exact ⟨2 + 1, sec2, by omega, rfl, rfl, HB3.out, Lib.hid ⟨HN.out, HSE.out⟩⟩
          case measure => simp [intOf]
    · clear hj5
      have hc0 := HWR.out.cell (j := 3) (v := .int .i64 o.b) rfl
      have HC0 := Lib.hid hc0
      clear hc0
      go_upto_region 10 with fail
      refine wp_code (c := partR Tryz.f34 10) (by kernel_rfl) ?_
      refine rone_r10 (s := sh) (i := 3) _ _ HSB.out.1 (by omega) ?_
      intro a33 a34 a35 a36 a37 a38
      rw [HSB.out.2.2.2.2.1]
      go_upto_region 11 with fail
      refine wp_code (c := partR Tryz.f34 11) (by kernel_rfl) ?_
      refine rone_r11 (n := nv) (c := cv) (A := Av) (x := o.b) (h := kHasB o.kind) (g := g) (j := 3) _ _ HC0.out (by omega) ?_
      intro b39 b40 b41 b42 b43 b44 b45 b46 b47 b48 b49 b50 b51 b52 b53 b54 b55 b56 b57 b58 b59 b60 b61 b62
      cases hq : partK nv (kHasB o.kind) o.b
      · have HN := Lib.hid (all_stop (l := prtL nv o) (k := 3) (by rw [← hq]; rfl))
        rw [show (!false) = true from rfl]
        clear hq
        go_wp2
        go_ret
        refine ⟨ret_bool ?_, HB.out.trans (HBR.out.mono HB.out.size)⟩
        rw [HX.out, partsK_split]
        rw [show ([partK nv (kHasD o.kind) o.d, partK nv (kHasE o.kind) o.e, partK nv (kHasA o.kind) o.a, partK nv (kHasB o.kind) o.b, partK nv (kHasC o.kind) o.c] : List Bool) = prtL nv o from rfl, HN.out]
        rfl
      · have HN := Lib.hid (all_next (l := prtL nv o) (k := 3) HT.out.1 rfl hq)
        rw [show (!true) = false from rfl]
        have hpi := part_in hq
        clear hq
        go_upto_region 13 with fail
        refine wp_code (c := partR Tryz.f34 13) (by kernel_rfl) ?_
        refine rone_r13 (k0 := o.kind) (b := w.heap.size) (h := kHasB o.kind) (j := 3) _ _ HWR.out.box.kind ?_
        intro c64 c65 c66 c67 c68 c69 c70 c71 c72
        cases htk : (kHasB o.kind && (decide (2 ≤ 3) || (o.kind == 14)))
        · have HSE := Lib.hid (show sec = ((secL vs o).take (3 + 1)).any id by
            have h := sany_next (l := secL vs o) (k := 3) HT.out.2 (x := false) (by rw [← Bool.false_and (varK vs o.b).secret, ← htk]; rfl)
            rw [Bool.or_false] at h
            exact h)
          clear htk hpi
          go_wp2
          go_roundw
          case rel => exact ⟨3 + 1, sec, by omega, rfl, rfl, HB3.out, Lib.hid ⟨HN.out, HSE.out⟩⟩
          case measure => simp [intOf]
        · have hb : kHasB o.kind = true := by cases hh : kHasB o.kind <;> simp_all
          obtain ⟨v, hv⟩ : ∃ v : Nat, o.b = v := ⟨o.b.toNat, by rcases hpi with h | h; omega; rw [hb] at h; exact absurd h.1 (by decide)⟩
          have hvn : v < nv := by rcases hpi with h | h; omega; rw [hb] at h; exact absurd h.1 (by decide)
          obtain ⟨y, hy⟩ : ∃ y, vs[v]? = some y := ⟨_, List.getElem?_eq_getElem (by have := HNV.out; omega)⟩
          obtain ⟨gv, ov, hA, hg, _, z1, _⟩ := HWR.out.vars.at_ hy
          subst hA
          have hcv := HC0.out
          rw [hv] at hcv
          have HSE := Lib.hid (show (sec || y.secret) = ((secL vs o).take (3 + 1)).any id from sany_next (l := secL vs o) (k := 3) HT.out.2 (by
            show some ((kHasB o.kind && (decide (2 ≤ 3) || (o.kind == 14))) && (varK vs o.b).secret) = _
            rw [htk, Bool.true_and, hv]
            unfold varK
            rw [Int.toNat_natCast, List.getD_eq_getElem?_getD, hy]
            rfl))
          clear htk hpi hb hv hy hg
          go_upto_region 14 with fail
          refine wp_code (c := partR Tryz.f34 14) (by kernel_rfl) ?_
          refine rone_r14 (gv := gv) (ov := ov) (n := nv) (c := cv) (g := g) (j := 3) (v := v) (sec := sec) (q := y.secret) _ _ hcv z1 (by omega) hvn n5 ?_
          intro d74 d75 d76 d77 d78 d79 d80 d81 d82 d83
          generalize (sec || y.secret) = sec2 at HSE ⊢
          go_wp2
          go_roundw
          case rel => exact ⟨3 + 1, sec2, by omega, rfl, rfl, HB3.out, Lib.hid ⟨HN.out, HSE.out⟩⟩
          case measure => simp [intOf]
    · clear hj5
      have hc0 := HWR.out.cell (j := 4) (v := .int .i64 o.c) rfl
      have HC0 := Lib.hid hc0
      clear hc0
      go_upto_region 10 with fail
      refine wp_code (c := partR Tryz.f34 10) (by kernel_rfl) ?_
      refine rone_r10 (s := sh) (i := 4) _ _ HSB.out.1 (by omega) ?_
      intro a33 a34 a35 a36 a37 a38
      rw [HSB.out.2.2.2.2.2]
      go_upto_region 11 with fail
      refine wp_code (c := partR Tryz.f34 11) (by kernel_rfl) ?_
      refine rone_r11 (n := nv) (c := cv) (A := Av) (x := o.c) (h := kHasC o.kind) (g := g) (j := 4) _ _ HC0.out (by omega) ?_
      intro b39 b40 b41 b42 b43 b44 b45 b46 b47 b48 b49 b50 b51 b52 b53 b54 b55 b56 b57 b58 b59 b60 b61 b62
      cases hq : partK nv (kHasC o.kind) o.c
      · have HN := Lib.hid (all_stop (l := prtL nv o) (k := 4) (by rw [← hq]; rfl))
        rw [show (!false) = true from rfl]
        clear hq
        go_wp2
        go_ret
        refine ⟨ret_bool ?_, HB.out.trans (HBR.out.mono HB.out.size)⟩
        rw [HX.out, partsK_split]
        rw [show ([partK nv (kHasD o.kind) o.d, partK nv (kHasE o.kind) o.e, partK nv (kHasA o.kind) o.a, partK nv (kHasB o.kind) o.b, partK nv (kHasC o.kind) o.c] : List Bool) = prtL nv o from rfl, HN.out]
        rfl
      · have HN := Lib.hid (all_next (l := prtL nv o) (k := 4) HT.out.1 rfl hq)
        rw [show (!true) = false from rfl]
        have hpi := part_in hq
        clear hq
        go_upto_region 13 with fail
        refine wp_code (c := partR Tryz.f34 13) (by kernel_rfl) ?_
        refine rone_r13 (k0 := o.kind) (b := w.heap.size) (h := kHasC o.kind) (j := 4) _ _ HWR.out.box.kind ?_
        intro c64 c65 c66 c67 c68 c69 c70 c71 c72
        cases htk : (kHasC o.kind && (decide (2 ≤ 4) || (o.kind == 14)))
        · have HSE := Lib.hid (show sec = ((secL vs o).take (4 + 1)).any id by
            have h := sany_next (l := secL vs o) (k := 4) HT.out.2 (x := false) (by rw [← Bool.false_and (varK vs o.c).secret, ← htk]; rfl)
            rw [Bool.or_false] at h
            exact h)
          clear htk hpi
          go_wp2
          go_roundw
          case rel => exact ⟨4 + 1, sec, by omega, rfl, rfl, HB3.out, Lib.hid ⟨HN.out, HSE.out⟩⟩
          case measure => simp [intOf]
        · have hb : kHasC o.kind = true := by cases hh : kHasC o.kind <;> simp_all
          obtain ⟨v, hv⟩ : ∃ v : Nat, o.c = v := ⟨o.c.toNat, by rcases hpi with h | h; omega; rw [hb] at h; exact absurd h.1 (by decide)⟩
          have hvn : v < nv := by rcases hpi with h | h; omega; rw [hb] at h; exact absurd h.1 (by decide)
          obtain ⟨y, hy⟩ : ∃ y, vs[v]? = some y := ⟨_, List.getElem?_eq_getElem (by have := HNV.out; omega)⟩
          obtain ⟨gv, ov, hA, hg, _, z1, _⟩ := HWR.out.vars.at_ hy
          subst hA
          have hcv := HC0.out
          rw [hv] at hcv
          have HSE := Lib.hid (show (sec || y.secret) = ((secL vs o).take (4 + 1)).any id from sany_next (l := secL vs o) (k := 4) HT.out.2 (by
            show some ((kHasC o.kind && (decide (2 ≤ 4) || (o.kind == 14))) && (varK vs o.c).secret) = _
            rw [htk, Bool.true_and, hv]
            unfold varK
            rw [Int.toNat_natCast, List.getD_eq_getElem?_getD, hy]
            rfl))
          clear htk hpi hb hv hy hg
          go_upto_region 14 with fail
          refine wp_code (c := partR Tryz.f34 14) (by kernel_rfl) ?_
          refine rone_r14 (gv := gv) (ov := ov) (n := nv) (c := cv) (g := g) (j := 4) (v := v) (sec := sec) (q := y.secret) _ _ hcv z1 (by omega) hvn n5 ?_
          intro d74 d75 d76 d77 d78 d79 d80 d81 d82 d83
          generalize (sec || y.secret) = sec2 at HSE ⊢
          go_wp2
          go_roundw
          case rel => exact ⟨4 + 1, sec2, by omega, rfl, rfl, HB3.out, Lib.hid ⟨HN.out, HSE.out⟩⟩
          case measure => simp [intOf]
    · clear hj5
      have hpt : partsK nv o = true := by rw [partsK_split]; exact HT.out.1
      have hx := HX.out
      rw [hpt, Bool.true_and, ← sec_eq (vs := vs) hpt, show (secL vs o).any id = sec from HT.out.2.symm] at hx
      have HX := Lib.hid hx
      have hai := alike_in hpt
      have hdx : o.d < (nv : Int) ∧ o.e < (nv : Int) := by
        unfold partsK at hpt
        simp only [Bool.and_eq_true] at hpt
        have h1 := part_in hpt.1
        have h2 := part_in hpt.2.1
        omega
      have HDX := Lib.hid hdx
      have HAG := Lib.hid (fun (w3 : World) (h3 : Below wr.heap.size wr w3) => ragree_any Av nv cv vs o w3 _ (HWR.out.next h3).vars (fun k hk => hk) (by have := HNV.out; omega) (fun v hv => by have := hai v hv; have := HNV.out; omega))
      clear hx hai hdx hpt
      go_wp2
      go_loopw [4, 10] (fun _ s10 wt => ∃ k : Nat, k ≤ 2 ∧ s10 = .int .i64 (k : Nat) ∧ Below wr.heap.size wr wt ∧ Hid (([intoK vs sec o.d, intoK vs sec o.e].take k).all id = true)) (fun _ s10 _ => 2 - (intOf s10).toNat)
      case atStart => exact ⟨0, by omega, rfl, Below.refl _ _, Lib.hid rfl⟩
      case round =>
        obtain ⟨k, hk2, rfl, hbt, HT2⟩ := hrel
        have HBT := Lib.hid hbt
        have HBT2 := Lib.hid (HBR.out.trans (hbt.mono HBR.out.size))
        have HWT := Lib.hid (HWR.out.next hbt)
        have HAG := Lib.hid (HAG.out _ hbt)
        clear hbt
        obtain rfl | rfl | rfl : k = 0 ∨ k = 1 ∨ k = 2 := by omega
        · clear hk2
          have hc0 := HWT.out.cell (j := 0) (v := .int .i64 o.d) rfl
          cases d0 : decide (0 ≤ o.d)
          · have hi : intoK vs sec o.d = true := by unfold intoK; rw [d0]; rfl
            have HN := Lib.hid (all_next (l := [intoK vs sec o.d, intoK vs sec o.e]) (k := 0) HT2.out rfl hi)
            clear hi
            go_upto_region 18 with fail
            refine wp_code (c := partR Tryz.f34 18) (by kernel_rfl) ?_
            refine rone_r18n (x := o.d) (g := g) (j := 0) _ _ hc0 (by omega) d0 ?_
            intro e88 e89 e90 e91 e92 e93 e94 e95 e96 e97 e98 e99 e100 e101 e102 e103 e104 e105 e106 e107 e108 e109 e110 e111 e112 e113 e114 e115 e116 e117 e118 e119 e120 e121 e122 e123
            clear hc0 d0
            go_wp2
            go_roundw
            case rel => exact ⟨0 + 1, by omega, rfl, HBT.out, HN⟩
            case measure => simp [intOf]
          · obtain ⟨v, hv⟩ : ∃ v : Nat, o.d = v := ⟨o.d.toNat, by have := of_decide_eq_true d0; omega⟩
            have hvn : v < nv := by have := HDX.out.1; omega
            obtain ⟨y, hy⟩ : ∃ y, vs[v]? = some y := ⟨_, List.getElem?_eq_getElem (by have := HNV.out; omega)⟩
            obtain ⟨gv, ov, hA, hg, _, z1, z2⟩ := HWT.out.vars.at_ hy
            subst hA
            have hi : intoK vs sec o.d = !(givenK y || (sec && !y.secret)) := by
              unfold intoK
              rw [d0, Bool.true_and, hv, show varK vs (v : Int) = y by unfold varK; rw [Int.toNat_natCast, List.getD_eq_getElem?_getD, hy]; rfl]
            rw [hv] at hc0
            clear d0 hv hy hg
            go_upto_region 18 with fail
            refine wp_code (c := partR Tryz.f34 18) (by kernel_rfl) ?_
            refine rone_r18 (x := y) (gv := gv) (ov := ov) (n := nv) (c := cv) (g := g) (j := 0) (v := v) (sec := sec) _ _ hc0 z2 z1 (by omega) hvn n5 ?_
            intro e88 e89 e90 e91 e92 e93 e94 e95 e96 e97 e98 e99 e100 e101 e102 e103 e104 e105 e106 e107 e108 e109 e110 e111 e112 e113 e114 e115 e116 e117 e118 e119 e120 e121 e122 e123
            clear hc0 z1 z2
            cases hq : (givenK y || (sec && !y.secret))
            · have HN := Lib.hid (all_next (l := [intoK vs sec o.d, intoK vs sec o.e]) (k := 0) HT2.out rfl (by rw [hi, hq]; rfl))
              clear hi hq
              go_wp2
              go_roundw
              case rel => exact ⟨0 + 1, by omega, rfl, HBT.out, HN⟩
              case measure => simp [intOf]
            · have HN := Lib.hid (show oneK vs o = false by
                have h : intoK vs sec o.d = false := by rw [hi, hq]; rfl
                rw [HX.out, h]
                simp)
              clear hi hq
              go_wp2
              go_ret
              exact ⟨ret_bool HN.out.symm, HB.out.trans (HBT2.out.mono HB.out.size)⟩
        · clear hk2
          have hc0 := HWT.out.cell (j := 1) (v := .int .i64 o.e) rfl
          cases d0 : decide (0 ≤ o.e)
          · have hi : intoK vs sec o.e = true := by unfold intoK; rw [d0]; rfl
            have HN := Lib.hid (all_next (l := [intoK vs sec o.d, intoK vs sec o.e]) (k := 1) HT2.out rfl hi)
            clear hi
            go_upto_region 18 with fail
            refine wp_code (c := partR Tryz.f34 18) (by kernel_rfl) ?_
            refine rone_r18n (x := o.e) (g := g) (j := 1) _ _ hc0 (by omega) d0 ?_
            intro e88 e89 e90 e91 e92 e93 e94 e95 e96 e97 e98 e99 e100 e101 e102 e103 e104 e105 e106 e107 e108 e109 e110 e111 e112 e113 e114 e115 e116 e117 e118 e119 e120 e121 e122 e123
            clear hc0 d0
            go_wp2
            go_roundw
            case rel => exact ⟨1 + 1, by omega, rfl, HBT.out, HN⟩
            case measure => simp [intOf]
          · obtain ⟨v, hv⟩ : ∃ v : Nat, o.e = v := ⟨o.e.toNat, by have := of_decide_eq_true d0; omega⟩
            have hvn : v < nv := by have := HDX.out.2; omega
            obtain ⟨y, hy⟩ : ∃ y, vs[v]? = some y := ⟨_, List.getElem?_eq_getElem (by have := HNV.out; omega)⟩
            obtain ⟨gv, ov, hA, hg, _, z1, z2⟩ := HWT.out.vars.at_ hy
            subst hA
            have hi : intoK vs sec o.e = !(givenK y || (sec && !y.secret)) := by
              unfold intoK
              rw [d0, Bool.true_and, hv, show varK vs (v : Int) = y by unfold varK; rw [Int.toNat_natCast, List.getD_eq_getElem?_getD, hy]; rfl]
            rw [hv] at hc0
            clear d0 hv hy hg
            go_upto_region 18 with fail
            refine wp_code (c := partR Tryz.f34 18) (by kernel_rfl) ?_
            refine rone_r18 (x := y) (gv := gv) (ov := ov) (n := nv) (c := cv) (g := g) (j := 1) (v := v) (sec := sec) _ _ hc0 z2 z1 (by omega) hvn n5 ?_
            intro e88 e89 e90 e91 e92 e93 e94 e95 e96 e97 e98 e99 e100 e101 e102 e103 e104 e105 e106 e107 e108 e109 e110 e111 e112 e113 e114 e115 e116 e117 e118 e119 e120 e121 e122 e123
            clear hc0 z1 z2
            cases hq : (givenK y || (sec && !y.secret))
            · have HN := Lib.hid (all_next (l := [intoK vs sec o.d, intoK vs sec o.e]) (k := 1) HT2.out rfl (by rw [hi, hq]; rfl))
              clear hi hq
              go_wp2
              go_roundw
              case rel => exact ⟨1 + 1, by omega, rfl, HBT.out, HN⟩
              case measure => simp [intOf]
            · have HN := Lib.hid (show oneK vs o = false by
                have h : intoK vs sec o.e = false := by rw [hi, hq]; rfl
                rw [HX.out, h]
                simp)
              clear hi hq
              go_wp2
              go_ret
              exact ⟨ret_bool HN.out.symm, HB.out.trans (HBT2.out.mono HB.out.size)⟩
        · clear hk2
          have hi2 : intoK vs sec o.d = true ∧ intoK vs sec o.e = true := by
            have := HT2.out
            simpa using this
          have hx := HX.out
          rw [hi2.1, hi2.2, Bool.true_and, Bool.true_and] at hx
          have HX := Lib.hid hx
          have c0 := HWT.out.box.kind
          have c1 := HWT.out.box.d
          have c2 := HWT.out.box.e
          have c3 := HWT.out.box.a
          have c4 := HWT.out.box.b
          have c5 := HWT.out.box.c
          have c6 := HWT.out.box.imm
          clear hi2 hx
          cases d0 : decide (o.e < 0)
          · cases d1 : (o.d == o.e)
            · have d2 : (o.d != o.e) = true := by rw [bne, d1]; rfl
              rw [d0, d1] at HX
              go_wp2_with (first | ((with_reducible refine HAG.out.mono ?_); rintro e w9 ⟨rfl, hb9⟩; have HB9 := Lib.hid hb9; clear hb9) | go_in)
              go_ret
              exact ⟨ret_bool (by rw [HX.out]; rfl), HB.out.trans ((HBT2.out.trans (HB9.out.mono HBT2.out.size)).mono HB.out.size)⟩
            · have d2 : (o.d != o.e) = false := by rw [bne, d1]; rfl
              rw [d0, d1] at HX
              go_wp2
              go_ret
              exact ⟨ret_bool (by rw [HX.out]; rfl), HB.out.trans (HBT2.out.mono HB.out.size)⟩
          · rw [d0] at HX
            go_wp2_with (first | ((with_reducible refine HAG.out.mono ?_); rintro e w9 ⟨rfl, hb9⟩; have HB9 := Lib.hid hb9; clear hb9) | go_in)
            go_ret
            exact ⟨ret_bool (by rw [HX.out]; rfl), HB.out.trans ((HBT2.out.trans (HB9.out.mono HBT2.out.size)).mono HB.out.size)⟩
end Go.Proofs.YtjbabpnepjhllaaGreat
