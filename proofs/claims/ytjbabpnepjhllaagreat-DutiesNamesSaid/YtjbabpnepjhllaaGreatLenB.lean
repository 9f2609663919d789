/- lengths.takes. -/
import Derived.Test.YtjbabpnepjhllaaGreatDelS
namespace Go.Proofs.YtjbabpnepjhllaaGreat
open Go.RowKit

/-- A row of numbers is told. -/
def NumsSay (l : List Int) (w : World) (e : Ending) (w' : World) : Prop := ∃ A n c, e = .returned (.slice A n c) ∧ NumsAt w' (fun k => k < w'.heap.size) (.slice A n c) l ∧ Below w.heap.size w w'
theorem takes1_any (v : Int) (w : World) : Calls Tryz.prog 94 #[.int .i64 v] w fun e w' => e = .returned (.bool (decide (v < 0))) ∧ w' = w := by
  cases d0 : decide (v < 0)
  all_goals
    go_enter Tryz.func94, Tryz.ntmps94
    go_wp2
    go_ret
    exact ⟨rfl, rfl⟩
theorem takes_filter (a b c : Int) : ([a, b, c].filter fun v => !decide (v < 0)) = [a, b, c].filter fun v => decide (0 ≤ v) := by
  refine List.filter_congr fun v _ => ?_
  by_cases h : v < 0
  · rw [decide_eq_true h, decide_eq_false (by omega)]; rfl
  · rw [decide_eq_false h, decide_eq_true (by omega)]; rfl
theorem own_some {w : World} {base e sz n : Nat} {v : Value} {xs : List Value} (h : w.ownsRow base e sz v n xs) (hn : 0 < n) : ∃ g c, v = .slice (some ⟨g, 0, none⟩) n c ∧ base ≤ g ∧ n ≤ c := by
  rcases h.2 with ⟨_, h0⟩ | ⟨g, c, cur, hv, hg, hh, hnc, _⟩
  · omega
  · exact ⟨g, c, hv, hg, hnc⟩
set_option maxRecDepth 100000 in
set_option maxHeartbeats 4000000 in
theorem takes_any (o : KOp) (w : World) : Calls Tryz.prog 65 #[.agg #[.int .i64 o.kind, .int .i64 o.d, .int .i64 o.e, .int .i64 o.a, .int .i64 o.b, .int .i64 o.c, .int .u64 o.imm]] w (NumsSay (takesK o) w) := by
  obtain ⟨i0, hi, hz0, hz1, hz2⟩ := info_parts infoI
  have HPT := Lib.hid fun w => parts_any o w
  go_enter Tryz.func65, Tryz.ntmps65
  go_upto_region 1 with (first | go_in)
  obtain ⟨W0, hW0⟩ : ∃ W, W = w.alloc (.cells #[.int .i64 o.kind, .int .i64 o.d, .int .i64 o.e, .int .i64 o.a, .int .i64 o.b, .int .i64 o.c, .int .u64 o.imm] 43) := ⟨_, rfl⟩
  rw [← hW0]
  have hb0 : Below w.heap.size w W0 := by rw [hW0]; exact (Below.refl _ _).alloc (Nat.le_refl _) _
  have hk0 : OpBox W0 w.heap.size o := OpBox.of (t := 43) (fr := (0, 0)) (by rw [hW0]; exact heap_alloc_new w _)
  have hz0' : W0.heap.size = w.heap.size + 1 := by rw [hW0]; simp
  clear hW0
  have HB0 := Lib.hid hb0
  have HK0 := Lib.hid hk0
  have HZ0 := Lib.hid hz0'
  have c0 := hk0.kind
  have c1 := hk0.d
  have c2 := hk0.e
  have c3 := hk0.a
  have c4 := hk0.b
  have c5 := hk0.c
  have c6 := hk0.imm
  clear hb0 hk0 hz0'
  go_upto_region 2 with (first | ((with_reducible refine (HPT.out _).mono ?_); rintro e w1 ⟨rfl, hb1⟩; have HB1 := Lib.hid hb1; clear hb1) | go_in)
  obtain ⟨W2, hW2⟩ : ∃ W, W = w1.alloc (.cells #[.int .i64 o.d, .int .i64 o.e, .int .i64 o.a, .int .i64 o.b, .int .i64 o.c] 90) := ⟨_, rfl⟩
  rw [← hW2]
  have hb2 : Below w1.heap.size w1 W2 := by rw [hW2]; exact (Below.refl _ _).alloc (Nat.le_refl _) _
  have hcl : ∀ (j : Nat) (u : Value), #[Value.int .i64 o.d, .int .i64 o.e, .int .i64 o.a, .int .i64 o.b, .int .i64 o.c][j]? = some u → W2.cell? ⟨w1.heap.size, j, none⟩ = some u := fun j u h => by rw [hW2]; exact cell_new w1 _ _ h
  have HB2 := Lib.hid (show Below W0.heap.size W0 W2 from HB1.out.trans (hb2.mono HB1.out.size))
  have HCN := Lib.hid (CloneI_some ⟨w1.heap.size, 2, none⟩ 3 3 W2 [.int .i64 o.a, .int .i64 o.b, .int .i64 o.c] rfl (fun j u h => by
    rw [sep_add]
    match j, h with
    | 0, h => cases h; exact hcl 2 _ rfl
    | 1, h => cases h; exact hcl 3 _ rfl
    | 2, h => cases h; exact hcl 4 _ rfl
    | j + 3, h => cases h) (by simp [Value.oneCell']) (by omega))
  have HDL := Lib.hid (fun (w3 : World) (gb c : Nat) (h : w3.ownsRow W2.heap.size 3 1 (.slice (some ⟨gb, 0, none⟩) 3 c) 3 [.int .i64 o.a, .int .i64 o.b, .int .i64 o.c]) => DelS_Int 94 #[] gb c 3 W2.heap.size [o.a, o.b, o.c] (fun v => decide (v < 0)) w3 (enters_of Tryz.func94 (by kernel_rfl) rfl) rfl (by omega) h (fun x _ wr _ => (takes1_any x wr).mono (by rintro e w' ⟨he, rfl⟩; exact ⟨he, Below.refl _ _⟩)))
  obtain ⟨lf, hlf⟩ : ∃ l, ([o.a, o.b, o.c].filter fun v => decide (0 ≤ v)) = l := ⟨_, rfl⟩
  rw [takes_filter, hlf] at HDL
  have hlen : lf.length ≤ 3 := by rw [← hlf]; exact List.length_filter_le _ _
  have HLF := Lib.hid (show takesK o = lf ++ (if o.kind = 14 then [o.d, o.e] else []) by unfold takesK; rw [hlf])
  clear hW2 hb2 hcl hlf c0 c1 c2 c3 c4 c5 c6
  go_upto_region 3 with (first
    | ((with_reducible refine HCN.out.mono ?_); rintro e w3 ⟨v3, rfl, ho3, hb3⟩; obtain ⟨gb, c3, rfl, hge, _⟩ := own_some ho3 (by omega); have HO3 := Lib.hid ho3; have HB3 := Lib.hid hb3; clear ho3 hb3 hge)
    | ((with_reducible refine (HDL.out w3 gb c3 HO3.out).mono ?_); rintro e w4 ⟨rfl, ho4, hc4⟩; have HO4 := Lib.hid ho4; have HC4 := Lib.hid hc4; clear ho4 hc4)
    | go_in)
  have hb4 : Below W0.heap.size W0 w4 := by
    have h1 := HB2.out
    have h2 := HB3.out
    have h3 := h1.trans (h2.mono h1.size)
    refine h3.trans (HC4.out.below (fun k hk e => ?_) h3.size)
    subst e
    have h5 : W2.heap.size ≤ k := (own_lt HO3.out _ rfl).2
    have := h1.size
    omega
  have HB4 := Lib.hid hb4
  have hk4 := HK0.out.next hb4 (by have := HZ0.out; omega)
  have c0 := hk4.kind
  have c1 := hk4.d
  have c2 := hk4.e
  clear hk4 hb4
  by_cases h14 : o.kind = 14
  · have d14 : (o.kind == 14) = true := by rw [beq_iff_eq]; exact h14
    have HT := Lib.hid (show takesK o = lf ++ [o.d, o.e] by rw [HLF.out, if_pos h14])
    clear h14
    go_wp2_with (first
      | (at_builtin; refine wpList_append_own_at _ rfl _ _ 50 rfl w.heap.size 3 i0 (.int .i64 0) 1 8 Tryz.underlying50 hi hz0 hz1 hz2 rfl (by decide) (.slice (some ⟨gb, 0, none⟩) lf.length c3) lf.length (intV lf) rfl ((ownsRow_base HO4.out (by have := HB2.out.size; have := HB0.out.size; omega)).alloc _) ⟨w4.heap.size, 0, none⟩ 2 2 [Value.int .i64 o.d, .int .i64 o.e] rfl (by rfl) (cells_new_at w4 #[Value.int .i64 o.d, .int .i64 o.e] 3) (by simp [Value.oneCell']) (by unfold maxLen; omega) (by omega) (by have := HB4.out.size; have := HB0.out.size; simp; omega) ?_; intro v' w6 ho6 hg6 _ hw6
         have HO6 := Lib.hid ho6
         have HG6 := Lib.hid hg6
         obtain ⟨A6, c6, rfl⟩ := own_form ho6
         clear ho6 hg6 hw6)
      | go_in)
    go_ret
    have hl2 : (lf ++ [o.d, o.e]).length = lf.length + 2 := by simp
    have hown : w6.ownsRow w.heap.size 3 1 (.slice A6 (lf.length + 2) c6) (lf ++ [o.d, o.e]).length (intV (lf ++ [o.d, o.e])) := by
      rw [hl2]
      have := HO6.out
      simpa [intV] using this
    refine ⟨A6, lf.length + 2, c6, rfl, by rw [HT.out]; exact Rows.mono (nums_own hown) (fun k hk => (own_lt hown k hk).1), ?_⟩
    have h1 := HB0.out.trans (HB4.out.mono HB0.out.size)
    refine (h1.alloc h1.size _).grown HG6.out (by have := h1.size; simp; omega) (fun j e => ?_)
    have e1 : gb = j := by cases e; rfl
    have h5 : W2.heap.size ≤ gb := (own_lt HO3.out gb rfl).2
    have := HB2.out.size
    have := HB0.out.size
    omega
  · have d14 : (o.kind == 14) = false := beq_eq_false_iff_ne.2 h14
    have HT := Lib.hid (show takesK o = lf by rw [HLF.out, if_neg h14, List.append_nil])
    clear h14
    go_wp2
    go_ret
    refine ⟨_, _, _, rfl, by rw [HT.out]; exact Rows.mono (nums_own HO4.out) (fun k hk => (own_lt HO4.out k hk).1), HB0.out.trans (HB4.out.mono HB0.out.size)⟩
end Go.Proofs.YtjbabpnepjhllaaGreat
