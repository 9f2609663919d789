/- lengths: given, shape, number, parts, need. -/
import Derived.Test.YtjbabpnepjhllaaGreatIdx21
import Derived.Test.YtjbabpnepjhllaaGreatPlainChk21
import Derived.Deep.Cut
import Derived.Deep.LoopGhost
namespace Go.Proofs.YtjbabpnepjhllaaGreat
open Go.RowKit

def kvV (v : KVar) : Value := .agg #[.int .i64 v.limbs, .bool v.secret, .int .i64 v.mode]
def kopV (o : KOp) : Value := .agg #[.int .i64 o.kind, .int .i64 o.d, .int .i64 o.e, .int .i64 o.a, .int .i64 o.b, .int .i64 o.c, .int .u64 o.imm]
theorem given_any (v : KVar) (w : World) : Calls Tryz.prog 62 #[.agg #[.int .i64 v.limbs, .bool v.secret, .int .i64 v.mode]] w fun e w' => e = .returned (.bool (givenK v)) ∧ Below w.heap.size w w' := by
  cases d0 : (v.mode == 1)
  · cases d1 : (v.mode == 2)
    · have HV := Lib.hid (show givenK v = false by unfold givenK; rw [d0, d1]; rfl)
      go_enter Tryz.func62, Tryz.ntmps62
      go_wp2
      go_ret
      exact ⟨ret_bool HV.out.symm, (Below.refl _ _).alloc (Nat.le_refl _) _⟩
    · have HV := Lib.hid (show givenK v = true by unfold givenK; rw [d0, d1]; rfl)
      go_enter Tryz.func62, Tryz.ntmps62
      go_wp2
      go_ret
      exact ⟨ret_bool HV.out.symm, (Below.refl _ _).alloc (Nat.le_refl _) _⟩
  · have HV := Lib.hid (show givenK v = true by unfold givenK; rw [d0]; rfl)
    go_enter Tryz.func62, Tryz.ntmps62
    go_wp2
    go_ret
    exact ⟨ret_bool HV.out.symm, (Below.refl _ _).alloc (Nat.le_refl _) _⟩
/-- Which parts an operation of a kind has, as bits. -/
def shapeK (k : Int) : Int := (if kHasD k then 1 else 0) + (if kHasE k then 2 else 0) + (if kHasA k then 4 else 0) + (if kHasB k then 8 else 0) + (if kHasC k then 16 else 0)
theorem kinds16 {k : Int} (h : 1 ≤ k ∧ k ≤ 16) : k = 1 ∨ k = 2 ∨ k = 3 ∨ k = 4 ∨ k = 5 ∨ k = 6 ∨ k = 7 ∨ k = 8 ∨ k = 9 ∨ k = 10 ∨ k = 11 ∨ k = 12 ∨ k = 13 ∨ k = 14 ∨ k = 15 ∨ k = 16 := by omega
set_option maxRecDepth 100000 in
set_option maxHeartbeats 4000000 in
theorem shape_any (k : Int) (w : World) : Calls Tryz.prog 86 #[.int .i64 k] w fun e w' => e = .returned (.tuple #[.int .i64 (if 1 ≤ k ∧ k ≤ 16 then shapeK k else 0), .bool (decide (1 ≤ k ∧ k ≤ 16))]) ∧ w' = w := by
  by_cases h : 1 ≤ k ∧ k ≤ 16
  · rcases kinds16 h with rfl | rfl | rfl | rfl | rfl | rfl | rfl | rfl | rfl | rfl | rfl | rfl | rfl | rfl | rfl | rfl
    all_goals
      clear h
      go_enter Tryz.func86, Tryz.ntmps86
      go_wp2
      go_ret2
      exact ⟨rfl, rfl⟩
  · have HV := Lib.hid (show (Value.tuple #[.int .i64 (if 1 ≤ k ∧ k ≤ 16 then shapeK k else 0), .bool (decide (1 ≤ k ∧ k ≤ 16))]) = .tuple #[.int .i64 0, .bool false] by rw [if_neg h, decide_eq_false h])
    have hne : ∀ j : Int, 1 ≤ j ∧ j ≤ 16 → (k == j) = false := fun j hj => beq_eq_false_iff_ne.2 (by omega)
    have e1 := hne 1 (by omega)
    have e2 := hne 2 (by omega)
    have e3 := hne 3 (by omega)
    have e4 := hne 4 (by omega)
    have e5 := hne 5 (by omega)
    have e6 := hne 6 (by omega)
    have e7 := hne 7 (by omega)
    have e8 := hne 8 (by omega)
    have e9 := hne 9 (by omega)
    have e10 := hne 10 (by omega)
    have e11 := hne 11 (by omega)
    have e12 := hne 12 (by omega)
    have e13 := hne 13 (by omega)
    have e14 := hne 14 (by omega)
    have e15 := hne 15 (by omega)
    have e16 := hne 16 (by omega)
    clear hne h
    rw [HV.out]
    go_enter Tryz.func86, Tryz.ntmps86
    go_wp2
    go_ret2
    exact ⟨rfl, rfl⟩
set_option maxRecDepth 100000 in
set_option maxHeartbeats 4000000 in
theorem parts_any (o : KOp) (w : World) : Calls Tryz.prog 88 #[.agg #[.int .i64 o.kind, .int .i64 o.d, .int .i64 o.e, .int .i64 o.a, .int .i64 o.b, .int .i64 o.c, .int .u64 o.imm]] w fun e w' => e = .returned (.agg #[.int .i64 o.d, .int .i64 o.e, .int .i64 o.a, .int .i64 o.b, .int .i64 o.c]) ∧ Below w.heap.size w w' := by
  go_enter Tryz.func88, Tryz.ntmps88
  go_wp2
  refine bodyPost_ret (results_cell_row (ty := 90) rfl _ _ (w.heap.size + 1) 90 #[.int .i64 o.d, .int .i64 o.e, .int .i64 o.a, .int .i64 o.b, .int .i64 o.c] (0, 0) _ rfl ?_ Tryz.underlying90 rfl (by kernel_rfl)) rfl ⟨rfl, ?_⟩
  · have h := heap_alloc_new (w.alloc (.cells #[.int .i64 o.kind, .int .i64 o.d, .int .i64 o.e, .int .i64 o.a, .int .i64 o.b, .int .i64 o.c, .int .u64 o.imm] 43)) (.cells #[.int .i64 o.d, .int .i64 o.e, .int .i64 o.a, .int .i64 o.b, .int .i64 o.c] 90)
    simpa using h
  · exact ((Below.refl _ _).alloc (Nat.le_refl _) _).alloc (by simp) _
theorem need1_any (v : Int) (A : Option Addr) (n c B : Nat) (w : World) (hB : w.cell? ⟨B, 0, none⟩ = some (.slice A n c)) : Calls Tryz.prog 85 #[.int .i64 v, .pointer (some ⟨B, 0, none⟩)] w fun e w' => e = .returned (.bool (thereK n v)) ∧ Below w.heap.size w w' := by
  cases d0 : decide (0 ≤ v)
  · have HV := Lib.hid (show thereK n v = false by unfold thereK; rw [d0]; rfl)
    go_enter Tryz.func85, Tryz.ntmps85
    go_wp2
    go_ret
    exact ⟨ret_bool HV.out.symm, Below.refl _ _⟩
  · cases d1 : decide (v < (n : Int))
    · have HV := Lib.hid (show thereK n v = false by unfold thereK; rw [d0, d1]; rfl)
      go_enter Tryz.func85, Tryz.ntmps85
      go_wp2
      go_ret
      exact ⟨ret_bool HV.out.symm, Below.refl _ _⟩
    · have HV := Lib.hid (show thereK n v = true by unfold thereK; rw [d0, d1]; rfl)
      go_enter Tryz.func85, Tryz.ntmps85
      go_wp2
      go_ret
      exact ⟨ret_bool HV.out.symm, Below.refl _ _⟩
/-- A kernel's operation in a box. -/
structure OpBox (w : World) (g : Nat) (o : KOp) : Prop where
  kind : w.cell? ⟨g, 0, none⟩ = some (.int .i64 o.kind)
  d : w.cell? ⟨g, 1, none⟩ = some (.int .i64 o.d)
  e : w.cell? ⟨g, 2, none⟩ = some (.int .i64 o.e)
  a : w.cell? ⟨g, 3, none⟩ = some (.int .i64 o.a)
  b : w.cell? ⟨g, 4, none⟩ = some (.int .i64 o.b)
  c : w.cell? ⟨g, 5, none⟩ = some (.int .i64 o.c)
  imm : w.cell? ⟨g, 6, none⟩ = some (.int .u64 o.imm)
theorem OpBox.of {w : World} {g : Nat} {o : KOp} {t : TypeId} {fr : Nat × Nat} (h : w.heap[g]? = some (.cells #[.int .i64 o.kind, .int .i64 o.d, .int .i64 o.e, .int .i64 o.a, .int .i64 o.b, .int .i64 o.c, .int .u64 o.imm] t fr)) : OpBox w g o := by
  refine ⟨?_, ?_, ?_, ?_, ?_, ?_, ?_⟩ <;> simp [World.cell?, h]
theorem OpBox.next {w w' : World} {g : Nat} {o : KOp} (h : OpBox w g o) (hb : Below w.heap.size w w') (hl : g < w.heap.size) : OpBox w' g o :=
  ⟨(hb.cell (p := ⟨g, 0, none⟩) hl).trans h.kind, (hb.cell (p := ⟨g, 1, none⟩) hl).trans h.d, (hb.cell (p := ⟨g, 2, none⟩) hl).trans h.e, (hb.cell (p := ⟨g, 3, none⟩) hl).trans h.a, (hb.cell (p := ⟨g, 4, none⟩) hl).trans h.b, (hb.cell (p := ⟨g, 5, none⟩) hl).trans h.c, (hb.cell (p := ⟨g, 6, none⟩) hl).trans h.imm⟩
theorem cell_new (w : World) (row : Array Value) (t : TypeId) {k : Nat} {v : Value} (h : row[k]? = some v) : (w.alloc (.cells row t)).cell? ⟨w.heap.size, k, none⟩ = some v := by
  have h1 := heap_alloc_new w (.cells row t)
  simp only [World.cell?, h1]
  exact h
theorem ne_of {x : Int} {b : Bool} (h : (x == -1) = b) : (x != -1) = !b := by rw [bne, h]
set_option maxRecDepth 100000 in
set_option maxHeartbeats 4000000 in
theorem need_any (A : Option Addr) (n c : Nat) (o : KOp) (w : World) : Calls Tryz.prog 61 #[.slice A n c, .agg #[.int .i64 o.kind, .int .i64 o.d, .int .i64 o.e, .int .i64 o.a, .int .i64 o.b, .int .i64 o.c, .int .u64 o.imm]] w fun e w' => e = .returned (.bool (needK n o)) ∧ Below w.heap.size w w' := by
  cases q1 : (o.d == -1)
  · have HX := Lib.hid (show needK n o = false by unfold needK; rw [q1]; rfl)
    have n1 := ne_of q1
    clear q1
    go_enter Tryz.func61, Tryz.ntmps61
    go_upto_region 1 with (first | go_in)
    obtain ⟨W, hW⟩ : ∃ W, W = (w.alloc (.cells #[.slice A n c] 22)).alloc (.cells #[.int .i64 o.kind, .int .i64 o.d, .int .i64 o.e, .int .i64 o.a, .int .i64 o.b, .int .i64 o.c, .int .u64 o.imm] 43) := ⟨_, rfl⟩
    have hb : Below w.heap.size w W := by rw [hW]; exact ((Below.refl _ _).alloc (Nat.le_refl _) _).alloc (by simp) _
    have hk : OpBox W (w.heap.size + 1) o := OpBox.of (t := 43) (fr := (0, 0)) (by
      rw [hW]
      have h := heap_alloc_new (w.alloc (.cells #[.slice A n c] 22)) (.cells #[.int .i64 o.kind, .int .i64 o.d, .int .i64 o.e, .int .i64 o.a, .int .i64 o.b, .int .i64 o.c, .int .u64 o.imm] 43)
      simpa using h)
    have hv : W.cell? ⟨w.heap.size, 0, none⟩ = some (.slice A n c) := by
      rw [hW]
      exact (((Below.refl (w.heap.size + 1) _).alloc (by simp) _).cell (p := ⟨w.heap.size, 0, none⟩) (show w.heap.size < w.heap.size + 1 by omega)).trans (cell_new w _ _ rfl)
    have hz : W.heap.size = w.heap.size + 2 := by rw [hW]; simp
    rw [← hW]
    clear hW
    have HB := Lib.hid hb
    have HK := Lib.hid hk
    have HV := Lib.hid hv
    have HZ := Lib.hid hz
    have c1 := hk.d
    have c2 := hk.e
    have c3 := hk.a
    have c5 := hk.c
    have HA := Lib.hid (fun (v : Int) (W' : World) (h : Below W.heap.size W W') => need1_any v A n c w.heap.size W' ((h.cell (p := ⟨w.heap.size, 0, none⟩) (show w.heap.size < W.heap.size by omega)).trans hv))
    clear hb hk hv hz
    go_wp2
    go_ret
    exact ⟨ret_bool HX.out.symm, HB.out⟩
  have n1 := ne_of q1
  cases q2 : (o.e == -1)
  · have HX := Lib.hid (show needK n o = false by unfold needK; rw [q1, q2]; rfl)
    have n2 := ne_of q2
    clear q1 q2
    go_enter Tryz.func61, Tryz.ntmps61
    go_upto_region 1 with (first | go_in)
    obtain ⟨W, hW⟩ : ∃ W, W = (w.alloc (.cells #[.slice A n c] 22)).alloc (.cells #[.int .i64 o.kind, .int .i64 o.d, .int .i64 o.e, .int .i64 o.a, .int .i64 o.b, .int .i64 o.c, .int .u64 o.imm] 43) := ⟨_, rfl⟩
    have hb : Below w.heap.size w W := by rw [hW]; exact ((Below.refl _ _).alloc (Nat.le_refl _) _).alloc (by simp) _
    have hk : OpBox W (w.heap.size + 1) o := OpBox.of (t := 43) (fr := (0, 0)) (by
      rw [hW]
      have h := heap_alloc_new (w.alloc (.cells #[.slice A n c] 22)) (.cells #[.int .i64 o.kind, .int .i64 o.d, .int .i64 o.e, .int .i64 o.a, .int .i64 o.b, .int .i64 o.c, .int .u64 o.imm] 43)
      simpa using h)
    have hv : W.cell? ⟨w.heap.size, 0, none⟩ = some (.slice A n c) := by
      rw [hW]
      exact (((Below.refl (w.heap.size + 1) _).alloc (by simp) _).cell (p := ⟨w.heap.size, 0, none⟩) (show w.heap.size < w.heap.size + 1 by omega)).trans (cell_new w _ _ rfl)
    have hz : W.heap.size = w.heap.size + 2 := by rw [hW]; simp
    rw [← hW]
    clear hW
    have HB := Lib.hid hb
    have HK := Lib.hid hk
    have HV := Lib.hid hv
    have HZ := Lib.hid hz
    have c1 := hk.d
    have c2 := hk.e
    have c3 := hk.a
    have c5 := hk.c
    have HA := Lib.hid (fun (v : Int) (W' : World) (h : Below W.heap.size W W') => need1_any v A n c w.heap.size W' ((h.cell (p := ⟨w.heap.size, 0, none⟩) (show w.heap.size < W.heap.size by omega)).trans hv))
    clear hb hk hv hz
    go_wp2
    go_ret
    exact ⟨ret_bool HX.out.symm, HB.out⟩
  have n2 := ne_of q2
  cases q3 : (o.c == -1)
  · have HX := Lib.hid (show needK n o = false by unfold needK; rw [q1, q2, q3]; rfl)
    have n3 := ne_of q3
    clear q1 q2 q3
    go_enter Tryz.func61, Tryz.ntmps61
    go_upto_region 1 with (first | go_in)
    obtain ⟨W, hW⟩ : ∃ W, W = (w.alloc (.cells #[.slice A n c] 22)).alloc (.cells #[.int .i64 o.kind, .int .i64 o.d, .int .i64 o.e, .int .i64 o.a, .int .i64 o.b, .int .i64 o.c, .int .u64 o.imm] 43) := ⟨_, rfl⟩
    have hb : Below w.heap.size w W := by rw [hW]; exact ((Below.refl _ _).alloc (Nat.le_refl _) _).alloc (by simp) _
    have hk : OpBox W (w.heap.size + 1) o := OpBox.of (t := 43) (fr := (0, 0)) (by
      rw [hW]
      have h := heap_alloc_new (w.alloc (.cells #[.slice A n c] 22)) (.cells #[.int .i64 o.kind, .int .i64 o.d, .int .i64 o.e, .int .i64 o.a, .int .i64 o.b, .int .i64 o.c, .int .u64 o.imm] 43)
      simpa using h)
    have hv : W.cell? ⟨w.heap.size, 0, none⟩ = some (.slice A n c) := by
      rw [hW]
      exact (((Below.refl (w.heap.size + 1) _).alloc (by simp) _).cell (p := ⟨w.heap.size, 0, none⟩) (show w.heap.size < w.heap.size + 1 by omega)).trans (cell_new w _ _ rfl)
    have hz : W.heap.size = w.heap.size + 2 := by rw [hW]; simp
    rw [← hW]
    clear hW
    have HB := Lib.hid hb
    have HK := Lib.hid hk
    have HV := Lib.hid hv
    have HZ := Lib.hid hz
    have c1 := hk.d
    have c2 := hk.e
    have c3 := hk.a
    have c5 := hk.c
    have HA := Lib.hid (fun (v : Int) (W' : World) (h : Below W.heap.size W W') => need1_any v A n c w.heap.size W' ((h.cell (p := ⟨w.heap.size, 0, none⟩) (show w.heap.size < W.heap.size by omega)).trans hv))
    clear hb hk hv hz
    go_wp2
    go_ret
    exact ⟨ret_bool HX.out.symm, HB.out⟩
  have n3 := ne_of q3
  cases qa : thereK n o.a
  · have HX := Lib.hid (show needK n o = false by unfold needK; rw [q1, q2, q3, qa]; rfl)
    clear q1 q2 q3
    go_enter Tryz.func61, Tryz.ntmps61
    go_upto_region 1 with (first | go_in)
    obtain ⟨W, hW⟩ : ∃ W, W = (w.alloc (.cells #[.slice A n c] 22)).alloc (.cells #[.int .i64 o.kind, .int .i64 o.d, .int .i64 o.e, .int .i64 o.a, .int .i64 o.b, .int .i64 o.c, .int .u64 o.imm] 43) := ⟨_, rfl⟩
    have hb : Below w.heap.size w W := by rw [hW]; exact ((Below.refl _ _).alloc (Nat.le_refl _) _).alloc (by simp) _
    have hk : OpBox W (w.heap.size + 1) o := OpBox.of (t := 43) (fr := (0, 0)) (by
      rw [hW]
      have h := heap_alloc_new (w.alloc (.cells #[.slice A n c] 22)) (.cells #[.int .i64 o.kind, .int .i64 o.d, .int .i64 o.e, .int .i64 o.a, .int .i64 o.b, .int .i64 o.c, .int .u64 o.imm] 43)
      simpa using h)
    have hv : W.cell? ⟨w.heap.size, 0, none⟩ = some (.slice A n c) := by
      rw [hW]
      exact (((Below.refl (w.heap.size + 1) _).alloc (by simp) _).cell (p := ⟨w.heap.size, 0, none⟩) (show w.heap.size < w.heap.size + 1 by omega)).trans (cell_new w _ _ rfl)
    have hz : W.heap.size = w.heap.size + 2 := by rw [hW]; simp
    rw [← hW]
    clear hW
    have HB := Lib.hid hb
    have HK := Lib.hid hk
    have HV := Lib.hid hv
    have HZ := Lib.hid hz
    have c1 := hk.d
    have c2 := hk.e
    have c3 := hk.a
    have c5 := hk.c
    have HA := Lib.hid (fun (v : Int) (W' : World) (h : Below W.heap.size W W') => need1_any v A n c w.heap.size W' ((h.cell (p := ⟨w.heap.size, 0, none⟩) (show w.heap.size < W.heap.size by omega)).trans hv))
    clear hb hk hv hz
    go_wp2_with (first | ((with_reducible refine (HA.out _ _ (Below.refl _ _)).mono ?_); rintro e w1 ⟨rfl, hb1⟩; rw [qa]; have HB1 := Lib.hid hb1; clear hb1) | go_in)
    go_ret
    exact ⟨ret_bool HX.out.symm, HB.out.trans (HB1.out.mono HB.out.size)⟩
  cases m2 : (o.imm == 2)
  rotate_left
  · have hm : o.imm = 2 := by simpa using m2
    have HX := Lib.hid (show needK n o = thereK n o.b by unfold needK; rw [q1, q2, q3, qa, if_pos hm]; rfl)
    have HM := Lib.hid hm
    clear hm
    clear q1 q2 q3 m2
    go_enter Tryz.func61, Tryz.ntmps61
    go_upto_region 1 with (first | go_in)
    obtain ⟨W, hW⟩ : ∃ W, W = (w.alloc (.cells #[.slice A n c] 22)).alloc (.cells #[.int .i64 o.kind, .int .i64 o.d, .int .i64 o.e, .int .i64 o.a, .int .i64 o.b, .int .i64 o.c, .int .u64 o.imm] 43) := ⟨_, rfl⟩
    have hb : Below w.heap.size w W := by rw [hW]; exact ((Below.refl _ _).alloc (Nat.le_refl _) _).alloc (by simp) _
    have hk : OpBox W (w.heap.size + 1) o := OpBox.of (t := 43) (fr := (0, 0)) (by
      rw [hW]
      have h := heap_alloc_new (w.alloc (.cells #[.slice A n c] 22)) (.cells #[.int .i64 o.kind, .int .i64 o.d, .int .i64 o.e, .int .i64 o.a, .int .i64 o.b, .int .i64 o.c, .int .u64 o.imm] 43)
      simpa using h)
    have hv : W.cell? ⟨w.heap.size, 0, none⟩ = some (.slice A n c) := by
      rw [hW]
      exact (((Below.refl (w.heap.size + 1) _).alloc (by simp) _).cell (p := ⟨w.heap.size, 0, none⟩) (show w.heap.size < w.heap.size + 1 by omega)).trans (cell_new w _ _ rfl)
    have hz : W.heap.size = w.heap.size + 2 := by rw [hW]; simp
    rw [← hW]
    clear hW
    have HB := Lib.hid hb
    have HK := Lib.hid hk
    have HV := Lib.hid hv
    have HZ := Lib.hid hz
    have c1 := hk.d
    have c2 := hk.e
    have c3 := hk.a
    have c5 := hk.c
    have HA := Lib.hid (fun (v : Int) (W' : World) (h : Below W.heap.size W W') => need1_any v A n c w.heap.size W' ((h.cell (p := ⟨w.heap.size, 0, none⟩) (show w.heap.size < W.heap.size by omega)).trans hv))
    clear hb hk hv hz
    have c4 := HK.out.b
    have c6 := HK.out.imm
    rw [HM.out] at c6
    go_wp2_with (first | ((with_reducible refine (HA.out o.a _ (Below.refl _ _)).mono ?_); rintro e w1 ⟨rfl, hb1⟩; rw [qa]; have c4 := (HK.out.next hb1 (by have := HZ.out; omega)).b; have c6 := (HK.out.next hb1 (by have := HZ.out; omega)).imm; (try rw [HM.out] at c6); have HB1 := Lib.hid hb1; clear hb1) | ((with_reducible refine (HA.out o.b _ HB1.out).mono ?_); rintro e w2 ⟨rfl, hb2⟩) | go_in)
    go_ret
    exact ⟨ret_bool HX.out.symm, (HB.out.trans (HB1.out.mono HB.out.size)).trans (hb2.mono (Nat.le_trans HB.out.size HB1.out.size))⟩
  have hm2 : o.imm ≠ 2 := by simpa using m2
  cases m1 : (o.imm == 1)
  rotate_left
  · have hm : o.imm = 1 := by simpa using m1
    have HX := Lib.hid (show needK n o = (o.b == -1) by unfold needK; rw [q1, q2, q3, qa, if_neg hm2, if_pos (.inl hm)]; rfl)
    have HM := Lib.hid hm
    clear hm
    clear q1 q2 q3 m2 m1 hm2
    go_enter Tryz.func61, Tryz.ntmps61
    go_upto_region 1 with (first | go_in)
    obtain ⟨W, hW⟩ : ∃ W, W = (w.alloc (.cells #[.slice A n c] 22)).alloc (.cells #[.int .i64 o.kind, .int .i64 o.d, .int .i64 o.e, .int .i64 o.a, .int .i64 o.b, .int .i64 o.c, .int .u64 o.imm] 43) := ⟨_, rfl⟩
    have hb : Below w.heap.size w W := by rw [hW]; exact ((Below.refl _ _).alloc (Nat.le_refl _) _).alloc (by simp) _
    have hk : OpBox W (w.heap.size + 1) o := OpBox.of (t := 43) (fr := (0, 0)) (by
      rw [hW]
      have h := heap_alloc_new (w.alloc (.cells #[.slice A n c] 22)) (.cells #[.int .i64 o.kind, .int .i64 o.d, .int .i64 o.e, .int .i64 o.a, .int .i64 o.b, .int .i64 o.c, .int .u64 o.imm] 43)
      simpa using h)
    have hv : W.cell? ⟨w.heap.size, 0, none⟩ = some (.slice A n c) := by
      rw [hW]
      exact (((Below.refl (w.heap.size + 1) _).alloc (by simp) _).cell (p := ⟨w.heap.size, 0, none⟩) (show w.heap.size < w.heap.size + 1 by omega)).trans (cell_new w _ _ rfl)
    have hz : W.heap.size = w.heap.size + 2 := by rw [hW]; simp
    rw [← hW]
    clear hW
    have HB := Lib.hid hb
    have HK := Lib.hid hk
    have HV := Lib.hid hv
    have HZ := Lib.hid hz
    have c1 := hk.d
    have c2 := hk.e
    have c3 := hk.a
    have c5 := hk.c
    have HA := Lib.hid (fun (v : Int) (W' : World) (h : Below W.heap.size W W') => need1_any v A n c w.heap.size W' ((h.cell (p := ⟨w.heap.size, 0, none⟩) (show w.heap.size < W.heap.size by omega)).trans hv))
    clear hb hk hv hz
    have c4 := HK.out.b
    have c6 := HK.out.imm
    rw [HM.out] at c6
    go_wp2_with (first | ((with_reducible refine (HA.out o.a _ (Below.refl _ _)).mono ?_); rintro e w1 ⟨rfl, hb1⟩; rw [qa]; have c4 := (HK.out.next hb1 (by have := HZ.out; omega)).b; have c6 := (HK.out.next hb1 (by have := HZ.out; omega)).imm; (try rw [HM.out] at c6); have HB1 := Lib.hid hb1; clear hb1) | ((with_reducible refine (HA.out o.b _ HB1.out).mono ?_); rintro e w2 ⟨rfl, hb2⟩) | go_in)
    go_ret
    exact ⟨ret_bool HX.out.symm, HB.out.trans (HB1.out.mono HB.out.size)⟩
  have hm1 : o.imm ≠ 1 := by simpa using m1
  cases m3 : (o.imm == 3)
  rotate_left
  · have hm : o.imm = 3 := by simpa using m3
    have HX := Lib.hid (show needK n o = (o.b == -1) by unfold needK; rw [q1, q2, q3, qa, if_neg hm2, if_pos (.inr hm)]; rfl)
    have HM := Lib.hid hm
    clear hm
    clear q1 q2 q3 m2 m1 m3 hm2 hm1
    go_enter Tryz.func61, Tryz.ntmps61
    go_upto_region 1 with (first | go_in)
    obtain ⟨W, hW⟩ : ∃ W, W = (w.alloc (.cells #[.slice A n c] 22)).alloc (.cells #[.int .i64 o.kind, .int .i64 o.d, .int .i64 o.e, .int .i64 o.a, .int .i64 o.b, .int .i64 o.c, .int .u64 o.imm] 43) := ⟨_, rfl⟩
    have hb : Below w.heap.size w W := by rw [hW]; exact ((Below.refl _ _).alloc (Nat.le_refl _) _).alloc (by simp) _
    have hk : OpBox W (w.heap.size + 1) o := OpBox.of (t := 43) (fr := (0, 0)) (by
      rw [hW]
      have h := heap_alloc_new (w.alloc (.cells #[.slice A n c] 22)) (.cells #[.int .i64 o.kind, .int .i64 o.d, .int .i64 o.e, .int .i64 o.a, .int .i64 o.b, .int .i64 o.c, .int .u64 o.imm] 43)
      simpa using h)
    have hv : W.cell? ⟨w.heap.size, 0, none⟩ = some (.slice A n c) := by
      rw [hW]
      exact (((Below.refl (w.heap.size + 1) _).alloc (by simp) _).cell (p := ⟨w.heap.size, 0, none⟩) (show w.heap.size < w.heap.size + 1 by omega)).trans (cell_new w _ _ rfl)
    have hz : W.heap.size = w.heap.size + 2 := by rw [hW]; simp
    rw [← hW]
    clear hW
    have HB := Lib.hid hb
    have HK := Lib.hid hk
    have HV := Lib.hid hv
    have HZ := Lib.hid hz
    have c1 := hk.d
    have c2 := hk.e
    have c3 := hk.a
    have c5 := hk.c
    have HA := Lib.hid (fun (v : Int) (W' : World) (h : Below W.heap.size W W') => need1_any v A n c w.heap.size W' ((h.cell (p := ⟨w.heap.size, 0, none⟩) (show w.heap.size < W.heap.size by omega)).trans hv))
    clear hb hk hv hz
    have c4 := HK.out.b
    have c6 := HK.out.imm
    rw [HM.out] at c6
    go_wp2_with (first | ((with_reducible refine (HA.out o.a _ (Below.refl _ _)).mono ?_); rintro e w1 ⟨rfl, hb1⟩; rw [qa]; have c4 := (HK.out.next hb1 (by have := HZ.out; omega)).b; have c6 := (HK.out.next hb1 (by have := HZ.out; omega)).imm; (try rw [HM.out] at c6); have HB1 := Lib.hid hb1; clear hb1) | ((with_reducible refine (HA.out o.b _ HB1.out).mono ?_); rintro e w2 ⟨rfl, hb2⟩) | go_in)
    go_ret
    exact ⟨ret_bool HX.out.symm, HB.out.trans (HB1.out.mono HB.out.size)⟩
  have hm3 : o.imm ≠ 3 := by simpa using m3
  have HX := Lib.hid (show needK n o = false by unfold needK; rw [q1, q2, q3, qa, if_neg hm2, if_neg (by omega)]; rfl)
  have x2 : (((o.imm : Nat) : Int) == 2) = false := beq_eq_false_iff_ne.2 (by omega)
  have x1 : (((o.imm : Nat) : Int) == 1) = false := beq_eq_false_iff_ne.2 (by omega)
  have x3 : (((o.imm : Nat) : Int) == 3) = false := beq_eq_false_iff_ne.2 (by omega)
  clear q1 q2 q3 m1 m2 m3 hm1 hm2 hm3
  go_enter Tryz.func61, Tryz.ntmps61
  go_upto_region 1 with (first | go_in)
  obtain ⟨W, hW⟩ : ∃ W, W = (w.alloc (.cells #[.slice A n c] 22)).alloc (.cells #[.int .i64 o.kind, .int .i64 o.d, .int .i64 o.e, .int .i64 o.a, .int .i64 o.b, .int .i64 o.c, .int .u64 o.imm] 43) := ⟨_, rfl⟩
  have hb : Below w.heap.size w W := by rw [hW]; exact ((Below.refl _ _).alloc (Nat.le_refl _) _).alloc (by simp) _
  have hk : OpBox W (w.heap.size + 1) o := OpBox.of (t := 43) (fr := (0, 0)) (by
    rw [hW]
    have h := heap_alloc_new (w.alloc (.cells #[.slice A n c] 22)) (.cells #[.int .i64 o.kind, .int .i64 o.d, .int .i64 o.e, .int .i64 o.a, .int .i64 o.b, .int .i64 o.c, .int .u64 o.imm] 43)
    simpa using h)
  have hv : W.cell? ⟨w.heap.size, 0, none⟩ = some (.slice A n c) := by
    rw [hW]
    exact (((Below.refl (w.heap.size + 1) _).alloc (by simp) _).cell (p := ⟨w.heap.size, 0, none⟩) (show w.heap.size < w.heap.size + 1 by omega)).trans (cell_new w _ _ rfl)
  have hz : W.heap.size = w.heap.size + 2 := by rw [hW]; simp
  rw [← hW]
  clear hW
  have HB := Lib.hid hb
  have HK := Lib.hid hk
  have HV := Lib.hid hv
  have HZ := Lib.hid hz
  have c1 := hk.d
  have c2 := hk.e
  have c3 := hk.a
  have c5 := hk.c
  have HA := Lib.hid (fun (v : Int) (W' : World) (h : Below W.heap.size W W') => need1_any v A n c w.heap.size W' ((h.cell (p := ⟨w.heap.size, 0, none⟩) (show w.heap.size < W.heap.size by omega)).trans hv))
  clear hb hk hv hz
  have c4 := HK.out.b
  have c6 := HK.out.imm
  go_wp2_with (first | ((with_reducible refine (HA.out o.a _ (Below.refl _ _)).mono ?_); rintro e w1 ⟨rfl, hb1⟩; rw [qa]; have c4 := (HK.out.next hb1 (by have := HZ.out; omega)).b; have c6 := (HK.out.next hb1 (by have := HZ.out; omega)).imm; (try rw [HM.out] at c6); have HB1 := Lib.hid hb1; clear hb1) | ((with_reducible refine (HA.out o.b _ HB1.out).mono ?_); rintro e w2 ⟨rfl, hb2⟩) | go_in)
  go_ret
  exact ⟨ret_bool HX.out.symm, HB.out.trans (HB1.out.mono HB.out.size)⟩
end Go.Proofs.YtjbabpnepjhllaaGreat
