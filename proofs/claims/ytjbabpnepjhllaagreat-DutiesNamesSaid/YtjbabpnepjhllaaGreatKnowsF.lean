/- duties.Knows. -/
import Derived.Test.YtjbabpnepjhllaaGreatPutF
import Derived.Test.YtjbabpnepjhllaaGreatIdx21
import Derived.ChangeKeysEq
import Derived.Laws.StructEq
namespace Go.Proofs.YtjbabpnepjhllaaGreat
open Go.RowKit

theorem beqF (x y : Fct) : (x == y) = (x.kind == y.kind && (x.a == y.a && x.b == y.b)) := by
  rw [Bool.eq_iff_iff]
  simp only [beq_iff_eq, Bool.and_eq_true]
  exact ⟨fun e => by subst e; exact ⟨rfl, rfl, rfl⟩, fun h => Fct.ext_ h.1 h.2.1 h.2.2⟩
theorem eq_fact (x y : Fct) (w : World) : (Op.equalIn 10000 45 (.agg #[.int .i64 x.kind, .int .i64 x.a, .int .i64 x.b]) (.agg #[.int .i64 y.kind, .int .i64 y.a, .int .i64 y.b])).run Tryz.prog w = .ok (x == y) w := by
  have hS : Tryz.prog.underlying 45 = some (.struct (Tryz.prog.fieldsOf 45)) := by kernel_rfl
  have hp : Tryz.prog.stoodInHeld 45 = false := by kernel_rfl
  rw [show (10000 : Nat) = 9999 + 1 from rfl, run_equalIn_agg w 9999 45 _ _ hS hp, beqF]
  simp only [Program.fieldsOf, Tryz.underlying45]
  go_simp
  by_cases h1 : x.kind = y.kind <;> by_cases h2 : x.a = y.a <;> by_cases h3 : x.b = y.b <;> simp [h1, h2, h3]
set_option maxRecDepth 100000 in
set_option maxHeartbeats 4000000 in
/-- The question that Knows asks of each fact. -/
theorem knows1_any (x f : Fct) (B : Nat) (w : World) (h0 : w.cell? ⟨B, 0, none⟩ = some (.int .i64 f.kind)) (h1 : w.cell? ⟨B, 1, none⟩ = some (.int .i64 f.a)) (h2 : w.cell? ⟨B, 2, none⟩ = some (.int .i64 f.b)) (hB : B < w.heap.size) :
    Calls Tryz.prog 49 #[.agg #[.int .i64 x.kind, .int .i64 x.a, .int .i64 x.b], .pointer (some ⟨B, 0, none⟩)] w fun e w' => e = .returned (.bool (saysF x f)) ∧ Below w.heap.size w w' := by
  have heq := fun w => eq_fact x f w
  have hv : saysF x f = (x == f || (f.kind == 3 && ((x.kind == 1 && x.a == f.a) || (x.kind == 2 && x.b == f.a)))) := rfl
  obtain ⟨e, he⟩ : ∃ e, (x == f) = e := ⟨_, rfl⟩
  rw [he] at heq hv
  cases d0 : (f.kind == 3)
  · rw [d0] at hv
    cases e
    · have HV := Lib.hid (show saysF x f = false by rw [hv]; rfl)
      clear hv he
      go_enter Tryz.func49, Tryz.ntmps49
      go_wp2
      go_ret
      exact ⟨ret_bool HV.out.symm, (Below.refl _ _).alloc (Nat.le_refl _) _⟩
    · have HV := Lib.hid (show saysF x f = true by rw [hv]; rfl)
      clear hv he
      go_enter Tryz.func49, Tryz.ntmps49
      go_wp2
      go_ret
      exact ⟨ret_bool HV.out.symm, (Below.refl _ _).alloc (Nat.le_refl _) _⟩
  · cases e
    rotate_left
    · have HV := Lib.hid (show saysF x f = true by rw [hv]; rfl)
      clear hv he
      go_enter Tryz.func49, Tryz.ntmps49
      go_wp2
      go_ret
      exact ⟨ret_bool HV.out.symm, (Below.refl _ _).alloc (Nat.le_refl _) _⟩
    have HD0 := Lib.hid d0
    cases d1 : (x.kind == 1)
    · cases d2 : (x.kind == 2)
      · have HV := Lib.hid (show saysF x f = false by rw [hv, d0, d1, d2]; rfl)
        clear hv he
        go_enter Tryz.func49, Tryz.ntmps49
        go_wp2
        go_ret
        exact ⟨ret_bool HV.out.symm, (Below.refl _ _).alloc (Nat.le_refl _) _⟩
      · cases d3 : (x.b == f.a)
        · have HV := Lib.hid (show saysF x f = false by rw [hv, d0, d1, d2, d3]; rfl)
          clear hv he
          go_enter Tryz.func49, Tryz.ntmps49
          go_wp2
          go_ret
          exact ⟨ret_bool HV.out.symm, (Below.refl _ _).alloc (Nat.le_refl _) _⟩
        · have HV := Lib.hid (show saysF x f = true by rw [hv, d0, d1, d2, d3]; rfl)
          clear hv he
          go_enter Tryz.func49, Tryz.ntmps49
          go_wp2
          go_ret
          exact ⟨ret_bool HV.out.symm, (Below.refl _ _).alloc (Nat.le_refl _) _⟩
    · have d2 : (x.kind == 2) = false := by simp only [beq_iff_eq] at d1; rw [d1]; rfl
      cases d3 : (x.a == f.a)
      · have HV := Lib.hid (show saysF x f = false by rw [hv, d0, d1, d2, d3]; rfl)
        clear hv he
        go_enter Tryz.func49, Tryz.ntmps49
        go_wp2
        go_ret
        exact ⟨ret_bool HV.out.symm, (Below.refl _ _).alloc (Nat.le_refl _) _⟩
      · have HV := Lib.hid (show saysF x f = true by rw [hv, d0, d1, d2, d3]; rfl)
        clear hv he
        go_enter Tryz.func49, Tryz.ntmps49
        go_wp2
        go_ret
        exact ⟨ret_bool HV.out.symm, (Below.refl _ _).alloc (Nat.le_refl _) _⟩
set_option maxHeartbeats 1000000 in
/-- Knows. -/
theorem Knows_any (v : Value) (f : Fct) (l : List Fct) (w : World) (F : Nat → Prop) (hl : FactsAt w F v l) (hF : ∀ k, F k → k < w.heap.size) (hn : l.length ≤ 100000) :
    Calls Tryz.prog 19 #[v, .agg #[.int .i64 f.kind, .int .i64 f.a, .int .i64 f.b]] w fun e w' => e = .returned (.bool (knowsF l f)) ∧ Below w.heap.size w w' := by
  obtain ⟨W, hW⟩ : ∃ W, W = w.alloc (.cells #[.int .i64 f.kind, .int .i64 f.a, .int .i64 f.b] 45) := ⟨_, rfl⟩
  have hb : Below w.heap.size w W := by rw [hW]; exact (Below.refl _ _).alloc (Nat.le_refl _) _
  have hz : W.heap.size = w.heap.size + 1 := by rw [hW]; simp
  have hc : ∀ i, W.cell? ⟨w.heap.size, i, none⟩ = #[Value.int .i64 f.kind, .int .i64 f.a, .int .i64 f.b][i]? := fun i => by rw [hW, World.cell?_alloc_at _ _ _ _ rfl]
  have HP := Lib.hid (ContainsFunc_Fct v 49 #[.pointer (some ⟨w.heap.size, 0, none⟩)] W F l (fun x => saysF x f) (by omega) (enters_of Tryz.func49 (by kernel_rfl) rfl) (Rows.keep hl (SameOn.of_below hb hF)) (fun k hk => by have := hF k hk; omega)
    (fun x _ wr hbr => knows1_any x f w.heap.size wr ((hbr.cell (p := ⟨w.heap.size, 0, none⟩) (by simp only; omega)).trans (hc 0)) ((hbr.cell (p := ⟨w.heap.size, 1, none⟩) (by simp only; omega)).trans (hc 1)) ((hbr.cell (p := ⟨w.heap.size, 2, none⟩) (by simp only; omega)).trans (hc 2)) (by have := hbr.size; omega)))
  have HW := Lib.hid hW
  have HB := Lib.hid hb
  obtain ⟨A, c, rfl, _⟩ := rows_form hl
  clear hW hb hz hc hl hF hn
  go_enter Tryz.func19, Tryz.ntmps19
  go_upto_region 1 with fail
  rw [← HW.out]
  go_wp2_with ((with_reducible refine (HP.out).mono ?_); rintro e w1 ⟨rfl, hb1⟩)
  go_ret
  exact ⟨rfl, HB.out.trans (hb1.mono HB.out.size)⟩
end Go.Proofs.YtjbabpnepjhllaaGreat
