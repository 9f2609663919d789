/- The reference's limb programs: field, in. -/
import Derived.Test.YtppoiahhaclleaaDoorLimbB
namespace Go.Proofs.YtppoiahhaclleaaDoor
open Go.RowKit

set_option maxRecDepth 100000 in
set_option maxHeartbeats 4000000 in
theorem Rfield_any (p : LP) (vb vo : Value) (r : Int) (has : Bool) (w : World) :
    Calls Tryd.prog 47 #[.agg #[.int .i64 p.regs, vb, vo], .int .i64 r, .bool has] w fun e w' => e = .returned (.bool (regIs p r has)) ∧ Below w.heap.size w w' := by
  obtain ⟨n, hn⟩ : ∃ n, p.regs = n := ⟨_, rfl⟩
  have hr : regIs p r has = if has then decide (0 ≤ r) && decide (r < n) else r == -1 := by unfold regIs; rw [hn]
  rw [hr, hn]
  clear hr hn
  cases has
  · go_enter Tryd.func47, Tryd.ntmps47
    go_wp2
    go_ret
    exact ⟨rfl, (Below.refl _ _).alloc (Nat.le_refl _) _⟩
  · by_cases h0 : 0 ≤ r
    · have d0 : decide (0 ≤ r) = true := decide_eq_true h0
      go_enter Tryd.func47, Tryd.ntmps47
      go_wp2
      go_ret
      exact ⟨rfl, (Below.refl _ _).alloc (Nat.le_refl _) _⟩
    · have d0 : decide (0 ≤ r) = false := decide_eq_false h0
      go_enter Tryd.func47, Tryd.ntmps47
      go_wp2
      go_ret
      exact ⟨rfl, (Below.refl _ _).alloc (Nat.le_refl _) _⟩
theorem contains_take {l : List Int} {r : Int} {k : Nat} {x : Int} (h : (l.take k).contains r = false) (hx : l[k]? = some x) (hne : (x == r) = false) : (l.take (k + 1)).contains r = false := by
  rw [List.take_add_one, hx]
  simp only [Option.toList_some, List.contains_eq_mem, List.mem_append, List.mem_singleton, decide_eq_false_iff_not, not_or] at h ⊢
  exact ⟨h, fun e => by rw [e] at hne; simp at hne⟩
set_option maxRecDepth 100000 in
set_option maxHeartbeats 4000000 in
theorem Rin_any (v : Value) (r : Int) (w : World) (F : Nat → Prop) (l : List Int) (hn : l.length ≤ 9223372036854775807) (h : NumsAt w F v l) :
    Calls Tryd.prog 30 #[v, .int .i64 r] w fun e w' => e = .returned (.bool (l.contains r)) ∧ w = w' := by
  obtain ⟨A, c, rfl, _⟩ := rows_form h
  have H := Lib.hid h
  clear h
  obtain ⟨q, hq⟩ : ∃ q, l.contains r = q := ⟨_, rfl⟩
  rw [hq]
  have HQ := Lib.hid hq
  clear hq
  generalize hl : l.length = n at *
  have HL := Lib.hid hl
  clear hl
  go_enter Tryd.func30, Tryd.ntmps30
  go_wp2
  go_loop [5] (fun i => ∃ k : Nat, k ≤ n ∧ i = .int .i64 k ∧ Hid ((l.take k).contains r = false)) (fun i => n - (intOf i).toNat)
  case atStart => exact ⟨0, by omega, rfl, Lib.hid (by simp)⟩
  case round =>
    obtain ⟨k, hk, rfl, HT⟩ := hrel
    by_cases hlt : k < n
    · obtain ⟨x, hx⟩ : ∃ x, l[k]? = some x := ⟨_, List.getElem?_eq_getElem (by have := HL.out; omega)⟩
      have HX := Lib.hid hx
      obtain ⟨b, o, rfl, _, hc⟩ := H.out.at_ hx
      clear hx
      have i0 : (0 : Int) ≤ (k : Int) := by omega
      have i1 : (k : Int) < (n : Int) := by omega
      cases he : (x == r)
      · have HN := Lib.hid (contains_take HT.out HX.out he)
        go_wp2
        go_round
        case rel => exact ⟨k + 1, by omega, by go_num, HN⟩
        case measure => simp [intOf]; omega
      · have HE := Lib.hid he
        go_wp2
        go_ret
        refine ⟨ret_bool ?_, rfl⟩
        have : x = r := by simpa using HE.out
        subst this
        rw [← HQ.out, List.contains_eq_mem]
        exact (decide_eq_true (List.mem_of_getElem? HX.out)).symm
    · go_wp2
      go_ret
      refine ⟨ret_bool ?_, rfl⟩
      have h1 := HT.out
      rw [List.take_of_length_le (by have := HL.out; omega)] at h1
      rw [← HQ.out]
      exact h1.symm
end Go.Proofs.YtppoiahhaclleaaDoor
