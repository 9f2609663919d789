/- keysmithlaw08: lives. -/
import Derived.Test.YtmanhikpccnfaaaHeld
import Derived.Test.YtmanhikpccnfaaaPlainSums
import Derived.Test.YtmanhikpccnfaaaEvs
namespace Go.Proofs.Ytmanhikpccnfaaa
open Go.RowKit

theorem New_none (w0 w : World) (hb : Below w0.heap.size w0 w) : Calls Try.prog 7 #[.slice none 0 0] w fun e w' => ∃ bm, e = .returned (.tuple #[.pointer (some ⟨bm, 0, none⟩), .int .i64 0]) ∧ Held w0 w' (seg w.heap.size w'.heap.size) (.pointer (some ⟨bm, 0, none⟩)) [] [] [] := by
  refine (New_any _ w (fun k => k < w.heap.size) [] (by simp) ⟨[], rfl, ⟨none, 0, rfl, by simp, by simp, fun h => absurd rfl h⟩, by simp⟩ (fun _ h => h)).mono ?_
  rintro e w' ⟨hb', ⟨h0, _⟩ | ⟨_, p, rfl, hm⟩⟩
  · exact absurd rfl h0
  · obtain ⟨bm, rfl⟩ : ∃ bm, p = .pointer (some ⟨bm, 0, none⟩) := by obtain ⟨bm, v, h, _⟩ := hm; exact ⟨bm, h⟩
    exact ⟨bm, rfl, hb.trans (hb'.mono hb.size), hm, fun k hk => hk.2, fun k hk => Nat.le_trans hb.size hk.1, by simp, by simp, by simp⟩

def stL0 : St := ⟨[0, 0, 0, 0, 0, 0, 0, 0, 0, 0, 0, 0, 0, 0, 0, 0], 0, true, false, false⟩
def stL1 : St := ⟨[18446744073709551615, 0, 0, 0, 0, 0, 0, 0, 0, 0, 0, 0, 0, 0, 0, 0], 0, true, false, false⟩
def stL2 : St := ⟨[0, 0, 0, 0, 0, 0, 0, 0, 0, 0, 0, 0, 0, 0, 0, 0], 3, true, false, true⟩
def insL : Ins := ⟨7, 0, 1, 0, 0, 0, 0, 0, 0⟩
theorem okL0 : StOk stL0 := ⟨rfl, by decide, by decide⟩
theorem okL1 : StOk stL1 := ⟨rfl, by decide, by decide⟩
theorem stepL : stepF stL1 insL 3 [] = ⟨0, stL2, [⟨1, 0⟩], []⟩ := by
  have h := stepF_over (s := stL1) (i := insL) (size := 3) (rs := []) (by decide +kernel) (by decide) (by decide) rfl
  rw [h]
  rfl
theorem insOk_lit {i : Ins} (h : (decide (-9223372036854775808 ≤ i.disp) && decide (i.disp ≤ 9223372036854775807) && (decide (-9223372036854775808 ≤ i.imm) && decide (i.imm ≤ 9223372036854775807))) = true) : InsOk i := by
  simp only [Bool.and_eq_true, decide_eq_true_eq] at h
  exact ⟨h.1, h.2⟩

set_option maxRecDepth 100000 in
set_option maxHeartbeats 1600000 in
theorem lives_any (w : World) : Calls Try.prog 6 #[] w fun e w' => e = .returned (.bool true) ∧ Below w.heap.size w w' := by
  have HN := Lib.hid (New_none w w (Below.refl _ _))
  go_enter Try.func6, Try.ntmps6
  go_wp2_with fail
  refine HN.out.mono ?_
  rintro e w1 ⟨bm, rfl, hH⟩
  have H := Lib.hid hH
  clear hH HN
  go_upto_region 3 with (refine H.out.store_fresh (s := stL0) okL0 rfl _ _ rfl _ rfl rfl rfl ?_; intro W hW; clear H; have H := Lib.hid hW; clear hW)
  have c0 : W.cell? ⟨w1.heap.size, 0, none⟩ = some (.int .u64 0) := H.out.cell 0 0 rfl rfl
  have f0 := H.out.frozen 0 0 rfl
  go_upto_region 4 with fail
  refine wp_name ?_
  intro W1 hW1
  have hH := (H.out.setCell (i := 0) rfl 0 (.int .u64 18446744073709551615) (s' := stL1) rfl okL1).cast hW1
  clear hW1 c0 f0 H
  have H := Lib.hid hH
  clear hH
  go_wp2_with (refine H.out.load_row 0 rfl rfl _ rfl rfl ?_)
  refine (H.out.Do 0 rfl insL (insOk_lit rfl) 3 stepL).mono ?_
  rintro e w3 ⟨A, c, rfl, hH⟩
  clear H
  have H := Lib.hid hH
  clear hH
  go_upto_region 5 with (refine H.out.store_fresh (s := stL2) ⟨rfl, by decide, by decide⟩ rfl _ _ rfl _ rfl rfl rfl ?_; intro W hW; clear H; have H := Lib.hid hW; clear hW)
  have d0 : W.cell? ⟨w3.heap.size, 0, none⟩ = some (.int .u64 0) := H.out.cell 0 0 rfl rfl
  have d1 : W.cell? ⟨w3.heap.size, 16, none⟩ = some (.int .u64 3) := H.out.cell 0 16 rfl rfl
  have d2 : W.cell? ⟨w3.heap.size, 17, none⟩ = some (.bool true) := H.out.cell 0 17 rfl rfl
  have d3 : W.cell? ⟨w3.heap.size, 18, none⟩ = some (.bool false) := H.out.cell 0 18 rfl rfl
  have d4 : W.cell? ⟨w3.heap.size, 19, none⟩ = some (.bool true) := H.out.cell 0 19 rfl rfl
  go_wp2_with fail
  refine (H.out.same_lit 0 rfl [⟨1, 0⟩] 1 rfl (by decide) _ rfl).mono ?_
  rintro e w4 ⟨rfl, hH⟩
  clear H
  have H := Lib.hid hH
  clear hH
  rw [sameE_self]
  go_wp2
  go_ret
  exact ⟨rfl, H.out.below⟩
end Go.Proofs.Ytmanhikpccnfaaa
