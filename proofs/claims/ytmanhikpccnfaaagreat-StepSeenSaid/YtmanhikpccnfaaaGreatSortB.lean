/- slices.SortFunc over regions, of at most 12: the sort by insertion. -/
import Derived.Test.YtmanhikpccnfaaaGreatSort
namespace Go.Proofs.YtmanhikpccnfaaaGreat
open Go.RowKit

set_option maxRecDepth 100000 in
set_option maxHeartbeats 400000 in
theorem insertionSort_zero (A : Option Addr) (cap : Nat) (f : Value) (w : World) :
    Calls Tryz.prog 110 #[.slice A 0 cap, .int .i64 0, .int .i64 0, f] w fun e w' => e = .returned (.tuple #[]) ∧ w = w' := by
  go_enter Tryz.func110, Tryz.ntmps110
  go_wp2
  refine wp_loop_rounds 1 ?_
  rw [rounds_succ]
  go_wp2
  go_end0
  exact ⟨rfl, rfl⟩

set_option maxRecDepth 100000 in
set_option maxHeartbeats 400000 in
theorem pdqsort_any (g cap n : Nat) (E : List Ent) (lim : Int) (w : World) (hn : E.length = n) (hn2 : n ≤ 12) (hr : RowsBlk w g 38 3 (E.map entRow)) :
    Calls Tryz.prog 78 #[.slice (some ⟨g, 0, none⟩) n cap, .int .i64 0, .int .i64 n, .int .i64 lim, .func (.func 58) #[] #[]] w fun e w' =>
      e = .returned (.tuple #[]) ∧ Chg (· = g) w w' ∧ RowsBlk w' g 38 3 ((sortEnts E).map entRow) := by
  have H := Lib.hid (insertionSort_any g cap n E w hn (by omega) hr)
  have h12 : (n : Int) ≤ 12 := by omega
  clear hn hr
  go_enter Tryz.func78, Tryz.ntmps78
  go_wp2
  refine wp_loop_rounds 1 ?_
  rw [rounds_succ]
  go_wp2_with ((with_reducible refine (H.out).mono ?_); rintro e w1 ⟨rfl, hch, hrow⟩)
  refine bodyPost_ret (v := .tuple #[]) (results_none rfl _ _ _) rfl ?_
  exact ⟨rfl, hch, hrow⟩

set_option maxRecDepth 100000 in
set_option maxHeartbeats 400000 in
theorem pdqsort_zero (A : Option Addr) (cap : Nat) (lim : Int) (f : Value) (w : World) :
    Calls Tryz.prog 78 #[.slice A 0 cap, .int .i64 0, .int .i64 0, .int .i64 lim, f] w fun e w' => e = .returned (.tuple #[]) ∧ w = w' := by
  have H := Lib.hid (insertionSort_zero A cap f w)
  go_enter Tryz.func78, Tryz.ntmps78
  go_wp2
  refine wp_loop_rounds 1 ?_
  rw [rounds_succ]
  go_wp2_with ((with_reducible refine (H.out).mono ?_); rintro e w1 ⟨rfl, rfl⟩)
  refine bodyPost_ret (v := .tuple #[]) (results_none rfl _ _ _) rfl ?_
  exact ⟨rfl, rfl⟩

set_option maxHeartbeats 400000 in
theorem SortFunc_any (g cap n : Nat) (E : List Ent) (w : World) (hn : E.length = n) (hn2 : n ≤ 12) (hr : RowsBlk w g 38 3 (E.map entRow)) :
    Calls Tryz.prog 57 #[.slice (some ⟨g, 0, none⟩) n cap, .func (.func 58) #[] #[]] w fun e w' =>
      e = .returned (.tuple #[]) ∧ Chg (· = g) w w' ∧ RowsBlk w' g 38 3 ((sortEnts E).map entRow) := by
  have H := fun lim => pdqsort_any g cap n E lim w hn hn2 hr
  have H := Lib.hid H
  have h0 : (0 : Int) ≤ n := by omega
  have h1 : (n : Int) ≤ 18446744073709551615 := by omega
  clear hn hr
  go_enter Tryz.func57, Tryz.ntmps57
  go_wp2_with (first | (go_at_call 79; (refine (Tryz.bits_Len _ _ (by omega) (by omega)).mono ?_); rintro e w1 ⟨rfl, rfl⟩) | ((with_reducible refine (H.out _).mono ?_); rintro e w1 ⟨rfl, hch, hrow⟩))
  go_end0
  exact ⟨rfl, hch, hrow⟩

set_option maxHeartbeats 400000 in
theorem SortFunc_zero (A : Option Addr) (cap : Nat) (f : Value) (w : World) :
    Calls Tryz.prog 57 #[.slice A 0 cap, f] w fun e w' => e = .returned (.tuple #[]) ∧ w = w' := by
  have H := fun lim => pdqsort_zero A cap lim f w
  have H := Lib.hid H
  go_enter Tryz.func57, Tryz.ntmps57
  go_wp2_with (first | (go_at_call 79; (refine (Tryz.bits_Len _ _ (by omega) (by omega)).mono ?_); rintro e w1 ⟨rfl, rfl⟩) | ((with_reducible refine (H.out _).mono ?_); rintro e w1 ⟨rfl, rfl⟩))
  go_end0
  exact ⟨rfl, rfl⟩
end Go.Proofs.YtmanhikpccnfaaaGreat
