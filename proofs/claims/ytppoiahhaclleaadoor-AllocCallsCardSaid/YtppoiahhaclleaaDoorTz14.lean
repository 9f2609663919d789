/- math/bits.TrailingZeros64, laid by hand; slices.SortFunc of one struct or none. -/
import Derived.Test.YtppoiahhaclleaaDoorSortJ
import Derived.Shelf.Spec.TrailingZeros
namespace Go.Proofs.YtppoiahhaclleaaDoor
open Go.RowKit Go.Shelf

def tz_ren : Go.Shelf.Ren := ⟨fun | 29 => 57 | n => n, fun | 22 => 45 | 25 => 114 | 54 => 121 | n => n, fun | 1 => 0 | n => n⟩
theorem tz_lays : Lays7.n29 Tryd.prog tz_ren := {
  mixed := by kernel_rfl
  f29 := Tryd.func57.trans (congrArg some (by kernel_rfl))
  t0 := Tryd.underlying0
  a0 := Tryd.isAgg0
  z0 := Tryd.sizeOf0
  v0 := Tryd.zeroValue0
  i0 := by kernel_rfl
  t3 := Tryd.underlying3
  a3 := Tryd.isAgg3
  z3 := Tryd.sizeOf3
  v3 := Tryd.zeroValue3
  i3 := by kernel_rfl
  t4 := Tryd.underlying4
  a4 := Tryd.isAgg4
  z4 := Tryd.sizeOf4
  v4 := Tryd.zeroValue4
  i4 := by kernel_rfl
  t5 := Tryd.underlying5
  a5 := Tryd.isAgg5
  z5 := Tryd.sizeOf5
  v5 := Tryd.zeroValue5
  i5 := by kernel_rfl
  t22 := Tryd.underlying45
  a22 := Tryd.isAgg45
  z22 := Tryd.sizeOf45
  v22 := Tryd.zeroValue45
  i22 := by kernel_rfl
  t25 := Tryd.underlying114
  a25 := Tryd.isAgg114
  z25 := Tryd.sizeOf114
  v25 := Tryd.zeroValue114
  i25 := by kernel_rfl
  t54 := Tryd.underlying121
  a54 := Tryd.isAgg121
  z54 := Tryd.sizeOf121
  g1 := by kernel_rfl }
/-- The table. -/
def TzAt (w : World) : Prop := TabAt 0 Lib.deBruijn64tab w
theorem TzAt.next {w w' : World} (h : TzAt w) {B : Nat} (hb : Below B w w') (h0 : 0 < B) : TzAt w' := fun j hj => (hb.cell (p := ⟨0, j, none⟩) h0).trans (h j hj)
theorem tz_any (x : Nat) (hx : x < 18446744073709551616) (w : World) (hT : TzAt w) : Calls Tryd.prog 57 #[.int .u64 x] w fun e w' => e = .returned (.int .i64 (Lib.ctz 64 x)) ∧ w' = w :=
  Any7.bits_TrailingZeros64 tz_lays x hx w (fun _ => hT)

set_option maxHeartbeats 1600000 in
theorem isortS_one (A : Option Addr) (cap n : Nat) (f : Value) (w : World) (hn : n ≤ 1) :
    Calls Tryd.prog 86 #[.slice A n cap, .int .i64 0, .int .i64 n, f] w fun e w' => e = .returned (.tuple #[]) ∧ w = w' := by
  have h1 : ¬ (1 : Int) < (n : Int) := by omega
  go_enter Tryd.func86, Tryd.ntmps86
  go_wp2
  refine wp_loop_rounds 1 ?_
  rw [rounds_succ]
  go_wp2
  go_end0
  exact ⟨rfl, rfl⟩
set_option maxHeartbeats 1600000 in
theorem pdqS_one (A : Option Addr) (cap n : Nat) (lim : Int) (f : Value) (w : World) (hn : n ≤ 1) :
    Calls Tryd.prog 74 #[.slice A n cap, .int .i64 0, .int .i64 n, .int .i64 lim, f] w fun e w' => e = .returned (.tuple #[]) ∧ w = w' := by
  have H := Lib.hid (isortS_one A cap n f w hn)
  have h12 : (n : Int) ≤ 12 := by omega
  go_enter Tryd.func74, Tryd.ntmps74
  go_wp2
  refine wp_loop_rounds 1 ?_
  rw [rounds_succ]
  go_wp2_with ((with_reducible refine (H.out).mono ?_); rintro e w1 ⟨rfl, rfl⟩)
  refine bodyPost_ret (v := .tuple #[]) (results_none rfl _ _ _) rfl ?_
  exact ⟨rfl, rfl⟩
set_option maxHeartbeats 1600000 in
theorem SortS_one (A : Option Addr) (cap n : Nat) (f : Value) (w : World) (hn : n ≤ 1) :
    Calls Tryd.prog 55 #[.slice A n cap, f] w fun e w' => e = .returned (.tuple #[]) ∧ w = w' := by
  have H := fun lim => pdqS_one A cap n lim f w hn
  have H := Lib.hid H
  have h0 : (0 : Int) ≤ n := by omega
  have h1 : (n : Int) ≤ 18446744073709551615 := by omega
  go_enter Tryd.func55, Tryd.ntmps55
  go_wp2_with (first | (go_at_call 75; (refine (Tryd.bits_Len _ _ (by omega) (by omega)).mono ?_); rintro e w1 ⟨rfl, rfl⟩) | ((with_reducible refine (H.out _).mono ?_); rintro e w1 ⟨rfl, rfl⟩))
  go_end0
  exact ⟨rfl, rfl⟩
end Go.Proofs.YtppoiahhaclleaaDoor
