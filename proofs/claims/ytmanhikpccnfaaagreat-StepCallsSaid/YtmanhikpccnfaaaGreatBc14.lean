/- keysmithref08.value. -/
import Derived.Test.YtmanhikpccnfaaaGreatBc13
namespace Go.Proofs.YtmanhikpccnfaaaGreat
open Go.RowKit

def RVal (w : World) (p : St × Nat) (e : Ending) (w' : World) : Prop := e = .returned (.tuple #[.agg (stRow p.1).toArray, .int .u64 (p.2 : Nat), .bool true]) ∧ Below w.heap.size w w'

theorem not_u64 (d : Nat) (hd : d < 18446744073709551616) : Go.bits .xor .u64 IntKind.u64.max (d : Int) = ((18446744073709551615 - d : Nat) : Int) := by
  have h1 := bits_xor_u64_nat 18446744073709551615 d (by decide) hd
  rw [show ((18446744073709551615 : Nat) : Int) = IntKind.u64.max from rfl] at h1
  rw [h1]
  congr 1
  refine Nat.eq_of_testBit_eq fun i => ?_
  have h2 := Nat.testBit_two_pow_sub_succ (n := 64) (x := d) hd i
  have h3 := Nat.testBit_two_pow_sub_one 64 i
  rw [show (2 : Nat) ^ 64 - (d + 1) = 18446744073709551615 - d by omega] at h2
  rw [show (2 : Nat) ^ 64 - 1 = 18446744073709551615 from rfl] at h3
  rw [Nat.testBit_xor, h2, h3]
  by_cases hi : i < 64
  · simp [hi]
  · have h4 : d.testBit i = false := Nat.testBit_lt_two_pow (Nat.lt_of_lt_of_le hd (Nat.pow_le_pow_right (n := 2) (by decide) (by omega : 64 ≤ i)))
    simp [hi, h4]

set_option linter.unusedVariables false in
set_option maxRecDepth 100000 in
set_option maxHeartbeats 1600000 in
theorem Rvalue6 (s : St) (h : StOk s) (d b : Nat) (hd : d < 18446744073709551616) (hb : b < 18446744073709551616) (w : World) :
    Calls Tryz.prog 44 #[.agg (stRow s).toArray, .int .i64 6, .int .u64 d, .int .u64 b] w (RVal w (valueF.sumS s d b false)) := by
  obtain ⟨W, hW, hH⟩ := rst_two w s
  obtain ⟨hz, _⟩ := zero_of_info zeroInfoSt
  have HS := Lib.hid h
  have HW := Lib.hid hW
  have k17 := hH.cell 1 17 rfl (sr_hi h.len 1)
  have k18 := hH.cell 1 18 rfl (sr_hi h.len 2)
  have k19 := hH.cell 1 19 rfl (sr_hi h.len 3)
  have f17 := hH.frozen 1 17 rfl
  have f18 := hH.frozen 1 18 rfl
  have f19 := hH.frozen 1 19 rfl
  have H := Lib.hid hH
  have hc := Rsum_any s h d b false hd hb
  obtain ⟨p, hp⟩ : ∃ p, p = valueF.sumS s d b false := ⟨_, rfl⟩
  rw [← hp] at hc
  rw [← hp]
  have HOK := Lib.hid (show StOk p.1 from by rw [hp]; exact ⟨h.len, h.regs, h.pc⟩)
  have HC := Lib.hid hc
  have e1 := val_and d b hd hb
  have e2 := val_or d b hd hb
  have e3 := val_xor d b hd hb
  clear hc hp
  clear h hW hH hd hb
  have hzs : zeroSt.toArray.size = 20 := rfl
  generalize hzz : zeroSt.toArray = zs at *
  clear hzs
  go_enter Tryz.func44, Tryz.ntmps44
  go_upto_region 1 with fail
  rw [← HW.out]
  clear hz hzz
  go_wp2_with (first | ((with_reducible refine sep_id ?_); refine H.out.load 1 rfl _ rfl rfl rfl Tryz.underlying25 rfl (sr_size HS.out) ?_))
  refine (HC.out _).mono ?_
  rintro e w1 ⟨rfl, hb1⟩
  have hH := H.out.next hb1
  clear H hb1 e1 e2 e3 k17 k18 k19 f17 f18 f19
  have H := Lib.hid hH
  clear hH
  go_upto_region 49 with (first | ((with_reducible refine sep_id ?_); refine H.out.storeBox 1 (row' := stRow p.1) rfl (by rw [sr_len HOK.out, sr_len HS.out]) _ _ rfl rfl rfl rfl (sr_size HOK.out) (stRow_one _) ?_; intro W3 hW3; clear H; have H := Lib.hid hW3; clear hW3))
  go_wp2_with (first | ((with_reducible refine sep_id ?_); refine H.out.load 1 rfl _ rfl rfl rfl Tryz.underlying25 rfl (sr_size HOK.out) ?_) | ((with_reducible refine sep_id ?_); refine H.out.storeBox 0 (row' := stRow p.1) rfl (by rw [sr_len HOK.out]; rfl) _ _ rfl rfl rfl rfl (sr_size HOK.out) (stRow_one _) ?_; intro W4 hW4; have HZ := Lib.hid hW4; clear hW4))
  refine bodyPost_ret (results3 (ty := 25) rfl _ _ (w.heap.size + 1) 25 (stRow p.1).toArray (0, 0) _ rfl (HZ.out.at_ 0 rfl) Tryz.underlying25 rfl (sr_size HOK.out)) rfl ?_
  exact ⟨rfl, HZ.out.below⟩

set_option linter.unusedVariables false in
set_option maxRecDepth 100000 in
set_option maxHeartbeats 1600000 in
theorem Rvalue7 (s : St) (h : StOk s) (d b : Nat) (hd : d < 18446744073709551616) (hb : b < 18446744073709551616) (w : World) :
    Calls Tryz.prog 44 #[.agg (stRow s).toArray, .int .i64 7, .int .u64 d, .int .u64 b] w (RVal w (valueF.sumS s d b s.cf)) := by
  obtain ⟨W, hW, hH⟩ := rst_two w s
  obtain ⟨hz, _⟩ := zero_of_info zeroInfoSt
  have HS := Lib.hid h
  have HW := Lib.hid hW
  have k17 := hH.cell 1 17 rfl (sr_hi h.len 1)
  have k18 := hH.cell 1 18 rfl (sr_hi h.len 2)
  have k19 := hH.cell 1 19 rfl (sr_hi h.len 3)
  have f17 := hH.frozen 1 17 rfl
  have f18 := hH.frozen 1 18 rfl
  have f19 := hH.frozen 1 19 rfl
  have H := Lib.hid hH
  have hc := Rsum_any s h d b s.cf hd hb
  obtain ⟨p, hp⟩ : ∃ p, p = valueF.sumS s d b s.cf := ⟨_, rfl⟩
  rw [← hp] at hc
  rw [← hp]
  have HOK := Lib.hid (show StOk p.1 from by rw [hp]; exact ⟨h.len, h.regs, h.pc⟩)
  have HC := Lib.hid hc
  have e1 := val_and d b hd hb
  have e2 := val_or d b hd hb
  have e3 := val_xor d b hd hb
  clear hc hp
  clear h hW hH hd hb
  have hzs : zeroSt.toArray.size = 20 := rfl
  generalize hzz : zeroSt.toArray = zs at *
  clear hzs
  go_enter Tryz.func44, Tryz.ntmps44
  go_upto_region 1 with fail
  rw [← HW.out]
  clear hz hzz
  go_wp2_with (first | ((with_reducible refine sep_id ?_); refine H.out.load 1 rfl _ rfl rfl rfl Tryz.underlying25 rfl (sr_size HS.out) ?_))
  refine (HC.out _).mono ?_
  rintro e w1 ⟨rfl, hb1⟩
  have hH := H.out.next hb1
  clear H hb1 e1 e2 e3 k17 k18 k19 f17 f18 f19
  have H := Lib.hid hH
  clear hH
  go_upto_region 49 with (first | ((with_reducible refine sep_id ?_); refine H.out.storeBox 1 (row' := stRow p.1) rfl (by rw [sr_len HOK.out, sr_len HS.out]) _ _ rfl rfl rfl rfl (sr_size HOK.out) (stRow_one _) ?_; intro W3 hW3; clear H; have H := Lib.hid hW3; clear hW3))
  go_wp2_with (first | ((with_reducible refine sep_id ?_); refine H.out.load 1 rfl _ rfl rfl rfl Tryz.underlying25 rfl (sr_size HOK.out) ?_) | ((with_reducible refine sep_id ?_); refine H.out.storeBox 0 (row' := stRow p.1) rfl (by rw [sr_len HOK.out]; rfl) _ _ rfl rfl rfl rfl (sr_size HOK.out) (stRow_one _) ?_; intro W4 hW4; have HZ := Lib.hid hW4; clear hW4))
  refine bodyPost_ret (results3 (ty := 25) rfl _ _ (w.heap.size + 1) 25 (stRow p.1).toArray (0, 0) _ rfl (HZ.out.at_ 0 rfl) Tryz.underlying25 rfl (sr_size HOK.out)) rfl ?_
  exact ⟨rfl, HZ.out.below⟩

set_option linter.unusedVariables false in
set_option maxRecDepth 100000 in
set_option maxHeartbeats 1600000 in
theorem Rvalue8 (s : St) (h : StOk s) (d b : Nat) (hd : d < 18446744073709551616) (hb : b < 18446744073709551616) (w : World) :
    Calls Tryz.prog 44 #[.agg (stRow s).toArray, .int .i64 8, .int .u64 d, .int .u64 b] w (RVal w (valueF.restS s d b false)) := by
  obtain ⟨W, hW, hH⟩ := rst_two w s
  obtain ⟨hz, _⟩ := zero_of_info zeroInfoSt
  have HS := Lib.hid h
  have HW := Lib.hid hW
  have k17 := hH.cell 1 17 rfl (sr_hi h.len 1)
  have k18 := hH.cell 1 18 rfl (sr_hi h.len 2)
  have k19 := hH.cell 1 19 rfl (sr_hi h.len 3)
  have f17 := hH.frozen 1 17 rfl
  have f18 := hH.frozen 1 18 rfl
  have f19 := hH.frozen 1 19 rfl
  have H := Lib.hid hH
  have hc := Rrest_any s h d b false hd hb
  obtain ⟨p, hp⟩ : ∃ p, p = valueF.restS s d b false := ⟨_, rfl⟩
  rw [← hp] at hc
  rw [← hp]
  have HOK := Lib.hid (show StOk p.1 from by rw [hp]; exact ⟨h.len, h.regs, h.pc⟩)
  have HC := Lib.hid hc
  have e1 := val_and d b hd hb
  have e2 := val_or d b hd hb
  have e3 := val_xor d b hd hb
  clear hc hp
  clear h hW hH hd hb
  have hzs : zeroSt.toArray.size = 20 := rfl
  generalize hzz : zeroSt.toArray = zs at *
  clear hzs
  go_enter Tryz.func44, Tryz.ntmps44
  go_upto_region 1 with fail
  rw [← HW.out]
  clear hz hzz
  go_wp2_with (first | ((with_reducible refine sep_id ?_); refine H.out.load 1 rfl _ rfl rfl rfl Tryz.underlying25 rfl (sr_size HS.out) ?_))
  refine (HC.out _).mono ?_
  rintro e w1 ⟨rfl, hb1⟩
  have hH := H.out.next hb1
  clear H hb1 e1 e2 e3 k17 k18 k19 f17 f18 f19
  have H := Lib.hid hH
  clear hH
  go_upto_region 49 with (first | ((with_reducible refine sep_id ?_); refine H.out.storeBox 1 (row' := stRow p.1) rfl (by rw [sr_len HOK.out, sr_len HS.out]) _ _ rfl rfl rfl rfl (sr_size HOK.out) (stRow_one _) ?_; intro W3 hW3; clear H; have H := Lib.hid hW3; clear hW3))
  go_wp2_with (first | ((with_reducible refine sep_id ?_); refine H.out.load 1 rfl _ rfl rfl rfl Tryz.underlying25 rfl (sr_size HOK.out) ?_) | ((with_reducible refine sep_id ?_); refine H.out.storeBox 0 (row' := stRow p.1) rfl (by rw [sr_len HOK.out]; rfl) _ _ rfl rfl rfl rfl (sr_size HOK.out) (stRow_one _) ?_; intro W4 hW4; have HZ := Lib.hid hW4; clear hW4))
  refine bodyPost_ret (results3 (ty := 25) rfl _ _ (w.heap.size + 1) 25 (stRow p.1).toArray (0, 0) _ rfl (HZ.out.at_ 0 rfl) Tryz.underlying25 rfl (sr_size HOK.out)) rfl ?_
  exact ⟨rfl, HZ.out.below⟩

set_option linter.unusedVariables false in
set_option maxRecDepth 100000 in
set_option maxHeartbeats 1600000 in
theorem Rvalue9 (s : St) (h : StOk s) (d b : Nat) (hd : d < 18446744073709551616) (hb : b < 18446744073709551616) (w : World) :
    Calls Tryz.prog 44 #[.agg (stRow s).toArray, .int .i64 9, .int .u64 d, .int .u64 b] w (RVal w (valueF.restS s d b s.cf)) := by
  obtain ⟨W, hW, hH⟩ := rst_two w s
  obtain ⟨hz, _⟩ := zero_of_info zeroInfoSt
  have HS := Lib.hid h
  have HW := Lib.hid hW
  have k17 := hH.cell 1 17 rfl (sr_hi h.len 1)
  have k18 := hH.cell 1 18 rfl (sr_hi h.len 2)
  have k19 := hH.cell 1 19 rfl (sr_hi h.len 3)
  have f17 := hH.frozen 1 17 rfl
  have f18 := hH.frozen 1 18 rfl
  have f19 := hH.frozen 1 19 rfl
  have H := Lib.hid hH
  have hc := Rrest_any s h d b s.cf hd hb
  obtain ⟨p, hp⟩ : ∃ p, p = valueF.restS s d b s.cf := ⟨_, rfl⟩
  rw [← hp] at hc
  rw [← hp]
  have HOK := Lib.hid (show StOk p.1 from by rw [hp]; exact ⟨h.len, h.regs, h.pc⟩)
  have HC := Lib.hid hc
  have e1 := val_and d b hd hb
  have e2 := val_or d b hd hb
  have e3 := val_xor d b hd hb
  clear hc hp
  clear h hW hH hd hb
  have hzs : zeroSt.toArray.size = 20 := rfl
  generalize hzz : zeroSt.toArray = zs at *
  clear hzs
  go_enter Tryz.func44, Tryz.ntmps44
  go_upto_region 1 with fail
  rw [← HW.out]
  clear hz hzz
  go_wp2_with (first | ((with_reducible refine sep_id ?_); refine H.out.load 1 rfl _ rfl rfl rfl Tryz.underlying25 rfl (sr_size HS.out) ?_))
  refine (HC.out _).mono ?_
  rintro e w1 ⟨rfl, hb1⟩
  have hH := H.out.next hb1
  clear H hb1 e1 e2 e3 k17 k18 k19 f17 f18 f19
  have H := Lib.hid hH
  clear hH
  go_upto_region 49 with (first | ((with_reducible refine sep_id ?_); refine H.out.storeBox 1 (row' := stRow p.1) rfl (by rw [sr_len HOK.out, sr_len HS.out]) _ _ rfl rfl rfl rfl (sr_size HOK.out) (stRow_one _) ?_; intro W3 hW3; clear H; have H := Lib.hid hW3; clear hW3))
  go_wp2_with (first | ((with_reducible refine sep_id ?_); refine H.out.load 1 rfl _ rfl rfl rfl Tryz.underlying25 rfl (sr_size HOK.out) ?_) | ((with_reducible refine sep_id ?_); refine H.out.storeBox 0 (row' := stRow p.1) rfl (by rw [sr_len HOK.out]; rfl) _ _ rfl rfl rfl rfl (sr_size HOK.out) (stRow_one _) ?_; intro W4 hW4; have HZ := Lib.hid hW4; clear hW4))
  refine bodyPost_ret (results3 (ty := 25) rfl _ _ (w.heap.size + 1) 25 (stRow p.1).toArray (0, 0) _ rfl (HZ.out.at_ 0 rfl) Tryz.underlying25 rfl (sr_size HOK.out)) rfl ?_
  exact ⟨rfl, HZ.out.below⟩

set_option linter.unusedVariables false in
set_option maxRecDepth 100000 in
set_option maxHeartbeats 1600000 in
theorem Rvalue10 (s : St) (h : StOk s) (d b : Nat) (hd : d < 18446744073709551616) (hb : b < 18446744073709551616) (w : World) :
    Calls Tryz.prog 44 #[.agg (stRow s).toArray, .int .i64 10, .int .u64 d, .int .u64 b] w (RVal w (valueF.plainS s (d &&& b))) := by
  obtain ⟨W, hW, hH⟩ := rst_two w s
  obtain ⟨hz, _⟩ := zero_of_info zeroInfoSt
  have HS := Lib.hid h
  have HW := Lib.hid hW
  have k17 := hH.cell 1 17 rfl (sr_hi h.len 1)
  have k18 := hH.cell 1 18 rfl (sr_hi h.len 2)
  have k19 := hH.cell 1 19 rfl (sr_hi h.len 3)
  have f17 := hH.frozen 1 17 rfl
  have f18 := hH.frozen 1 18 rfl
  have f19 := hH.frozen 1 19 rfl
  have H := Lib.hid hH
  have hc := Rplain_any s h (d &&& b)
  obtain ⟨p, hp⟩ : ∃ p, p = valueF.plainS s (d &&& b) := ⟨_, rfl⟩
  rw [← hp] at hc
  rw [← hp]
  have HOK := Lib.hid (show StOk p.1 from by rw [hp]; exact ⟨h.len, h.regs, h.pc⟩)
  have HC := Lib.hid hc
  have e1 := val_and d b hd hb
  have e2 := val_or d b hd hb
  have e3 := val_xor d b hd hb
  clear hc hp
  clear h hW hH hd hb
  have hzs : zeroSt.toArray.size = 20 := rfl
  generalize hzz : zeroSt.toArray = zs at *
  clear hzs
  go_enter Tryz.func44, Tryz.ntmps44
  go_upto_region 1 with fail
  rw [← HW.out]
  clear hz hzz
  go_wp2_with (first | ((with_reducible refine sep_id ?_); refine H.out.load 1 rfl _ rfl rfl rfl Tryz.underlying25 rfl (sr_size HS.out) ?_))
  refine (HC.out _).mono ?_
  rintro e w1 ⟨rfl, hb1⟩
  have hH := H.out.next hb1
  clear H hb1 e1 e2 e3 k17 k18 k19 f17 f18 f19
  have H := Lib.hid hH
  clear hH
  go_upto_region 49 with (first | ((with_reducible refine sep_id ?_); refine H.out.storeBox 1 (row' := stRow p.1) rfl (by rw [sr_len HOK.out, sr_len HS.out]) _ _ rfl rfl rfl rfl (sr_size HOK.out) (stRow_one _) ?_; intro W3 hW3; clear H; have H := Lib.hid hW3; clear hW3))
  go_wp2_with (first | ((with_reducible refine sep_id ?_); refine H.out.load 1 rfl _ rfl rfl rfl Tryz.underlying25 rfl (sr_size HOK.out) ?_) | ((with_reducible refine sep_id ?_); refine H.out.storeBox 0 (row' := stRow p.1) rfl (by rw [sr_len HOK.out]; rfl) _ _ rfl rfl rfl rfl (sr_size HOK.out) (stRow_one _) ?_; intro W4 hW4; have HZ := Lib.hid hW4; clear hW4))
  refine bodyPost_ret (results3 (ty := 25) rfl _ _ (w.heap.size + 1) 25 (stRow p.1).toArray (0, 0) _ rfl (HZ.out.at_ 0 rfl) Tryz.underlying25 rfl (sr_size HOK.out)) rfl ?_
  exact ⟨rfl, HZ.out.below⟩

set_option linter.unusedVariables false in
set_option maxRecDepth 100000 in
set_option maxHeartbeats 1600000 in
theorem Rvalue11 (s : St) (h : StOk s) (d b : Nat) (hd : d < 18446744073709551616) (hb : b < 18446744073709551616) (w : World) :
    Calls Tryz.prog 44 #[.agg (stRow s).toArray, .int .i64 11, .int .u64 d, .int .u64 b] w (RVal w (valueF.plainS s (d ||| b))) := by
  obtain ⟨W, hW, hH⟩ := rst_two w s
  obtain ⟨hz, _⟩ := zero_of_info zeroInfoSt
  have HS := Lib.hid h
  have HW := Lib.hid hW
  have k17 := hH.cell 1 17 rfl (sr_hi h.len 1)
  have k18 := hH.cell 1 18 rfl (sr_hi h.len 2)
  have k19 := hH.cell 1 19 rfl (sr_hi h.len 3)
  have f17 := hH.frozen 1 17 rfl
  have f18 := hH.frozen 1 18 rfl
  have f19 := hH.frozen 1 19 rfl
  have H := Lib.hid hH
  have hc := Rplain_any s h (d ||| b)
  obtain ⟨p, hp⟩ : ∃ p, p = valueF.plainS s (d ||| b) := ⟨_, rfl⟩
  rw [← hp] at hc
  rw [← hp]
  have HOK := Lib.hid (show StOk p.1 from by rw [hp]; exact ⟨h.len, h.regs, h.pc⟩)
  have HC := Lib.hid hc
  have e1 := val_and d b hd hb
  have e2 := val_or d b hd hb
  have e3 := val_xor d b hd hb
  clear hc hp
  clear h hW hH hd hb
  have hzs : zeroSt.toArray.size = 20 := rfl
  generalize hzz : zeroSt.toArray = zs at *
  clear hzs
  go_enter Tryz.func44, Tryz.ntmps44
  go_upto_region 1 with fail
  rw [← HW.out]
  clear hz hzz
  go_wp2_with (first | ((with_reducible refine sep_id ?_); refine H.out.load 1 rfl _ rfl rfl rfl Tryz.underlying25 rfl (sr_size HS.out) ?_))
  refine (HC.out _).mono ?_
  rintro e w1 ⟨rfl, hb1⟩
  have hH := H.out.next hb1
  clear H hb1 e1 e2 e3 k17 k18 k19 f17 f18 f19
  have H := Lib.hid hH
  clear hH
  go_upto_region 49 with (first | ((with_reducible refine sep_id ?_); refine H.out.storeBox 1 (row' := stRow p.1) rfl (by rw [sr_len HOK.out, sr_len HS.out]) _ _ rfl rfl rfl rfl (sr_size HOK.out) (stRow_one _) ?_; intro W3 hW3; clear H; have H := Lib.hid hW3; clear hW3))
  go_wp2_with (first | ((with_reducible refine sep_id ?_); refine H.out.load 1 rfl _ rfl rfl rfl Tryz.underlying25 rfl (sr_size HOK.out) ?_) | ((with_reducible refine sep_id ?_); refine H.out.storeBox 0 (row' := stRow p.1) rfl (by rw [sr_len HOK.out]; rfl) _ _ rfl rfl rfl rfl (sr_size HOK.out) (stRow_one _) ?_; intro W4 hW4; have HZ := Lib.hid hW4; clear hW4))
  refine bodyPost_ret (results3 (ty := 25) rfl _ _ (w.heap.size + 1) 25 (stRow p.1).toArray (0, 0) _ rfl (HZ.out.at_ 0 rfl) Tryz.underlying25 rfl (sr_size HOK.out)) rfl ?_
  exact ⟨rfl, HZ.out.below⟩

set_option linter.unusedVariables false in
set_option maxRecDepth 100000 in
set_option maxHeartbeats 1600000 in
theorem Rvalue12 (s : St) (h : StOk s) (d b : Nat) (hd : d < 18446744073709551616) (hb : b < 18446744073709551616) (w : World) :
    Calls Tryz.prog 44 #[.agg (stRow s).toArray, .int .i64 12, .int .u64 d, .int .u64 b] w (RVal w (valueF.plainS s (d ^^^ b))) := by
  obtain ⟨W, hW, hH⟩ := rst_two w s
  obtain ⟨hz, _⟩ := zero_of_info zeroInfoSt
  have HS := Lib.hid h
  have HW := Lib.hid hW
  have k17 := hH.cell 1 17 rfl (sr_hi h.len 1)
  have k18 := hH.cell 1 18 rfl (sr_hi h.len 2)
  have k19 := hH.cell 1 19 rfl (sr_hi h.len 3)
  have f17 := hH.frozen 1 17 rfl
  have f18 := hH.frozen 1 18 rfl
  have f19 := hH.frozen 1 19 rfl
  have H := Lib.hid hH
  have hc := Rplain_any s h (d ^^^ b)
  obtain ⟨p, hp⟩ : ∃ p, p = valueF.plainS s (d ^^^ b) := ⟨_, rfl⟩
  rw [← hp] at hc
  rw [← hp]
  have HOK := Lib.hid (show StOk p.1 from by rw [hp]; exact ⟨h.len, h.regs, h.pc⟩)
  have HC := Lib.hid hc
  have e1 := val_and d b hd hb
  have e2 := val_or d b hd hb
  have e3 := val_xor d b hd hb
  clear hc hp
  clear h hW hH hd hb
  have hzs : zeroSt.toArray.size = 20 := rfl
  generalize hzz : zeroSt.toArray = zs at *
  clear hzs
  go_enter Tryz.func44, Tryz.ntmps44
  go_upto_region 1 with fail
  rw [← HW.out]
  clear hz hzz
  go_wp2_with (first | ((with_reducible refine sep_id ?_); refine H.out.load 1 rfl _ rfl rfl rfl Tryz.underlying25 rfl (sr_size HS.out) ?_))
  refine (HC.out _).mono ?_
  rintro e w1 ⟨rfl, hb1⟩
  have hH := H.out.next hb1
  clear H hb1 e1 e2 e3 k17 k18 k19 f17 f18 f19
  have H := Lib.hid hH
  clear hH
  go_upto_region 49 with (first | ((with_reducible refine sep_id ?_); refine H.out.storeBox 1 (row' := stRow p.1) rfl (by rw [sr_len HOK.out, sr_len HS.out]) _ _ rfl rfl rfl rfl (sr_size HOK.out) (stRow_one _) ?_; intro W3 hW3; clear H; have H := Lib.hid hW3; clear hW3))
  go_wp2_with (first | ((with_reducible refine sep_id ?_); refine H.out.load 1 rfl _ rfl rfl rfl Tryz.underlying25 rfl (sr_size HOK.out) ?_) | ((with_reducible refine sep_id ?_); refine H.out.storeBox 0 (row' := stRow p.1) rfl (by rw [sr_len HOK.out]; rfl) _ _ rfl rfl rfl rfl (sr_size HOK.out) (stRow_one _) ?_; intro W4 hW4; have HZ := Lib.hid hW4; clear hW4))
  refine bodyPost_ret (results3 (ty := 25) rfl _ _ (w.heap.size + 1) 25 (stRow p.1).toArray (0, 0) _ rfl (HZ.out.at_ 0 rfl) Tryz.underlying25 rfl (sr_size HOK.out)) rfl ?_
  exact ⟨rfl, HZ.out.below⟩

set_option linter.unusedVariables false in
set_option maxRecDepth 100000 in
set_option maxHeartbeats 1600000 in
theorem Rvalue13 (s : St) (h : StOk s) (d b : Nat) (hd : d < 18446744073709551616) (hb : b < 18446744073709551616) (w : World) :
    Calls Tryz.prog 44 #[.agg (stRow s).toArray, .int .i64 13, .int .u64 d, .int .u64 b] w (RVal w (valueF.restS s d b false)) := by
  obtain ⟨W, hW, hH⟩ := rst_two w s
  obtain ⟨hz, _⟩ := zero_of_info zeroInfoSt
  have HS := Lib.hid h
  have HW := Lib.hid hW
  have k17 := hH.cell 1 17 rfl (sr_hi h.len 1)
  have k18 := hH.cell 1 18 rfl (sr_hi h.len 2)
  have k19 := hH.cell 1 19 rfl (sr_hi h.len 3)
  have f17 := hH.frozen 1 17 rfl
  have f18 := hH.frozen 1 18 rfl
  have f19 := hH.frozen 1 19 rfl
  have H := Lib.hid hH
  have hc := Rrest_any s h d b false hd hb
  obtain ⟨p, hp⟩ : ∃ p, p = valueF.restS s d b false := ⟨_, rfl⟩
  rw [← hp] at hc
  rw [← hp]
  have HOK := Lib.hid (show StOk p.1 from by rw [hp]; exact ⟨h.len, h.regs, h.pc⟩)
  have HC := Lib.hid hc
  have e1 := val_and d b hd hb
  have e2 := val_or d b hd hb
  have e3 := val_xor d b hd hb
  clear hc hp
  clear h hW hH hd hb
  have hzs : zeroSt.toArray.size = 20 := rfl
  generalize hzz : zeroSt.toArray = zs at *
  clear hzs
  go_enter Tryz.func44, Tryz.ntmps44
  go_upto_region 1 with fail
  rw [← HW.out]
  clear hz hzz
  go_wp2_with (first | ((with_reducible refine sep_id ?_); refine H.out.load 1 rfl _ rfl rfl rfl Tryz.underlying25 rfl (sr_size HS.out) ?_))
  refine (HC.out _).mono ?_
  rintro e w1 ⟨rfl, hb1⟩
  have hH := H.out.next hb1
  clear H hb1 e1 e2 e3 k17 k18 k19 f17 f18 f19
  have H := Lib.hid hH
  clear hH
  go_upto_region 49 with (first | ((with_reducible refine sep_id ?_); refine H.out.storeBox 1 (row' := stRow p.1) rfl (by rw [sr_len HOK.out, sr_len HS.out]) _ _ rfl rfl rfl rfl (sr_size HOK.out) (stRow_one _) ?_; intro W3 hW3; clear H; have H := Lib.hid hW3; clear hW3))
  go_wp2_with (first | ((with_reducible refine sep_id ?_); refine H.out.load 1 rfl _ rfl rfl rfl Tryz.underlying25 rfl (sr_size HOK.out) ?_) | ((with_reducible refine sep_id ?_); refine H.out.storeBox 0 (row' := stRow p.1) rfl (by rw [sr_len HOK.out]; rfl) _ _ rfl rfl rfl rfl (sr_size HOK.out) (stRow_one _) ?_; intro W4 hW4; have HZ := Lib.hid hW4; clear hW4))
  refine bodyPost_ret (results3 (ty := 25) rfl _ _ (w.heap.size + 1) 25 (stRow p.1).toArray (0, 0) _ rfl (HZ.out.at_ 0 rfl) Tryz.underlying25 rfl (sr_size HOK.out)) rfl ?_
  exact ⟨rfl, HZ.out.below⟩

set_option linter.unusedVariables false in
set_option maxRecDepth 100000 in
set_option maxHeartbeats 1600000 in
theorem Rvalue14 (s : St) (h : StOk s) (d b : Nat) (hd : d < 18446744073709551616) (hb : b < 18446744073709551616) (w : World) :
    Calls Tryz.prog 44 #[.agg (stRow s).toArray, .int .i64 14, .int .u64 d, .int .u64 b] w (RVal w (valueF.plainS s (d &&& b))) := by
  obtain ⟨W, hW, hH⟩ := rst_two w s
  obtain ⟨hz, _⟩ := zero_of_info zeroInfoSt
  have HS := Lib.hid h
  have HW := Lib.hid hW
  have k17 := hH.cell 1 17 rfl (sr_hi h.len 1)
  have k18 := hH.cell 1 18 rfl (sr_hi h.len 2)
  have k19 := hH.cell 1 19 rfl (sr_hi h.len 3)
  have f17 := hH.frozen 1 17 rfl
  have f18 := hH.frozen 1 18 rfl
  have f19 := hH.frozen 1 19 rfl
  have H := Lib.hid hH
  have hc := Rplain_any s h (d &&& b)
  obtain ⟨p, hp⟩ : ∃ p, p = valueF.plainS s (d &&& b) := ⟨_, rfl⟩
  rw [← hp] at hc
  rw [← hp]
  have HOK := Lib.hid (show StOk p.1 from by rw [hp]; exact ⟨h.len, h.regs, h.pc⟩)
  have HC := Lib.hid hc
  have e1 := val_and d b hd hb
  have e2 := val_or d b hd hb
  have e3 := val_xor d b hd hb
  clear hc hp
  clear h hW hH hd hb
  have hzs : zeroSt.toArray.size = 20 := rfl
  generalize hzz : zeroSt.toArray = zs at *
  clear hzs
  go_enter Tryz.func44, Tryz.ntmps44
  go_upto_region 1 with fail
  rw [← HW.out]
  clear hz hzz
  go_wp2_with (first | ((with_reducible refine sep_id ?_); refine H.out.load 1 rfl _ rfl rfl rfl Tryz.underlying25 rfl (sr_size HS.out) ?_))
  refine (HC.out _).mono ?_
  rintro e w1 ⟨rfl, hb1⟩
  have hH := H.out.next hb1
  clear H hb1 e1 e2 e3 k17 k18 k19 f17 f18 f19
  have H := Lib.hid hH
  clear hH
  go_upto_region 49 with (first | ((with_reducible refine sep_id ?_); refine H.out.storeBox 1 (row' := stRow p.1) rfl (by rw [sr_len HOK.out, sr_len HS.out]) _ _ rfl rfl rfl rfl (sr_size HOK.out) (stRow_one _) ?_; intro W3 hW3; clear H; have H := Lib.hid hW3; clear hW3))
  go_wp2_with (first | ((with_reducible refine sep_id ?_); refine H.out.load 1 rfl _ rfl rfl rfl Tryz.underlying25 rfl (sr_size HOK.out) ?_) | ((with_reducible refine sep_id ?_); refine H.out.storeBox 0 (row' := stRow p.1) rfl (by rw [sr_len HOK.out]; rfl) _ _ rfl rfl rfl rfl (sr_size HOK.out) (stRow_one _) ?_; intro W4 hW4; have HZ := Lib.hid hW4; clear hW4))
  refine bodyPost_ret (results3 (ty := 25) rfl _ _ (w.heap.size + 1) 25 (stRow p.1).toArray (0, 0) _ rfl (HZ.out.at_ 0 rfl) Tryz.underlying25 rfl (sr_size HOK.out)) rfl ?_
  exact ⟨rfl, HZ.out.below⟩

set_option linter.unusedVariables false in
set_option maxRecDepth 100000 in
set_option maxHeartbeats 1600000 in
theorem Rvalue15 (s : St) (h : StOk s) (d b : Nat) (hd : d < 18446744073709551616) (hb : b < 18446744073709551616) (w : World) :
    Calls Tryz.prog 44 #[.agg (stRow s).toArray, .int .i64 15, .int .u64 d, .int .u64 b] w (RVal w (valueF.sumS s d b false)) := by
  obtain ⟨W, hW, hH⟩ := rst_two w s
  obtain ⟨hz, _⟩ := zero_of_info zeroInfoSt
  have HS := Lib.hid h
  have HW := Lib.hid hW
  have k17 := hH.cell 1 17 rfl (sr_hi h.len 1)
  have k18 := hH.cell 1 18 rfl (sr_hi h.len 2)
  have k19 := hH.cell 1 19 rfl (sr_hi h.len 3)
  have f17 := hH.frozen 1 17 rfl
  have f18 := hH.frozen 1 18 rfl
  have f19 := hH.frozen 1 19 rfl
  have H := Lib.hid hH
  have hc := Rsum_any s h d b false hd hb
  obtain ⟨p, hp⟩ : ∃ p, p = valueF.sumS s d b false := ⟨_, rfl⟩
  rw [← hp] at hc
  rw [← hp]
  have HOK := Lib.hid (show StOk p.1 from by rw [hp]; exact ⟨h.len, h.regs, h.pc⟩)
  have HC := Lib.hid hc
  have e1 := val_and d b hd hb
  have e2 := val_or d b hd hb
  have e3 := val_xor d b hd hb
  clear hc hp
  clear h hW hH hd hb
  have hzs : zeroSt.toArray.size = 20 := rfl
  generalize hzz : zeroSt.toArray = zs at *
  clear hzs
  go_enter Tryz.func44, Tryz.ntmps44
  go_upto_region 1 with fail
  rw [← HW.out]
  clear hz hzz
  go_wp2_with (first | ((with_reducible refine sep_id ?_); refine H.out.load 1 rfl _ rfl rfl rfl Tryz.underlying25 rfl (sr_size HS.out) ?_))
  refine (HC.out _).mono ?_
  rintro e w1 ⟨rfl, hb1⟩
  have hH := H.out.next hb1
  clear H hb1 e1 e2 e3 k17 k18 k19 f17 f18 f19
  have H := Lib.hid hH
  clear hH
  go_upto_region 49 with (first | ((with_reducible refine sep_id ?_); refine H.out.storeBox 1 (row' := stRow p.1) rfl (by rw [sr_len HOK.out, sr_len HS.out]) _ _ rfl rfl rfl rfl (sr_size HOK.out) (stRow_one _) ?_; intro W3 hW3; clear H; have H := Lib.hid hW3; clear hW3))
  go_wp2_with (first | ((with_reducible refine sep_id ?_); refine H.out.load 1 rfl _ rfl rfl rfl Tryz.underlying25 rfl (sr_size HOK.out) ?_) | ((with_reducible refine sep_id ?_); refine H.out.storeBox 0 (row' := stRow p.1) rfl (by rw [sr_len HOK.out]; rfl) _ _ rfl rfl rfl rfl (sr_size HOK.out) (stRow_one _) ?_; intro W4 hW4; have HZ := Lib.hid hW4; clear hW4))
  refine bodyPost_ret (results3 (ty := 25) rfl _ _ (w.heap.size + 1) 25 (stRow p.1).toArray (0, 0) _ rfl (HZ.out.at_ 0 rfl) Tryz.underlying25 rfl (sr_size HOK.out)) rfl ?_
  exact ⟨rfl, HZ.out.below⟩

set_option linter.unusedVariables false in
set_option maxRecDepth 100000 in
set_option maxHeartbeats 1600000 in
theorem Rvalue16 (s : St) (h : StOk s) (d b : Nat) (hd : d < 18446744073709551616) (hb : b < 18446744073709551616) (w : World) :
    Calls Tryz.prog 44 #[.agg (stRow s).toArray, .int .i64 16, .int .u64 d, .int .u64 b] w (RVal w (valueF.plainS s (d &&& b))) := by
  obtain ⟨W, hW, hH⟩ := rst_two w s
  obtain ⟨hz, _⟩ := zero_of_info zeroInfoSt
  have HS := Lib.hid h
  have HW := Lib.hid hW
  have k17 := hH.cell 1 17 rfl (sr_hi h.len 1)
  have k18 := hH.cell 1 18 rfl (sr_hi h.len 2)
  have k19 := hH.cell 1 19 rfl (sr_hi h.len 3)
  have f17 := hH.frozen 1 17 rfl
  have f18 := hH.frozen 1 18 rfl
  have f19 := hH.frozen 1 19 rfl
  have H := Lib.hid hH
  have hc := Rplain_any s h (d &&& b)
  obtain ⟨p, hp⟩ : ∃ p, p = valueF.plainS s (d &&& b) := ⟨_, rfl⟩
  rw [← hp] at hc
  rw [← hp]
  have HOK := Lib.hid (show StOk p.1 from by rw [hp]; exact ⟨h.len, h.regs, h.pc⟩)
  have HC := Lib.hid hc
  have e1 := val_and d b hd hb
  have e2 := val_or d b hd hb
  have e3 := val_xor d b hd hb
  clear hc hp
  clear h hW hH hd hb
  have hzs : zeroSt.toArray.size = 20 := rfl
  generalize hzz : zeroSt.toArray = zs at *
  clear hzs
  go_enter Tryz.func44, Tryz.ntmps44
  go_upto_region 1 with fail
  rw [← HW.out]
  clear hz hzz
  go_wp2_with (first | ((with_reducible refine sep_id ?_); refine H.out.load 1 rfl _ rfl rfl rfl Tryz.underlying25 rfl (sr_size HS.out) ?_))
  refine (HC.out _).mono ?_
  rintro e w1 ⟨rfl, hb1⟩
  have hH := H.out.next hb1
  clear H hb1 e1 e2 e3 k17 k18 k19 f17 f18 f19
  have H := Lib.hid hH
  clear hH
  go_upto_region 49 with (first | ((with_reducible refine sep_id ?_); refine H.out.storeBox 1 (row' := stRow p.1) rfl (by rw [sr_len HOK.out, sr_len HS.out]) _ _ rfl rfl rfl rfl (sr_size HOK.out) (stRow_one _) ?_; intro W3 hW3; clear H; have H := Lib.hid hW3; clear hW3))
  go_wp2_with (first | ((with_reducible refine sep_id ?_); refine H.out.load 1 rfl _ rfl rfl rfl Tryz.underlying25 rfl (sr_size HOK.out) ?_) | ((with_reducible refine sep_id ?_); refine H.out.storeBox 0 (row' := stRow p.1) rfl (by rw [sr_len HOK.out]; rfl) _ _ rfl rfl rfl rfl (sr_size HOK.out) (stRow_one _) ?_; intro W4 hW4; have HZ := Lib.hid hW4; clear hW4))
  refine bodyPost_ret (results3 (ty := 25) rfl _ _ (w.heap.size + 1) 25 (stRow p.1).toArray (0, 0) _ rfl (HZ.out.at_ 0 rfl) Tryz.underlying25 rfl (sr_size HOK.out)) rfl ?_
  exact ⟨rfl, HZ.out.below⟩

set_option linter.unusedVariables false in
set_option maxRecDepth 100000 in
set_option maxHeartbeats 1600000 in
theorem Rvalue17 (s : St) (h : StOk s) (d b : Nat) (hd : d < 18446744073709551616) (hb : b < 18446744073709551616) (w : World) :
    Calls Tryz.prog 44 #[.agg (stRow s).toArray, .int .i64 17, .int .u64 d, .int .u64 b] w (RVal w (valueF.restS s d b false)) := by
  obtain ⟨W, hW, hH⟩ := rst_two w s
  obtain ⟨hz, _⟩ := zero_of_info zeroInfoSt
  have HS := Lib.hid h
  have HW := Lib.hid hW
  have k17 := hH.cell 1 17 rfl (sr_hi h.len 1)
  have k18 := hH.cell 1 18 rfl (sr_hi h.len 2)
  have k19 := hH.cell 1 19 rfl (sr_hi h.len 3)
  have f17 := hH.frozen 1 17 rfl
  have f18 := hH.frozen 1 18 rfl
  have f19 := hH.frozen 1 19 rfl
  have H := Lib.hid hH
  have hc := Rrest_any s h d b false hd hb
  obtain ⟨p, hp⟩ : ∃ p, p = valueF.restS s d b false := ⟨_, rfl⟩
  rw [← hp] at hc
  rw [← hp]
  have HOK := Lib.hid (show StOk p.1 from by rw [hp]; exact ⟨h.len, h.regs, h.pc⟩)
  have HC := Lib.hid hc
  have e1 := val_and d b hd hb
  have e2 := val_or d b hd hb
  have e3 := val_xor d b hd hb
  clear hc hp
  clear h hW hH hd hb
  have hzs : zeroSt.toArray.size = 20 := rfl
  generalize hzz : zeroSt.toArray = zs at *
  clear hzs
  go_enter Tryz.func44, Tryz.ntmps44
  go_upto_region 1 with fail
  rw [← HW.out]
  clear hz hzz
  go_wp2_with (first | ((with_reducible refine sep_id ?_); refine H.out.load 1 rfl _ rfl rfl rfl Tryz.underlying25 rfl (sr_size HS.out) ?_))
  refine (HC.out _).mono ?_
  rintro e w1 ⟨rfl, hb1⟩
  have hH := H.out.next hb1
  clear H hb1 e1 e2 e3 k17 k18 k19 f17 f18 f19
  have H := Lib.hid hH
  clear hH
  go_upto_region 49 with (first | ((with_reducible refine sep_id ?_); refine H.out.storeBox 1 (row' := stRow p.1) rfl (by rw [sr_len HOK.out, sr_len HS.out]) _ _ rfl rfl rfl rfl (sr_size HOK.out) (stRow_one _) ?_; intro W3 hW3; clear H; have H := Lib.hid hW3; clear hW3))
  go_wp2_with (first | ((with_reducible refine sep_id ?_); refine H.out.load 1 rfl _ rfl rfl rfl Tryz.underlying25 rfl (sr_size HOK.out) ?_) | ((with_reducible refine sep_id ?_); refine H.out.storeBox 0 (row' := stRow p.1) rfl (by rw [sr_len HOK.out]; rfl) _ _ rfl rfl rfl rfl (sr_size HOK.out) (stRow_one _) ?_; intro W4 hW4; have HZ := Lib.hid hW4; clear hW4))
  refine bodyPost_ret (results3 (ty := 25) rfl _ _ (w.heap.size + 1) 25 (stRow p.1).toArray (0, 0) _ rfl (HZ.out.at_ 0 rfl) Tryz.underlying25 rfl (sr_size HOK.out)) rfl ?_
  exact ⟨rfl, HZ.out.below⟩

set_option linter.unusedVariables false in
set_option maxRecDepth 100000 in
set_option maxHeartbeats 1600000 in
theorem Rvalue18 (s : St) (h : StOk s) (d b : Nat) (hd : d < 18446744073709551616) (hb : b < 18446744073709551616) (w : World) :
    Calls Tryz.prog 44 #[.agg (stRow s).toArray, .int .i64 18, .int .u64 d, .int .u64 b] w (RVal w (valueF.restS s d b false)) := by
  obtain ⟨W, hW, hH⟩ := rst_two w s
  obtain ⟨hz, _⟩ := zero_of_info zeroInfoSt
  have HS := Lib.hid h
  have HW := Lib.hid hW
  have k17 := hH.cell 1 17 rfl (sr_hi h.len 1)
  have k18 := hH.cell 1 18 rfl (sr_hi h.len 2)
  have k19 := hH.cell 1 19 rfl (sr_hi h.len 3)
  have f17 := hH.frozen 1 17 rfl
  have f18 := hH.frozen 1 18 rfl
  have f19 := hH.frozen 1 19 rfl
  have H := Lib.hid hH
  have hc := Rrest_any s h d b false hd hb
  obtain ⟨p, hp⟩ : ∃ p, p = valueF.restS s d b false := ⟨_, rfl⟩
  rw [← hp] at hc
  rw [← hp]
  have HOK := Lib.hid (show StOk p.1 from by rw [hp]; exact ⟨h.len, h.regs, h.pc⟩)
  have HC := Lib.hid hc
  have e1 := val_and d b hd hb
  have e2 := val_or d b hd hb
  have e3 := val_xor d b hd hb
  clear hc hp
  clear h hW hH hd hb
  have hzs : zeroSt.toArray.size = 20 := rfl
  generalize hzz : zeroSt.toArray = zs at *
  clear hzs
  go_enter Tryz.func44, Tryz.ntmps44
  go_upto_region 1 with fail
  rw [← HW.out]
  clear hz hzz
  go_wp2_with (first | ((with_reducible refine sep_id ?_); refine H.out.load 1 rfl _ rfl rfl rfl Tryz.underlying25 rfl (sr_size HS.out) ?_))
  refine (HC.out _).mono ?_
  rintro e w1 ⟨rfl, hb1⟩
  have hH := H.out.next hb1
  clear H hb1 e1 e2 e3 k17 k18 k19 f17 f18 f19
  have H := Lib.hid hH
  clear hH
  go_upto_region 49 with (first | ((with_reducible refine sep_id ?_); refine H.out.storeBox 1 (row' := stRow p.1) rfl (by rw [sr_len HOK.out, sr_len HS.out]) _ _ rfl rfl rfl rfl (sr_size HOK.out) (stRow_one _) ?_; intro W3 hW3; clear H; have H := Lib.hid hW3; clear hW3))
  go_wp2_with (first | ((with_reducible refine sep_id ?_); refine H.out.load 1 rfl _ rfl rfl rfl Tryz.underlying25 rfl (sr_size HOK.out) ?_) | ((with_reducible refine sep_id ?_); refine H.out.storeBox 0 (row' := stRow p.1) rfl (by rw [sr_len HOK.out]; rfl) _ _ rfl rfl rfl rfl (sr_size HOK.out) (stRow_one _) ?_; intro W4 hW4; have HZ := Lib.hid hW4; clear hW4))
  refine bodyPost_ret (results3 (ty := 25) rfl _ _ (w.heap.size + 1) 25 (stRow p.1).toArray (0, 0) _ rfl (HZ.out.at_ 0 rfl) Tryz.underlying25 rfl (sr_size HOK.out)) rfl ?_
  exact ⟨rfl, HZ.out.below⟩

set_option linter.unusedVariables false in
set_option maxRecDepth 100000 in
set_option maxHeartbeats 1600000 in
theorem Rvalue22 (s : St) (h : StOk s) (d b : Nat) (hd : d < 18446744073709551616) (hb : b < 18446744073709551616) (w : World) :
    Calls Tryz.prog 44 #[.agg (stRow s).toArray, .int .i64 22, .int .u64 d, .int .u64 b] w (RVal w (valueF.restS s 0 d false)) := by
  obtain ⟨W, hW, hH⟩ := rst_two w s
  obtain ⟨hz, _⟩ := zero_of_info zeroInfoSt
  have HS := Lib.hid h
  have HW := Lib.hid hW
  have k17 := hH.cell 1 17 rfl (sr_hi h.len 1)
  have k18 := hH.cell 1 18 rfl (sr_hi h.len 2)
  have k19 := hH.cell 1 19 rfl (sr_hi h.len 3)
  have f17 := hH.frozen 1 17 rfl
  have f18 := hH.frozen 1 18 rfl
  have f19 := hH.frozen 1 19 rfl
  have H := Lib.hid hH
  have hc := Rrest_any s h 0 d false (by decide) hd
  obtain ⟨p, hp⟩ : ∃ p, p = valueF.restS s 0 d false := ⟨_, rfl⟩
  rw [← hp] at hc
  rw [← hp]
  have HOK := Lib.hid (show StOk p.1 from by rw [hp]; exact ⟨h.len, h.regs, h.pc⟩)
  have HC := Lib.hid hc
  have e1 := val_and d b hd hb
  have e2 := val_or d b hd hb
  have e3 := val_xor d b hd hb
  clear hc hp
  clear h hW hH hd hb
  have hzs : zeroSt.toArray.size = 20 := rfl
  generalize hzz : zeroSt.toArray = zs at *
  clear hzs
  go_enter Tryz.func44, Tryz.ntmps44
  go_upto_region 1 with fail
  rw [← HW.out]
  clear hz hzz
  go_wp2_with (first | ((with_reducible refine sep_id ?_); refine H.out.load 1 rfl _ rfl rfl rfl Tryz.underlying25 rfl (sr_size HS.out) ?_))
  refine (HC.out _).mono ?_
  rintro e w1 ⟨rfl, hb1⟩
  have hH := H.out.next hb1
  clear H hb1 e1 e2 e3 k17 k18 k19 f17 f18 f19
  have H := Lib.hid hH
  clear hH
  go_upto_region 49 with (first | ((with_reducible refine sep_id ?_); refine H.out.storeBox 1 (row' := stRow p.1) rfl (by rw [sr_len HOK.out, sr_len HS.out]) _ _ rfl rfl rfl rfl (sr_size HOK.out) (stRow_one _) ?_; intro W3 hW3; clear H; have H := Lib.hid hW3; clear hW3))
  go_wp2_with (first | ((with_reducible refine sep_id ?_); refine H.out.load 1 rfl _ rfl rfl rfl Tryz.underlying25 rfl (sr_size HOK.out) ?_) | ((with_reducible refine sep_id ?_); refine H.out.storeBox 0 (row' := stRow p.1) rfl (by rw [sr_len HOK.out]; rfl) _ _ rfl rfl rfl rfl (sr_size HOK.out) (stRow_one _) ?_; intro W4 hW4; have HZ := Lib.hid hW4; clear hW4))
  refine bodyPost_ret (results3 (ty := 25) rfl _ _ (w.heap.size + 1) 25 (stRow p.1).toArray (0, 0) _ rfl (HZ.out.at_ 0 rfl) Tryz.underlying25 rfl (sr_size HOK.out)) rfl ?_
  exact ⟨rfl, HZ.out.below⟩

set_option linter.unusedVariables false in
set_option maxRecDepth 100000 in
set_option maxHeartbeats 1600000 in
theorem Rvalue1 (s : St) (h : StOk s) (d b : Nat) (hd : d < 18446744073709551616) (hb : b < 18446744073709551616) (w : World) :
    Calls Tryz.prog 44 #[.agg (stRow s).toArray, .int .i64 1, .int .u64 d, .int .u64 b] w (RVal w (s, b)) := by
  obtain ⟨W, hW, hH⟩ := rst_two w s
  obtain ⟨hz, _⟩ := zero_of_info zeroInfoSt
  have HS := Lib.hid h
  have HW := Lib.hid hW
  have k17 := hH.cell 1 17 rfl (sr_hi h.len 1)
  have k18 := hH.cell 1 18 rfl (sr_hi h.len 2)
  have k19 := hH.cell 1 19 rfl (sr_hi h.len 3)
  have f17 := hH.frozen 1 17 rfl
  have f18 := hH.frozen 1 18 rfl
  have f19 := hH.frozen 1 19 rfl
  have H := Lib.hid hH
  clear h hW hH hd hb
  have hzs : zeroSt.toArray.size = 20 := rfl
  generalize hzz : zeroSt.toArray = zs at *
  clear hzs
  go_enter Tryz.func44, Tryz.ntmps44
  go_upto_region 1 with fail
  rw [← HW.out]
  clear hz hzz
  clear k17 k18 k19 f17 f18 f19
  go_wp2_with (first | ((with_reducible refine sep_id ?_); refine H.out.load 1 rfl _ rfl rfl rfl Tryz.underlying25 rfl (sr_size HS.out) ?_) | ((with_reducible refine sep_id ?_); refine H.out.storeBox 0 (row' := stRow s) rfl (by rw [sr_len HS.out]; rfl) _ _ rfl rfl rfl rfl (sr_size HS.out) (stRow_one _) ?_; intro W4 hW4; have HZ := Lib.hid hW4; clear hW4))
  refine bodyPost_ret (results3 (ty := 25) rfl _ _ (w.heap.size + 1) 25 (stRow s).toArray (0, 0) _ rfl (HZ.out.at_ 0 rfl) Tryz.underlying25 rfl (sr_size HS.out)) rfl ?_
  exact ⟨rfl, HZ.out.below⟩

set_option linter.unusedVariables false in
set_option maxRecDepth 100000 in
set_option maxHeartbeats 1600000 in
theorem Rvalue2 (s : St) (h : StOk s) (d b : Nat) (hd : d < 18446744073709551616) (hb : b < 18446744073709551616) (w : World) :
    Calls Tryz.prog 44 #[.agg (stRow s).toArray, .int .i64 2, .int .u64 d, .int .u64 b] w (RVal w (s, b)) := by
  obtain ⟨W, hW, hH⟩ := rst_two w s
  obtain ⟨hz, _⟩ := zero_of_info zeroInfoSt
  have HS := Lib.hid h
  have HW := Lib.hid hW
  have k17 := hH.cell 1 17 rfl (sr_hi h.len 1)
  have k18 := hH.cell 1 18 rfl (sr_hi h.len 2)
  have k19 := hH.cell 1 19 rfl (sr_hi h.len 3)
  have f17 := hH.frozen 1 17 rfl
  have f18 := hH.frozen 1 18 rfl
  have f19 := hH.frozen 1 19 rfl
  have H := Lib.hid hH
  clear h hW hH hd hb
  have hzs : zeroSt.toArray.size = 20 := rfl
  generalize hzz : zeroSt.toArray = zs at *
  clear hzs
  go_enter Tryz.func44, Tryz.ntmps44
  go_upto_region 1 with fail
  rw [← HW.out]
  clear hz hzz
  clear k17 k18 k19 f17 f18 f19
  go_wp2_with (first | ((with_reducible refine sep_id ?_); refine H.out.load 1 rfl _ rfl rfl rfl Tryz.underlying25 rfl (sr_size HS.out) ?_) | ((with_reducible refine sep_id ?_); refine H.out.storeBox 0 (row' := stRow s) rfl (by rw [sr_len HS.out]; rfl) _ _ rfl rfl rfl rfl (sr_size HS.out) (stRow_one _) ?_; intro W4 hW4; have HZ := Lib.hid hW4; clear hW4))
  refine bodyPost_ret (results3 (ty := 25) rfl _ _ (w.heap.size + 1) 25 (stRow s).toArray (0, 0) _ rfl (HZ.out.at_ 0 rfl) Tryz.underlying25 rfl (sr_size HS.out)) rfl ?_
  exact ⟨rfl, HZ.out.below⟩

set_option linter.unusedVariables false in
set_option maxRecDepth 100000 in
set_option maxHeartbeats 1600000 in
theorem Rvalue23 (s : St) (h : StOk s) (d b : Nat) (hd : d < 18446744073709551616) (hb : b < 18446744073709551616) (w : World) :
    Calls Tryz.prog 44 #[.agg (stRow s).toArray, .int .i64 23, .int .u64 d, .int .u64 b] w (RVal w (s, 18446744073709551615 - d)) := by
  obtain ⟨W, hW, hH⟩ := rst_two w s
  obtain ⟨hz, _⟩ := zero_of_info zeroInfoSt
  have HS := Lib.hid h
  have HW := Lib.hid hW
  have k17 := hH.cell 1 17 rfl (sr_hi h.len 1)
  have k18 := hH.cell 1 18 rfl (sr_hi h.len 2)
  have k19 := hH.cell 1 19 rfl (sr_hi h.len 3)
  have f17 := hH.frozen 1 17 rfl
  have f18 := hH.frozen 1 18 rfl
  have f19 := hH.frozen 1 19 rfl
  have H := Lib.hid hH
  have hx := not_u64 d hd
  have hsg : IntKind.u64.signed = false := rfl
  clear h hW hH hd hb
  have hzs : zeroSt.toArray.size = 20 := rfl
  generalize hzz : zeroSt.toArray = zs at *
  clear hzs
  go_enter Tryz.func44, Tryz.ntmps44
  go_upto_region 1 with fail
  rw [← HW.out]
  clear hz hzz
  clear k17 k18 k19 f17 f18 f19
  go_wp2_with (first | ((with_reducible refine sep_id ?_); refine H.out.load 1 rfl _ rfl rfl rfl Tryz.underlying25 rfl (sr_size HS.out) ?_) | ((with_reducible refine sep_id ?_); refine H.out.storeBox 0 (row' := stRow s) rfl (by rw [sr_len HS.out]; rfl) _ _ rfl rfl rfl rfl (sr_size HS.out) (stRow_one _) ?_; intro W4 hW4; have HZ := Lib.hid hW4; clear hW4))
  refine bodyPost_ret (results3 (ty := 25) rfl _ _ (w.heap.size + 1) 25 (stRow s).toArray (0, 0) _ rfl (HZ.out.at_ 0 rfl) Tryz.underlying25 rfl (sr_size HS.out)) rfl ?_
  exact ⟨rfl, HZ.out.below⟩

set_option linter.unusedVariables false in
set_option maxRecDepth 100000 in
set_option maxHeartbeats 1600000 in
theorem Rvalue26 (s : St) (h : StOk s) (d b : Nat) (hd : d < 18446744073709551616) (hb : b < 18446744073709551616) (w : World) :
    Calls Tryz.prog 44 #[.agg (stRow s).toArray, .int .i64 26, .int .u64 d, .int .u64 b] w (RVal w (s, if s.cf then b else d)) := by
  obtain ⟨W, hW, hH⟩ := rst_two w s
  obtain ⟨hz, _⟩ := zero_of_info zeroInfoSt
  have HS := Lib.hid h
  have HW := Lib.hid hW
  have k17 := hH.cell 1 17 rfl (sr_hi h.len 1)
  have k18 := hH.cell 1 18 rfl (sr_hi h.len 2)
  have k19 := hH.cell 1 19 rfl (sr_hi h.len 3)
  have f17 := hH.frozen 1 17 rfl
  have f18 := hH.frozen 1 18 rfl
  have f19 := hH.frozen 1 19 rfl
  have H := Lib.hid hH
  obtain ⟨q, hq⟩ : ∃ q, q = if s.cf then b else d := ⟨_, rfl⟩
  rw [← hq]
  have HQ := Lib.hid hq
  clear hq
  clear h hW hH hd hb
  have hzs : zeroSt.toArray.size = 20 := rfl
  generalize hzz : zeroSt.toArray = zs at *
  clear hzs
  go_enter Tryz.func44, Tryz.ntmps44
  go_upto_region 1 with fail
  rw [← HW.out]
  clear hz hzz
  clear f17 f18 f19
  cases hf : s.cf
  · rw [hf] at k17
    have hqe : q = d := by have := HQ.out; rw [hf] at this; exact this
    subst hqe
    clear hf HQ
    go_wp2_with (first | ((with_reducible refine sep_id ?_); refine H.out.load 1 rfl _ rfl rfl rfl Tryz.underlying25 rfl (sr_size HS.out) ?_) | ((with_reducible refine sep_id ?_); refine H.out.storeBox 0 (row' := stRow s) rfl (by rw [sr_len HS.out]; rfl) _ _ rfl rfl rfl rfl (sr_size HS.out) (stRow_one _) ?_; intro W4 hW4; have HZ := Lib.hid hW4; clear hW4))
    refine bodyPost_ret (results3 (ty := 25) rfl _ _ (w.heap.size + 1) 25 (stRow s).toArray (0, 0) _ rfl (HZ.out.at_ 0 rfl) Tryz.underlying25 rfl (sr_size HS.out)) rfl ?_
    exact ⟨rfl, HZ.out.below⟩
  · rw [hf] at k17
    have hqe : q = b := by have := HQ.out; rw [hf] at this; exact this
    subst hqe
    clear hf HQ
    go_wp2_with (first | ((with_reducible refine sep_id ?_); refine H.out.load 1 rfl _ rfl rfl rfl Tryz.underlying25 rfl (sr_size HS.out) ?_) | ((with_reducible refine sep_id ?_); refine H.out.storeBox 0 (row' := stRow s) rfl (by rw [sr_len HS.out]; rfl) _ _ rfl rfl rfl rfl (sr_size HS.out) (stRow_one _) ?_; intro W4 hW4; have HZ := Lib.hid hW4; clear hW4))
    refine bodyPost_ret (results3 (ty := 25) rfl _ _ (w.heap.size + 1) 25 (stRow s).toArray (0, 0) _ rfl (HZ.out.at_ 0 rfl) Tryz.underlying25 rfl (sr_size HS.out)) rfl ?_
    exact ⟨rfl, HZ.out.below⟩

set_option linter.unusedVariables false in
set_option maxRecDepth 100000 in
set_option maxHeartbeats 1600000 in
theorem Rvalue27 (s : St) (h : StOk s) (d b : Nat) (hd : d < 18446744073709551616) (hb : b < 18446744073709551616) (w : World) :
    Calls Tryz.prog 44 #[.agg (stRow s).toArray, .int .i64 27, .int .u64 d, .int .u64 b] w (RVal w (s, if s.zf then d else b)) := by
  obtain ⟨W, hW, hH⟩ := rst_two w s
  obtain ⟨hz, _⟩ := zero_of_info zeroInfoSt
  have HS := Lib.hid h
  have HW := Lib.hid hW
  have k17 := hH.cell 1 17 rfl (sr_hi h.len 1)
  have k18 := hH.cell 1 18 rfl (sr_hi h.len 2)
  have k19 := hH.cell 1 19 rfl (sr_hi h.len 3)
  have f17 := hH.frozen 1 17 rfl
  have f18 := hH.frozen 1 18 rfl
  have f19 := hH.frozen 1 19 rfl
  have H := Lib.hid hH
  obtain ⟨q, hq⟩ : ∃ q, q = if s.zf then d else b := ⟨_, rfl⟩
  rw [← hq]
  have HQ := Lib.hid hq
  clear hq
  clear h hW hH hd hb
  have hzs : zeroSt.toArray.size = 20 := rfl
  generalize hzz : zeroSt.toArray = zs at *
  clear hzs
  go_enter Tryz.func44, Tryz.ntmps44
  go_upto_region 1 with fail
  rw [← HW.out]
  clear hz hzz
  clear f17 f18 f19
  cases hf : s.zf
  · rw [hf] at k19
    have hqe : q = b := by have := HQ.out; rw [hf] at this; exact this
    subst hqe
    clear hf HQ
    go_wp2_with (first | ((with_reducible refine sep_id ?_); refine H.out.load 1 rfl _ rfl rfl rfl Tryz.underlying25 rfl (sr_size HS.out) ?_) | ((with_reducible refine sep_id ?_); refine H.out.storeBox 0 (row' := stRow s) rfl (by rw [sr_len HS.out]; rfl) _ _ rfl rfl rfl rfl (sr_size HS.out) (stRow_one _) ?_; intro W4 hW4; have HZ := Lib.hid hW4; clear hW4))
    refine bodyPost_ret (results3 (ty := 25) rfl _ _ (w.heap.size + 1) 25 (stRow s).toArray (0, 0) _ rfl (HZ.out.at_ 0 rfl) Tryz.underlying25 rfl (sr_size HS.out)) rfl ?_
    exact ⟨rfl, HZ.out.below⟩
  · rw [hf] at k19
    have hqe : q = d := by have := HQ.out; rw [hf] at this; exact this
    subst hqe
    clear hf HQ
    go_wp2_with (first | ((with_reducible refine sep_id ?_); refine H.out.load 1 rfl _ rfl rfl rfl Tryz.underlying25 rfl (sr_size HS.out) ?_) | ((with_reducible refine sep_id ?_); refine H.out.storeBox 0 (row' := stRow s) rfl (by rw [sr_len HS.out]; rfl) _ _ rfl rfl rfl rfl (sr_size HS.out) (stRow_one _) ?_; intro W4 hW4; have HZ := Lib.hid hW4; clear hW4))
    refine bodyPost_ret (results3 (ty := 25) rfl _ _ (w.heap.size + 1) 25 (stRow s).toArray (0, 0) _ rfl (HZ.out.at_ 0 rfl) Tryz.underlying25 rfl (sr_size HS.out)) rfl ?_
    exact ⟨rfl, HZ.out.below⟩

set_option linter.unusedVariables false in
set_option maxRecDepth 100000 in
set_option maxHeartbeats 1600000 in
theorem Rvalue20 (s : St) (h : StOk s) (d b : Nat) (hd : d < 18446744073709551616) (hb : b < 18446744073709551616) (w : World) :
    Calls Tryz.prog 44 #[.agg (stRow s).toArray, .int .i64 20, .int .u64 d, .int .u64 b] w (RVal w ({ s with cf := (addF d b s.cf).2 }, (addF d b s.cf).1)) := by
  obtain ⟨W, hW, hH⟩ := rst_two w s
  obtain ⟨hz, _⟩ := zero_of_info zeroInfoSt
  have HS := Lib.hid h
  have HW := Lib.hid hW
  have k17 := hH.cell 1 17 rfl (sr_hi h.len 1)
  have k18 := hH.cell 1 18 rfl (sr_hi h.len 2)
  have k19 := hH.cell 1 19 rfl (sr_hi h.len 3)
  have f17 := hH.frozen 1 17 rfl
  have f18 := hH.frozen 1 18 rfl
  have f19 := hH.frozen 1 19 rfl
  have H := Lib.hid hH
  have hc := RAdd_any d b s.cf W hd hb
  generalize (addF d b s.cf).1 = r at *
  generalize (addF d b s.cf).2 = q at *
  have HC := Lib.hid hc
  have HOK := Lib.hid (show StOk { s with cf := q } from ⟨h.len, h.regs, h.pc⟩)
  clear hc
  clear h hW hH hd hb
  have hzs : zeroSt.toArray.size = 20 := rfl
  generalize hzz : zeroSt.toArray = zs at *
  clear hzs
  go_enter Tryz.func44, Tryz.ntmps44
  go_upto_region 1 with fail
  rw [← HW.out]
  clear hz hzz
  go_wp2_with fail
  refine HC.out.mono ?_
  rintro e w1 ⟨rfl, rfl⟩
  go_upto_region 49 with fail
  refine sep_name ?_
  intro W2 hW2
  have hH := (H.out.setCell 1 rfl 17 (.bool q) (sr_cf HS.out.len)).cast hW2
  clear H hW2 k17 k18 k19 f17 f18 f19
  have H := Lib.hid hH
  clear hH
  go_wp2_with (first | ((with_reducible refine sep_id ?_); refine H.out.load 1 rfl _ rfl rfl rfl Tryz.underlying25 rfl (sr_size HOK.out) ?_) | ((with_reducible refine sep_id ?_); refine H.out.storeBox 0 (row' := stRow { s with cf := q }) rfl (by rw [sr_len HOK.out]; rfl) _ _ rfl rfl rfl rfl (sr_size HOK.out) (stRow_one _) ?_; intro W4 hW4; have HZ := Lib.hid hW4; clear hW4))
  refine bodyPost_ret (results3 (ty := 25) rfl _ _ (w.heap.size + 1) 25 (stRow { s with cf := q }).toArray (0, 0) _ rfl (HZ.out.at_ 0 rfl) Tryz.underlying25 rfl (sr_size HOK.out)) rfl ?_
  exact ⟨rfl, HZ.out.below⟩

set_option linter.unusedVariables false in
set_option maxRecDepth 100000 in
set_option maxHeartbeats 1600000 in
theorem Rvalue21 (s : St) (h : StOk s) (d b : Nat) (hd : d < 18446744073709551616) (hb : b < 18446744073709551616) (w : World) :
    Calls Tryz.prog 44 #[.agg (stRow s).toArray, .int .i64 21, .int .u64 d, .int .u64 b] w (RVal w ({ s with of_ := (addF d b s.of_).2 }, (addF d b s.of_).1)) := by
  obtain ⟨W, hW, hH⟩ := rst_two w s
  obtain ⟨hz, _⟩ := zero_of_info zeroInfoSt
  have HS := Lib.hid h
  have HW := Lib.hid hW
  have k17 := hH.cell 1 17 rfl (sr_hi h.len 1)
  have k18 := hH.cell 1 18 rfl (sr_hi h.len 2)
  have k19 := hH.cell 1 19 rfl (sr_hi h.len 3)
  have f17 := hH.frozen 1 17 rfl
  have f18 := hH.frozen 1 18 rfl
  have f19 := hH.frozen 1 19 rfl
  have H := Lib.hid hH
  have hc := RAdd_any d b s.of_ W hd hb
  generalize (addF d b s.of_).1 = r at *
  generalize (addF d b s.of_).2 = q at *
  have HC := Lib.hid hc
  have HOK := Lib.hid (show StOk { s with of_ := q } from ⟨h.len, h.regs, h.pc⟩)
  clear hc
  clear h hW hH hd hb
  have hzs : zeroSt.toArray.size = 20 := rfl
  generalize hzz : zeroSt.toArray = zs at *
  clear hzs
  go_enter Tryz.func44, Tryz.ntmps44
  go_upto_region 1 with fail
  rw [← HW.out]
  clear hz hzz
  go_wp2_with fail
  refine HC.out.mono ?_
  rintro e w1 ⟨rfl, rfl⟩
  go_upto_region 49 with fail
  refine sep_name ?_
  intro W2 hW2
  have hH := (H.out.setCell 1 rfl 18 (.bool q) (sr_of HS.out.len)).cast hW2
  clear H hW2 k17 k18 k19 f17 f18 f19
  have H := Lib.hid hH
  clear hH
  go_wp2_with (first | ((with_reducible refine sep_id ?_); refine H.out.load 1 rfl _ rfl rfl rfl Tryz.underlying25 rfl (sr_size HOK.out) ?_) | ((with_reducible refine sep_id ?_); refine H.out.storeBox 0 (row' := stRow { s with of_ := q }) rfl (by rw [sr_len HOK.out]; rfl) _ _ rfl rfl rfl rfl (sr_size HOK.out) (stRow_one _) ?_; intro W4 hW4; have HZ := Lib.hid hW4; clear hW4))
  refine bodyPost_ret (results3 (ty := 25) rfl _ _ (w.heap.size + 1) 25 (stRow { s with of_ := q }).toArray (0, 0) _ rfl (HZ.out.at_ 0 rfl) Tryz.underlying25 rfl (sr_size HOK.out)) rfl ?_
  exact ⟨rfl, HZ.out.below⟩

set_option linter.unusedVariables false in
set_option maxRecDepth 100000 in
set_option maxHeartbeats 1600000 in
theorem Rvalue24 (s : St) (h : StOk s) (d b : Nat) (hd : d < 18446744073709551616) (hb : b < 18446744073709551616) (hb1 : 1 ≤ b) (hb2 : b ≤ 63) (w : World) :
    Calls Tryz.prog 44 #[.agg (stRow s).toArray, .int .i64 24, .int .u64 d, .int .u64 b] w (RVal w (valueF.shiftS s (d * 2 ^ b % 18446744073709551616) (d / 2 ^ (64 - b)))) := by
  obtain ⟨W, hW, hH⟩ := rst_two w s
  obtain ⟨hz, _⟩ := zero_of_info zeroInfoSt
  have HS := Lib.hid h
  have HW := Lib.hid hW
  have k17 := hH.cell 1 17 rfl (sr_hi h.len 1)
  have k18 := hH.cell 1 18 rfl (sr_hi h.len 2)
  have k19 := hH.cell 1 19 rfl (sr_hi h.len 3)
  have f17 := hH.frozen 1 17 rfl
  have f18 := hH.frozen 1 18 rfl
  have f19 := hH.frozen 1 19 rfl
  have H := Lib.hid hH
  have e1 : IntKind.u64.wrap ((d : Int) * 2 ^ b) = ((d * 2 ^ b % 18446744073709551616 : Nat) : Int) := by rw [wrapU']; simp
  have e2 : (d : Int) / 2 ^ (64 - b) = ((d / 2 ^ (64 - b) : Nat) : Int) := by simp
  have e3 : (d : Int) / 2 ^ b = ((d / 2 ^ b : Nat) : Int) := by simp
  have e4 : (d : Int) / 2 ^ (b - 1) = ((d / 2 ^ (b - 1) : Nat) : Int) := by simp
  have hbit : d / 2 ^ (64 - b) < 18446744073709551616 := Nat.lt_of_le_of_lt (Nat.div_le_self _ _) hd
  have o1 := odd_bit (d / 2 ^ (64 - b)) hbit
  clear hbit
  obtain ⟨r, hr⟩ : ∃ r, r = d * 2 ^ b % 18446744073709551616 := ⟨_, rfl⟩
  obtain ⟨q, hq⟩ : ∃ q, q = d / 2 ^ (64 - b) := ⟨_, rfl⟩
  rw [← hr, ← hq]
  rw [← hr] at e1
  rw [← hq] at e2 o1
  have o2 : (((q % 2 : Nat) : Int) == 1) = (q % 2 == 1) := by rw [Bool.eq_iff_iff, beq_iff_eq, beq_iff_eq]; omega
  have hz0 : ((r : Int) == 0) = (r == 0) := by rw [Bool.eq_iff_iff, beq_iff_eq, beq_iff_eq]; omega
  have hp : valueF.shiftS s r q = ({ s with cf := q % 2 == 1, zf := r == 0 }, r) := rfl
  generalize (r == 0) = z at *
  generalize q % 2 = q2 at *
  generalize (q2 == 1) = c at *
  have HP := Lib.hid hp
  have HOK := Lib.hid (show StOk { s with cf := c, zf := z } from ⟨h.len, h.regs, h.pc⟩)
  clear hp hr hq
  clear h hW hH hd hb
  have hzs : zeroSt.toArray.size = 20 := rfl
  generalize hzz : zeroSt.toArray = zs at *
  clear hzs
  go_enter Tryz.func44, Tryz.ntmps44
  go_upto_region 1 with fail
  rw [← HW.out]
  clear hz hzz
  go_upto_region 49 with fail
  refine sep_name ?_
  intro W2 hW2
  have hH := ((H.out.setCell 1 rfl 17 (.bool c) (sr_cf HS.out.len)).setCell 1 rfl 19 (.bool z) (sr_zf (t := { s with cf := c }) HS.out.len)).cast hW2
  clear H hW2 k17 k18 k19 f17 f18 f19
  have H := Lib.hid hH
  clear hH
  go_wp2_with (first | ((with_reducible refine sep_id ?_); refine H.out.load 1 rfl _ rfl rfl rfl Tryz.underlying25 rfl (sr_size HOK.out) ?_) | ((with_reducible refine sep_id ?_); refine H.out.storeBox 0 (row' := stRow { s with cf := c, zf := z }) rfl (by rw [sr_len HOK.out]; rfl) _ _ rfl rfl rfl rfl (sr_size HOK.out) (stRow_one _) ?_; intro W4 hW4; have HZ := Lib.hid hW4; clear hW4))
  refine bodyPost_ret (results3 (ty := 25) rfl _ _ (w.heap.size + 1) 25 (stRow { s with cf := c, zf := z }).toArray (0, 0) _ rfl (HZ.out.at_ 0 rfl) Tryz.underlying25 rfl (sr_size HOK.out)) rfl ?_
  exact ⟨by rw [HP.out]; rfl, HZ.out.below⟩

set_option linter.unusedVariables false in
set_option maxRecDepth 100000 in
set_option maxHeartbeats 1600000 in
theorem Rvalue25 (s : St) (h : StOk s) (d b : Nat) (hd : d < 18446744073709551616) (hb : b < 18446744073709551616) (hb1 : 1 ≤ b) (hb2 : b ≤ 63) (w : World) :
    Calls Tryz.prog 44 #[.agg (stRow s).toArray, .int .i64 25, .int .u64 d, .int .u64 b] w (RVal w (valueF.shiftS s (d / 2 ^ b) (d / 2 ^ (b - 1)))) := by
  obtain ⟨W, hW, hH⟩ := rst_two w s
  obtain ⟨hz, _⟩ := zero_of_info zeroInfoSt
  have HS := Lib.hid h
  have HW := Lib.hid hW
  have k17 := hH.cell 1 17 rfl (sr_hi h.len 1)
  have k18 := hH.cell 1 18 rfl (sr_hi h.len 2)
  have k19 := hH.cell 1 19 rfl (sr_hi h.len 3)
  have f17 := hH.frozen 1 17 rfl
  have f18 := hH.frozen 1 18 rfl
  have f19 := hH.frozen 1 19 rfl
  have H := Lib.hid hH
  have e1 : IntKind.u64.wrap ((d : Int) * 2 ^ b) = ((d * 2 ^ b % 18446744073709551616 : Nat) : Int) := by rw [wrapU']; simp
  have e2 : (d : Int) / 2 ^ (64 - b) = ((d / 2 ^ (64 - b) : Nat) : Int) := by simp
  have e3 : (d : Int) / 2 ^ b = ((d / 2 ^ b : Nat) : Int) := by simp
  have e4 : (d : Int) / 2 ^ (b - 1) = ((d / 2 ^ (b - 1) : Nat) : Int) := by simp
  have hbit : d / 2 ^ (b - 1) < 18446744073709551616 := Nat.lt_of_le_of_lt (Nat.div_le_self _ _) hd
  have o1 := odd_bit (d / 2 ^ (b - 1)) hbit
  clear hbit
  obtain ⟨r, hr⟩ : ∃ r, r = d / 2 ^ b := ⟨_, rfl⟩
  obtain ⟨q, hq⟩ : ∃ q, q = d / 2 ^ (b - 1) := ⟨_, rfl⟩
  rw [← hr, ← hq]
  rw [← hr] at e3
  rw [← hq] at e4 o1
  have o2 : (((q % 2 : Nat) : Int) == 1) = (q % 2 == 1) := by rw [Bool.eq_iff_iff, beq_iff_eq, beq_iff_eq]; omega
  have hz0 : ((r : Int) == 0) = (r == 0) := by rw [Bool.eq_iff_iff, beq_iff_eq, beq_iff_eq]; omega
  have hp : valueF.shiftS s r q = ({ s with cf := q % 2 == 1, zf := r == 0 }, r) := rfl
  generalize (r == 0) = z at *
  generalize q % 2 = q2 at *
  generalize (q2 == 1) = c at *
  have HP := Lib.hid hp
  have HOK := Lib.hid (show StOk { s with cf := c, zf := z } from ⟨h.len, h.regs, h.pc⟩)
  clear hp hr hq
  clear h hW hH hd hb
  have hzs : zeroSt.toArray.size = 20 := rfl
  generalize hzz : zeroSt.toArray = zs at *
  clear hzs
  go_enter Tryz.func44, Tryz.ntmps44
  go_upto_region 1 with fail
  rw [← HW.out]
  clear hz hzz
  go_upto_region 49 with fail
  refine sep_name ?_
  intro W2 hW2
  have hH := ((H.out.setCell 1 rfl 17 (.bool c) (sr_cf HS.out.len)).setCell 1 rfl 19 (.bool z) (sr_zf (t := { s with cf := c }) HS.out.len)).cast hW2
  clear H hW2 k17 k18 k19 f17 f18 f19
  have H := Lib.hid hH
  clear hH
  go_wp2_with (first | ((with_reducible refine sep_id ?_); refine H.out.load 1 rfl _ rfl rfl rfl Tryz.underlying25 rfl (sr_size HOK.out) ?_) | ((with_reducible refine sep_id ?_); refine H.out.storeBox 0 (row' := stRow { s with cf := c, zf := z }) rfl (by rw [sr_len HOK.out]; rfl) _ _ rfl rfl rfl rfl (sr_size HOK.out) (stRow_one _) ?_; intro W4 hW4; have HZ := Lib.hid hW4; clear hW4))
  refine bodyPost_ret (results3 (ty := 25) rfl _ _ (w.heap.size + 1) 25 (stRow { s with cf := c, zf := z }).toArray (0, 0) _ rfl (HZ.out.at_ 0 rfl) Tryz.underlying25 rfl (sr_size HOK.out)) rfl ?_
  exact ⟨by rw [HP.out]; rfl, HZ.out.below⟩

set_option linter.unusedVariables false in
set_option maxRecDepth 100000 in
set_option maxHeartbeats 1600000 in
theorem Rvalue_no (s : St) (h : StOk s) (op : Int) (d b : Nat) (hd : d < 18446744073709551616) (hb : b < 18446744073709551616) (h6 : (op == 6) = false) (h15 : (op == 15) = false) (h7 : (op == 7) = false) (h8 : (op == 8) = false) (h17 : (op == 17) = false) (h13 : (op == 13) = false) (h18 : (op == 18) = false) (h9 : (op == 9) = false) (h10 : (op == 10) = false) (h16 : (op == 16) = false) (h14 : (op == 14) = false) (h11 : (op == 11) = false) (h12 : (op == 12) = false) (h22 : (op == 22) = false) (h23 : (op == 23) = false) (h24 : (op == 24) = false) (h25 : (op == 25) = false) (h20 : (op == 20) = false) (h21 : (op == 21) = false) (h1 : (op == 1) = false) (h2 : (op == 2) = false) (h26 : (op == 26) = false) (h27 : (op == 27) = false) (w : World) :
    Calls Tryz.prog 44 #[.agg (stRow s).toArray, .int .i64 op, .int .u64 d, .int .u64 b] w fun e w' => e = .returned (.tuple #[.agg (stRow s).toArray, .int .u64 0, .bool false]) ∧ Below w.heap.size w w' := by
  obtain ⟨W, hW, hH⟩ := rst_two w s
  obtain ⟨hz, _⟩ := zero_of_info zeroInfoSt
  have HS := Lib.hid h
  have HW := Lib.hid hW
  have k17 := hH.cell 1 17 rfl (sr_hi h.len 1)
  have k18 := hH.cell 1 18 rfl (sr_hi h.len 2)
  have k19 := hH.cell 1 19 rfl (sr_hi h.len 3)
  have f17 := hH.frozen 1 17 rfl
  have f18 := hH.frozen 1 18 rfl
  have f19 := hH.frozen 1 19 rfl
  have H := Lib.hid hH
  clear h hW hH hd hb
  have hzs : zeroSt.toArray.size = 20 := rfl
  generalize hzz : zeroSt.toArray = zs at *
  clear hzs
  go_enter Tryz.func44, Tryz.ntmps44
  go_upto_region 1 with fail
  rw [← HW.out]
  clear hz hzz
  clear k17 k18 k19 f17 f18 f19
  go_wp2_with (first | ((with_reducible refine sep_id ?_); refine H.out.load 1 rfl _ rfl rfl rfl Tryz.underlying25 rfl (sr_size HS.out) ?_) | ((with_reducible refine sep_id ?_); refine H.out.storeBox 0 (row' := stRow s) rfl (by rw [sr_len HS.out]; rfl) _ _ rfl rfl rfl rfl (sr_size HS.out) (stRow_one _) ?_; intro W4 hW4; have HZ := Lib.hid hW4; clear hW4))
  refine bodyPost_ret (results3 (ty := 25) rfl _ _ (w.heap.size + 1) 25 (stRow s).toArray (0, 0) _ rfl (HZ.out.at_ 0 rfl) Tryz.underlying25 rfl (sr_size HS.out)) rfl ?_
  exact ⟨rfl, HZ.out.below⟩

end Go.Proofs.YtmanhikpccnfaaaGreat
