/- keysmithlaw08.StepSums: the walk. -/
import Derived.Test.YtmanhikpccnfaaaSLives
import Derived.Test.YtmanhikpccnfaaaEqSt
namespace Go.Proofs.Ytmanhikpccnfaaa
open Go.RowKit

section
variable (a b c d pc : Nat) (k cf o z : Bool) (rs : List Reg)
theorem sbb03_back (hp : pc < 1000000) (ha : a < 18446744073709551616) (hc : c < 18446744073709551616) : stepF (st4 (addF a c k).1 b c d pc k o z) ⟨9, 0, 3, 0, 0, 0, 0, 0, 0⟩ 3 rs = ⟨0, st4 a b c d (pc + 3) (addF a c k).2 (ofS (addF a c k).1 c a) (a == 0), [⟨1, pc⟩], rs⟩ := by
  obtain ⟨h1, h2⟩ := sub_add k ha hc
  rw [sbb03 _ _ _ _ _ _ _ _ _ hp, h1, h2]
theorem sbb16_back (hp : pc < 1000000) (hb : b < 18446744073709551616) (hd : d < 18446744073709551616) : stepF (st4 a (addF b d k).1 c d pc k o z) ⟨9, 1, 6, 0, 0, 0, 0, 0, 0⟩ 3 rs = ⟨0, st4 a b c d (pc + 3) (addF b d k).2 (ofS (addF b d k).1 d b) (b == 0), [⟨1, pc⟩], rs⟩ := by
  obtain ⟨h1, h2⟩ := sub_add k hb hd
  rw [sbb16 _ _ _ _ _ _ _ _ _ hp, h1, h2]
theorem st4_ok (ha : a < 18446744073709551616) (hb : b < 18446744073709551616) (hc : c < 18446744073709551616) (hd : d < 18446744073709551616) (hp : pc < 1000000) : StOk (st4 a b c d pc cf o z) :=
  ⟨rfl, by simp only [st4, List.forall_mem_cons]; simp; omega, by show pc < _; omega⟩
end

theorem eq_same {s : St} (h : StOk s) (w : World) {X : Array Value} (hX : X = (s.regs.map fun r => Value.int .u64 (r : Nat)).toArray) : (Op.equalIn 10000 28 (.agg X) (.agg X)).run Try.prog w = .ok true w := by
  have := eq_regs s.regs s.regs h.len h.len h.regs h.regs w hX hX
  rw [this]; simp


set_option maxRecDepth 100000 in
set_option maxHeartbeats 3200000 in
theorem sums_walk (a b c d : Nat) (carry : Bool) (w : World) (ha : a < 18446744073709551616) (hb : b < 18446744073709551616) (hc : c < 18446744073709551616) (hd : d < 18446744073709551616) :
    Calls Try.prog 3 #[.int .u64 a, .int .u64 b, .int .u64 c, .int .u64 d, .bool carry] w fun e w' => e = .returned (.bool true) ∧ Below w.heap.size w w' := by
  have HL := Lib.hid (lives_any w)
  have HA := Lib.hid ha
  have HB := Lib.hid hb
  have HC := Lib.hid hc
  have HD := Lib.hid hd
  have OK4 := Lib.hid (fun (pc : Nat) (cf o z : Bool) (hp : pc < 1000000) => st4_ok a b c d pc cf o z ha hb hc hd hp)
  have OKR := Lib.hid (fun (k : Bool) (pc : Nat) (cf o z : Bool) (hp : pc < 1000000) => st4_ok (addF a c k).1 b c d pc cf o z (addF_lt _ _ _) hb hc hd hp)
  have OKRR := Lib.hid (fun (k k' : Bool) (pc : Nat) (cf o z : Bool) (hp : pc < 1000000) => st4_ok (addF a c k).1 (addF b d k').1 c d pc cf o z (addF_lt _ _ _) (addF_lt _ _ _) hc hd hp)
  have OKAR := Lib.hid (fun (k' : Bool) (pc : Nat) (cf o z : Bool) (hp : pc < 1000000) => st4_ok a (addF b d k').1 c d pc cf o z ha (addF_lt _ _ _) hc hd hp)
  clear ha hb hc hd
  go_enter Try.func3, Try.ntmps3
  go_wp2_with fail
  refine HL.out.mono ?_
  rintro e w1 ⟨rfl, hb1⟩
  have HN := Lib.hid (New_none w w1 hb1)
  clear hb1 HL
  go_wp2_with fail
  refine HN.out.mono ?_
  rintro e w2 ⟨bm, rfl, hH⟩
  have H := Lib.hid hH
  clear hH HN
  go_upto_region 5 with (refine H.out.store_fresh (s := st4 0 0 0 0 0 carry false false) (st4_ok _ _ _ _ _ _ _ _ (by decide) (by decide) (by decide) (by decide) (by decide)) rfl _ _ rfl _ rfl rfl rfl ?_; intro Wa hW; clear H; have H := Lib.hid hW; clear hW)
  have c0 : Wa.cell? ⟨w2.heap.size, 0, none⟩ = some (.int .u64 0) := H.out.cell 0 0 rfl rfl
  have c1 : Wa.cell? ⟨w2.heap.size, 1, none⟩ = some (.int .u64 0) := H.out.cell 0 1 rfl rfl
  have c3 : Wa.cell? ⟨w2.heap.size, 3, none⟩ = some (.int .u64 0) := H.out.cell 0 3 rfl rfl
  have c6 : Wa.cell? ⟨w2.heap.size, 6, none⟩ = some (.int .u64 0) := H.out.cell 0 6 rfl rfl
  have f0 := H.out.frozen 0 0 rfl
  have f1 := H.out.frozen 0 1 rfl
  have f3 := H.out.frozen 0 3 rfl
  have f6 := H.out.frozen 0 6 rfl
  go_upto_region 6 with fail
  refine wp_name ?_
  intro W1 hW1
  have hH := ((((H.out.setCell (i := 0) rfl 0 (.int .u64 a) (s' := st4 a 0 0 0 0 carry false false) rfl (st4_ok _ _ _ _ _ _ _ _ HA.out (by decide) (by decide) (by decide) (by decide))).setCell (i := 0) rfl 1 (.int .u64 b) (s' := st4 a b 0 0 0 carry false false) rfl (st4_ok _ _ _ _ _ _ _ _ HA.out HB.out (by decide) (by decide) (by decide))).setCell (i := 0) rfl 3 (.int .u64 c) (s' := st4 a b c 0 0 carry false false) rfl (st4_ok _ _ _ _ _ _ _ _ HA.out HB.out HC.out (by decide) (by decide))).setCell (i := 0) rfl 6 (.int .u64 d) (s' := st4 a b c d 0 carry false false) rfl (OK4.out _ _ _ _ (by decide))).cast hW1
  clear hW1 c0 c1 c3 c6 f0 f1 f3 f6 H
  have H := Lib.hid hH
  clear hH
  go_wp2_with (refine H.out.load_row 0 rfl rfl _ rfl rfl ?_)
  refine (H.out.Do 0 rfl ⟨7, 0, 3, 0, 0, 0, 0, 0, 0⟩ (insOk_lit rfl) 3 (adc03 _ _ _ _ _ _ _ _ _ (by decide))).mono ?_
  rintro e w3 ⟨Aw3, nw3, rfl, hH⟩
  clear H
  have H := Lib.hid hH
  clear hH
  go_upto_region 7 with (refine H.out.store_fresh (s := st4 (addF a c carry).1 b c d 3 (addF a c carry).2 (ofA a c (addF a c carry).1) ((addF a c carry).1 == 0)) (OKR.out _ _ _ _ _ (by decide)) rfl _ _ rfl _ rfl rfl rfl ?_; intro Wb hW; clear H; have H := Lib.hid hW; clear hW)
  go_wp2_with (refine H.out.load_row 0 rfl rfl _ rfl rfl ?_)
  refine (H.out.Do 0 rfl ⟨7, 1, 6, 0, 0, 0, 0, 0, 0⟩ (insOk_lit rfl) 3 (adc16 _ _ _ _ _ _ _ _ _ (by decide))).mono ?_
  rintro e w4 ⟨Aw4, nw4, rfl, hH⟩
  clear H
  have H := Lib.hid hH
  clear hH
  go_upto_region 8 with (refine H.out.store_row 0 rfl (s := st4 (addF a c carry).1 (addF b d (addF a c carry).2).1 c d 6 (addF b d (addF a c carry).2).2 (ofA b d (addF b d (addF a c carry).2).1) ((addF b d (addF a c carry).2).1 == 0)) (OKRR.out _ _ _ _ _ _ (by decide)) rfl _ _ rfl rfl rfl ?_; intro Wc hW; clear H; have H := Lib.hid hW; clear hW)
  go_upto_region 9 with (first | (refine H.out.load_row 0 rfl rfl _ rfl rfl ?_) | (refine H.out.store_fresh (s := st4 (addF a c carry).1 (addF b d (addF a c carry).2).1 c d 6 (addF b d (addF a c carry).2).2 (ofA b d (addF b d (addF a c carry).2).1) ((addF b d (addF a c carry).2).1 == 0)) (OKRR.out _ _ _ _ _ _ (by decide)) rfl _ _ rfl _ rfl rfl rfl ?_; intro Wd hW; clear H; have H := Lib.hid hW; clear hW))
  have cu : Wd.cell? ⟨Wc.heap.size, 17, none⟩ = some (.bool (addF b d (addF a c carry).2).2) := H.out.cell 0 17 rfl rfl
  have fu := H.out.frozen 0 17 rfl
  go_upto_region 10 with fail
  refine wp_name ?_
  intro W2 hW1
  have hH := (H.out.setCell (i := 0) rfl 17 (.bool carry) (s' := st4 (addF a c carry).1 (addF b d (addF a c carry).2).1 c d 6 carry (ofA b d (addF b d (addF a c carry).2).1) ((addF b d (addF a c carry).2).1 == 0)) rfl (OKRR.out _ _ _ _ _ _ (by decide))).cast hW1
  clear hW1 cu fu H
  have H := Lib.hid hH
  clear hH
  go_wp2_with (refine H.out.load_row 0 rfl rfl _ rfl rfl ?_)
  refine (H.out.Do 0 rfl ⟨9, 0, 3, 0, 0, 0, 0, 0, 0⟩ (insOk_lit rfl) 3 (sbb03_back _ _ _ _ _ _ _ _ _ (by decide) HA.out HC.out)).mono ?_
  rintro e w5 ⟨Aw5, nw5, rfl, hH⟩
  clear H
  have H := Lib.hid hH
  clear hH
  go_upto_region 11 with (refine H.out.store_row 0 rfl (s := st4 a (addF b d (addF a c carry).2).1 c d 9 (addF a c carry).2 (ofS (addF a c carry).1 c a) (a == 0)) (OKAR.out _ _ _ _ _ (by decide)) rfl _ _ rfl rfl rfl ?_; intro We hW; clear H; have H := Lib.hid hW; clear hW)
  go_wp2_with (refine H.out.load_row 0 rfl rfl _ rfl rfl ?_)
  refine (H.out.Do 0 rfl ⟨9, 1, 6, 0, 0, 0, 0, 0, 0⟩ (insOk_lit rfl) 3 (sbb16_back _ _ _ _ _ _ _ _ _ (by decide) HB.out HD.out)).mono ?_
  rintro e w6 ⟨Aw6, nw6, rfl, hH⟩
  clear H
  have H := Lib.hid hH
  clear hH
  go_upto_region 12 with (refine H.out.store_row 0 rfl (s := st4 a b c d 12 (addF b d (addF a c carry).2).2 (ofS (addF b d (addF a c carry).2).1 d b) (b == 0)) (OK4.out _ _ _ _ (by decide)) rfl _ _ rfl rfl rfl ?_; intro Wf hW; clear H; have H := Lib.hid hW; clear hW)
  go_wp2_with (refine H.out.load_row 2 rfl rfl _ rfl rfl ?_)
  refine (H.out.Do 2 rfl ⟨20, 0, 3, 0, 0, 0, 0, 0, 0⟩ (insOk_lit rfl) 6 (adcx03 _ _ _ _ _ _ _ _ _ (by decide))).mono ?_
  rintro e w7 ⟨Aw7, nw7, rfl, hH⟩
  clear H
  have H := Lib.hid hH
  clear hH
  go_upto_region 13 with (refine H.out.store_fresh (s := st4 (addF a c carry).1 b c d 6 (addF a c carry).2 false false) (OKR.out _ _ _ _ _ (by decide)) rfl _ _ rfl _ rfl rfl rfl ?_; intro Wg hW; clear H; have H := Lib.hid hW; clear hW)
  go_upto_region 14 with (first | (refine H.out.load_row 3 rfl rfl _ rfl rfl ?_) | (refine H.out.store_fresh (s := st4 a b c d 0 carry false false) (OK4.out _ _ _ _ (by decide)) rfl _ _ rfl _ rfl rfl rfl ?_; intro Wh hW; clear H; have H := Lib.hid hW; clear hW))
  have cz : Wh.cell? ⟨Wg.heap.size, 17, none⟩ = some (.bool carry) := H.out.cell 0 17 rfl rfl
  have cz2 : Wh.cell? ⟨Wg.heap.size, 18, none⟩ = some (.bool false) := H.out.cell 0 18 rfl rfl
  have fz := H.out.frozen 0 17 rfl
  have fz2 := H.out.frozen 0 18 rfl
  go_upto_region 15 with fail
  refine wp_name ?_
  intro W3 hW1
  have hH := ((H.out.setCell (i := 0) rfl 18 (.bool carry) (s' := st4 a b c d 0 carry carry false) rfl (OK4.out _ _ _ _ (by decide))).setCell (i := 0) rfl 17 (.bool false) (s' := st4 a b c d 0 false carry false) rfl (OK4.out _ _ _ _ (by decide))).cast hW1
  clear hW1 cz cz2 fz fz2 H
  have H := Lib.hid hH
  clear hH
  go_wp2_with (refine H.out.load_row 0 rfl rfl _ rfl rfl ?_)
  refine (H.out.Do 0 rfl ⟨21, 0, 3, 0, 0, 0, 0, 0, 0⟩ (insOk_lit rfl) 6 (adox03 _ _ _ _ _ _ _ _ _ (by decide))).mono ?_
  rintro e w8 ⟨Aw8, nw8, rfl, hH⟩
  clear H
  have H := Lib.hid hH
  clear hH
  go_wp2_with (refine H.out.store_fresh (s := st4 (addF a c carry).1 b c d 6 false (addF a c carry).2 false) (OKR.out _ _ _ _ _ (by decide)) rfl _ _ rfl _ rfl rfl rfl ?_; intro Wi hW; clear H; have H := Lib.hid hW; clear hW; have y0 : Wi.cell? ⟨w8.heap.size, 0, none⟩ = some (.int .u64 (addF a c carry).1) := H.out.cell 0 0 rfl rfl; have y1 : Wi.cell? ⟨w8.heap.size, 17, none⟩ = some (.bool false) := H.out.cell 0 17 rfl rfl; have y2 : Wi.cell? ⟨w8.heap.size, 18, none⟩ = some (.bool (addF a c carry).2) := H.out.cell 0 18 rfl rfl; have x0 : Wi.cell? ⟨w7.heap.size, 0, none⟩ = some (.int .u64 (addF a c carry).1) := H.out.cell 2 0 rfl rfl; have x1 : Wi.cell? ⟨w7.heap.size, 17, none⟩ = some (.bool (addF a c carry).2) := H.out.cell 2 17 rfl rfl; have x2 : Wi.cell? ⟨w7.heap.size, 18, none⟩ = some (.bool false) := H.out.cell 2 18 rfl rfl; have v1 : Wi.cell? ⟨Wc.heap.size, 17, none⟩ = some (.bool (addF b d (addF a c carry).2).2) := H.out.cell 3 17 rfl rfl; have t0 : Wi.cell? ⟨w3.heap.size, 0, none⟩ = some (.int .u64 (addF a c carry).1) := H.out.cell 4 0 rfl rfl; have t1 : Wi.cell? ⟨w3.heap.size, 17, none⟩ = some (.bool (addF b d (addF a c carry).2).2) := H.out.cell 4 17 rfl rfl; have s2 : Wi.cell? ⟨w2.heap.size, 18, none⟩ = some (.bool false) := H.out.cell 5 18 rfl rfl; have heq : (Op.equalIn 10000 28 (.agg #[.int .u64 a, .int .u64 b, .int .u64 0, .int .u64 c, .int .u64 0, .int .u64 0, .int .u64 d, .int .u64 0, .int .u64 0, .int .u64 0, .int .u64 0, .int .u64 0, .int .u64 0, .int .u64 0, .int .u64 0, .int .u64 0]) (.agg #[.int .u64 a, .int .u64 b, .int .u64 0, .int .u64 c, .int .u64 0, .int .u64 0, .int .u64 d, .int .u64 0, .int .u64 0, .int .u64 0, .int .u64 0, .int .u64 0, .int .u64 0, .int .u64 0, .int .u64 0, .int .u64 0])).run Try.prog Wi = .ok true Wi := eq_same (OK4.out 0 false false false (by decide)) Wi rfl; have p0 : Wi.cell? ⟨Wc.heap.size, 0, none⟩ = some (.int .u64 a) := H.out.cell 3 0 rfl rfl; have p1 : Wi.cell? ⟨Wc.heap.size, 1, none⟩ = some (.int .u64 b) := H.out.cell 3 1 rfl rfl; have p2 : Wi.cell? ⟨Wc.heap.size, 2, none⟩ = some (.int .u64 0) := H.out.cell 3 2 rfl rfl; have p3 : Wi.cell? ⟨Wc.heap.size, 3, none⟩ = some (.int .u64 c) := H.out.cell 3 3 rfl rfl; have p4 : Wi.cell? ⟨Wc.heap.size, 4, none⟩ = some (.int .u64 0) := H.out.cell 3 4 rfl rfl; have p5 : Wi.cell? ⟨Wc.heap.size, 5, none⟩ = some (.int .u64 0) := H.out.cell 3 5 rfl rfl; have p6 : Wi.cell? ⟨Wc.heap.size, 6, none⟩ = some (.int .u64 d) := H.out.cell 3 6 rfl rfl; have p7 : Wi.cell? ⟨Wc.heap.size, 7, none⟩ = some (.int .u64 0) := H.out.cell 3 7 rfl rfl; have p8 : Wi.cell? ⟨Wc.heap.size, 8, none⟩ = some (.int .u64 0) := H.out.cell 3 8 rfl rfl; have p9 : Wi.cell? ⟨Wc.heap.size, 9, none⟩ = some (.int .u64 0) := H.out.cell 3 9 rfl rfl; have p10 : Wi.cell? ⟨Wc.heap.size, 10, none⟩ = some (.int .u64 0) := H.out.cell 3 10 rfl rfl; have p11 : Wi.cell? ⟨Wc.heap.size, 11, none⟩ = some (.int .u64 0) := H.out.cell 3 11 rfl rfl; have p12 : Wi.cell? ⟨Wc.heap.size, 12, none⟩ = some (.int .u64 0) := H.out.cell 3 12 rfl rfl; have p13 : Wi.cell? ⟨Wc.heap.size, 13, none⟩ = some (.int .u64 0) := H.out.cell 3 13 rfl rfl; have p14 : Wi.cell? ⟨Wc.heap.size, 14, none⟩ = some (.int .u64 0) := H.out.cell 3 14 rfl rfl; have p15 : Wi.cell? ⟨Wc.heap.size, 15, none⟩ = some (.int .u64 0) := H.out.cell 3 15 rfl rfl; have q0 : Wi.cell? ⟨w2.heap.size, 0, none⟩ = some (.int .u64 a) := H.out.cell 5 0 rfl rfl; have q1 : Wi.cell? ⟨w2.heap.size, 1, none⟩ = some (.int .u64 b) := H.out.cell 5 1 rfl rfl; have q2 : Wi.cell? ⟨w2.heap.size, 2, none⟩ = some (.int .u64 0) := H.out.cell 5 2 rfl rfl; have q3 : Wi.cell? ⟨w2.heap.size, 3, none⟩ = some (.int .u64 c) := H.out.cell 5 3 rfl rfl; have q4 : Wi.cell? ⟨w2.heap.size, 4, none⟩ = some (.int .u64 0) := H.out.cell 5 4 rfl rfl; have q5 : Wi.cell? ⟨w2.heap.size, 5, none⟩ = some (.int .u64 0) := H.out.cell 5 5 rfl rfl; have q6 : Wi.cell? ⟨w2.heap.size, 6, none⟩ = some (.int .u64 d) := H.out.cell 5 6 rfl rfl; have q7 : Wi.cell? ⟨w2.heap.size, 7, none⟩ = some (.int .u64 0) := H.out.cell 5 7 rfl rfl; have q8 : Wi.cell? ⟨w2.heap.size, 8, none⟩ = some (.int .u64 0) := H.out.cell 5 8 rfl rfl; have q9 : Wi.cell? ⟨w2.heap.size, 9, none⟩ = some (.int .u64 0) := H.out.cell 5 9 rfl rfl; have q10 : Wi.cell? ⟨w2.heap.size, 10, none⟩ = some (.int .u64 0) := H.out.cell 5 10 rfl rfl; have q11 : Wi.cell? ⟨w2.heap.size, 11, none⟩ = some (.int .u64 0) := H.out.cell 5 11 rfl rfl; have q12 : Wi.cell? ⟨w2.heap.size, 12, none⟩ = some (.int .u64 0) := H.out.cell 5 12 rfl rfl; have q13 : Wi.cell? ⟨w2.heap.size, 13, none⟩ = some (.int .u64 0) := H.out.cell 5 13 rfl rfl; have q14 : Wi.cell? ⟨w2.heap.size, 14, none⟩ = some (.int .u64 0) := H.out.cell 5 14 rfl rfl; have q15 : Wi.cell? ⟨w2.heap.size, 15, none⟩ = some (.int .u64 0) := H.out.cell 5 15 rfl rfl)
  go_ret
  exact ⟨rfl, H.out.below⟩
end Go.Proofs.Ytmanhikpccnfaaa
