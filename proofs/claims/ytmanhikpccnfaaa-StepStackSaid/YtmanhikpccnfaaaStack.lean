/- keysmithlaw08.StepStack: the walk. -/
import Derived.Test.YtmanhikpccnfaaaSStack
import Derived.Test.YtmanhikpccnfaaaPick8
namespace Go.Proofs.Ytmanhikpccnfaaa
open Go.RowKit

theorem stRow_reg (s : St) (k : Nat) (hk : k < s.regs.length) (n : Nat) : (stRow s).set k (.int .u64 n) = stRow { s with regs := s.regs.set k n } := by
  rw [stRow, List.set_append_left _ _ (by simpa using hk), stRow, List.map_set]
theorem stRow_get {s : St} {k r : Nat} (h : s.regs[k]? = some r) : (stRow s)[k]? = some (.int .u64 r) := by
  have hk := (List.getElem?_eq_some_iff.1 h).1
  rw [stRow, List.getElem?_append_left (by simpa using hk), List.getElem?_map, h]; rfl
theorem stRow_pc {s : St} (h : s.regs.length = 16) : (stRow s)[16]? = some (.int .u64 s.pc) := by
  rw [stRow, List.getElem?_append_right (by simp [h])]; simp [h]
theorem stP_ok {R : List Nat} {pc : Nat} (h : R.length = 16) (hr : ∀ r ∈ R, r < 18446744073709551616) (hp : pc < 1000000) : StOk (stP R pc) := ⟨h, hr, by show pc < _; omega⟩
theorem set_lt {R : List Nat} (hr : ∀ r ∈ R, r < 18446744073709551616) (k : Nat) {n : Nat} (hn : n < 18446744073709551616) : ∀ r ∈ R.set k n, r < 18446744073709551616 := fun r h => by
  rcases List.mem_or_eq_of_mem_set h with h | rfl
  · exact hr r h
  · exact hn
theorem pick16 (x : Int) : ∃ X : Nat, x % ((16 : Nat) : Int) = X ∧ X < 16 := ⟨(x % 16).toNat, by omega, by omega⟩


set_option maxRecDepth 100000 in
set_option maxHeartbeats 3200000 in
theorem stack_walk (a b : Nat) (x y : Int) (w : World) (ha : a < 18446744073709551616) (hb : b < 18446744073709551616) (hx : -9223372036854775808 ≤ x ∧ x ≤ 9223372036854775807) (hy : -9223372036854775808 ≤ y ∧ y ≤ 9223372036854775807) :
    Calls Try.prog 4 #[.int .u64 a, .int .u64 b, .int .i64 x, .int .i64 y] w fun e w' => e = .returned (.bool true) ∧ Below w.heap.size w w' := by
  have HL := Lib.hid (lives_any w)
  have HPX := Lib.hid (fun w => Pick_any x 16 w (by decide) (by decide) hx)
  have HPY := Lib.hid (fun w => Pick_any y 16 w (by decide) (by decide) hy)
  obtain ⟨X, hX, hX16⟩ := pick16 x
  obtain ⟨Y, hY, hY16⟩ := pick16 y
  rw [hX] at HPX
  rw [hY] at HPY
  have HA := Lib.hid ha
  have HB := Lib.hid hb
  have HX16 := Lib.hid hX16
  have HY16 := Lib.hid hY16
  have x0 : (0 : Int) ≤ (X : Int) := by omega
  have x1 : (X : Int) < 16 := by omega
  have y0 : (0 : Int) ≤ (Y : Int) := by omega
  have y1 : (Y : Int) < 16 := by omega
  clear hx hy hX hY ha hb hX16 hY16
  go_enter Try.func4, Try.ntmps4
  go_wp2_with fail
  refine HL.out.mono ?_
  rintro e w1 ⟨rfl, hb1⟩
  have HB1 := Lib.hid hb1
  clear hb1 HL
  go_wp2_with fail
  refine (HPX.out w1).mono ?_
  rintro e w2 ⟨rfl, rfl⟩
  go_wp2_with fail
  refine (HPY.out w1).mono ?_
  rintro e w2 ⟨rfl, rfl⟩
  by_cases hx4 : X = 4
  · have e1 : ((X : Int) == 4) = true := by simp; omega
    clear hx4
    go_wp2
    go_ret
    exact ⟨rfl, HB1.out⟩
  have e1 : ((X : Int) == 4) = false := by simp; omega
  have HX4 := Lib.hid hx4
  clear hx4
  by_cases hy4 : Y = 4
  · have e2 : ((Y : Int) == 4) = true := by simp; omega
    clear hy4
    go_wp2
    go_ret
    exact ⟨rfl, HB1.out⟩
  have e2 : ((Y : Int) == 4) = false := by simp; omega
  have HY4 := Lib.hid hy4
  clear hy4
  by_cases hxy : X = Y
  · have e3 : (X == Y) = true := by simpa using hxy
    have e4 : ((X : Int) == (Y : Int)) = true := by simp; omega
    clear hxy
    go_wp2
    go_ret
    exact ⟨rfl, HB1.out⟩
  have e3 : (X == Y) = false := by simpa using hxy
  have e4 : ((X : Int) == (Y : Int)) = false := by simp; omega
  have HXY := Lib.hid hxy
  clear hxy
  go_wp2_with fail
  refine (stack_any w w1 HB1.out).mono ?_
  rintro e w2 ⟨bm, F, rfl, hH⟩
  have H := Lib.hid hH
  clear hH HPX HPY HB1
  go_upto_region 7 with (refine H.out.store_fresh (s := stP R80 1000) ⟨rfl, by decide, by decide⟩ rfl _ _ rfl _ rfl rfl rfl ?_; intro Wa hW; clear H; have H := Lib.hid hW; clear hW)
  have r80 : ∀ k : Fin 16, (k : Nat) ≠ 4 → R80[(k : Nat)]? = some 0 := by decide
  have cX : Wa.cell? ⟨w2.heap.size, X, none⟩ = some (.int .u64 0) := H.out.cell 0 X rfl (stRow_get (r80 ⟨X, HX16.out⟩ HX4.out))
  have cY : Wa.cell? ⟨w2.heap.size, Y, none⟩ = some (.int .u64 0) := H.out.cell 0 Y rfl (stRow_get (r80 ⟨Y, HY16.out⟩ HY4.out))
  have fX := H.out.frozen 0 X rfl
  have fY := H.out.frozen 0 Y rfl
  have n1 : ¬ X = Y := HXY.out
  have n2 : ¬ Y = X := fun e => HXY.out e.symm
  clear r80
  go_upto_region 8 with fail
  refine wp_name ?_
  intro W1 hW1
  have ok1 := set_lt (R := R80) (by decide) X HA.out
  have ok2 := set_lt ok1 Y HB.out
  have hH := ((H.out.setCell (i := 0) rfl X (.int .u64 a) (s' := stP (R80.set X a) 1000) (stRow_reg (stP R80 1000) X (show X < 16 from HX16.out) a) (stP_ok (by simp [R80]) ok1 (by decide))).setCell (i := 0) rfl Y (.int .u64 b) (s' := stP ((R80.set X a).set Y b) 1000) (stRow_reg (stP (R80.set X a) 1000) Y (by show Y < (R80.set X a).length; rw [List.length_set]; exact HY16.out) b) (stP_ok (by simp [R80]) ok2 (by decide))).cast hW1
  obtain ⟨R, hR⟩ : ∃ R, R = (R80.set X a).set Y b := ⟨_, rfl⟩
  have hl : R.length = 16 := by rw [hR]; simp [R80]
  have h4 : R[4]? = some 80 := by
    rw [hR, List.getElem?_set_ne (fun e => HY4.out e), List.getElem?_set_ne (fun e => HX4.out e)]; rfl
  have hx : R[X]? = some a := by
    rw [hR, List.getElem?_set_ne (fun e => HXY.out e.symm), List.getElem?_set_self (by simpa [R80] using HX16.out)]
  have hy : R[Y]? = some b := by
    rw [hR, List.getElem?_set_self (by simpa [R80] using HY16.out)]
  simp only [List.set_cons_zero, ← hR] at hH ok2
  have HR := Lib.hid (And.intro hl (And.intro h4 (And.intro hx (And.intro hy ok2))))
  clear hW1 cX cY fX fY H ok1 ok2 hR hl h4 hx hy n1 n2
  have H := Lib.hid hH
  clear hH
  obtain ⟨L0, hL0⟩ : ∃ L0 : List UInt8, L0 = List.replicate 32 0 := ⟨_, rfl⟩
  have l0 : L0.length = 32 := by rw [hL0]; simp
  rw [← hL0] at H
  have z16 : wordOf ((L0.drop 16).take 8) = 0 := by rw [hL0]; decide
  have HZ16 := Lib.hid z16
  have HL0 := Lib.hid l0
  clear hL0 l0 z16
  obtain ⟨L1, hL1⟩ : ∃ L1, L1 = putTo L0 8 a 8 := ⟨_, rfl⟩
  obtain ⟨L2, hL2⟩ : ∃ L2, L2 = putTo L1 0 b 8 := ⟨_, rfl⟩
  have l1 : L1.length = 32 := by rw [hL1]; exact put_len HL0.out 8 a
  have l2 : L2.length = 32 := by rw [hL2]; exact put_len l1 0 b
  obtain ⟨R1, h1⟩ : ∃ R1, R1 = R.set 4 72 := ⟨_, rfl⟩
  obtain ⟨R2, h2⟩ : ∃ R2, R2 = R1.set 4 64 := ⟨_, rfl⟩
  obtain ⟨R3, h3⟩ : ∃ R3, R3 = (R2.set 4 72).set X b := ⟨_, rfl⟩
  obtain ⟨R4, h4⟩ : ∃ R4, R4 = (R3.set 4 80).set Y a := ⟨_, rfl⟩
  have n1 : R1.length = 16 := by rw [h1]; simpa using HR.out.1
  have n2 : R2.length = 16 := by rw [h2]; simpa using n1
  have n3 : R3.length = 16 := by rw [h3]; simpa using n2
  have n4 : R4.length = 16 := by rw [h4]; simpa using n3
  have ok1 : ∀ r ∈ R1, r < 18446744073709551616 := by rw [h1]; exact set_lt HR.out.2.2.2.2 4 (by decide)
  have ok2 : ∀ r ∈ R2, r < 18446744073709551616 := by rw [h2]; exact set_lt ok1 4 (by decide)
  have ok3 : ∀ r ∈ R3, r < 18446744073709551616 := by rw [h3]; exact set_lt (set_lt ok2 4 (by decide)) X HB.out
  have ok4 : ∀ r ∈ R4, r < 18446744073709551616 := by rw [h4]; exact set_lt (set_lt ok3 4 (by decide)) Y HA.out
  have OK1 := Lib.hid (stP_ok (pc := 1001) n1 ok1 (by decide))
  have OK2 := Lib.hid (stP_ok (pc := 1002) n2 ok2 (by decide))
  have OK3 := Lib.hid (stP_ok (pc := 1003) n3 ok3 (by decide))
  have OK4 := Lib.hid (stP_ok (pc := 1004) n4 ok4 (by decide))
  -- the words that come back
  have wb : wordOf ((L2.drop 0).take 8) = b := by rw [hL2]; exact word_put l1 (by decide) HB.out
  have wa : wordOf ((L2.drop 8).take 8) = a := by rw [hL2, put_drop l1 (by decide) (by decide), hL1]; exact word_put HL0.out (by decide) HA.out
  have wz : wordOf ((L2.drop 16).take 8) = 0 := by rw [hL2, put_drop l1 (by decide) (by decide), hL1, put_drop HL0.out (by decide) (by decide)]; exact HZ16.out
  have ld0 : loadF (rsB L2) 64 = some b := (load_rsB l2 (k := 0) (by decide)).trans (by rw [wb])
  have ld16 : loadF (rsB L2) 80 = some 0 := (load_rsB l2 (k := 16) (by decide)).trans (by rw [wz])
  -- the four steps
  have s1 : stepF (stP R 1000) ⟨28, 0, (X : Int), 0, 0, 0, 0, 0, 0⟩ 1 (rsB L0) = ⟨0, stP R1 1001, [⟨1, 1000⟩, ⟨3, 72⟩], rsB L1⟩ := by
    rw [h1, hL1]; exact step_push (k := 8) HL0.out HX16.out HR.out.2.2.1 HR.out.2.1 (by decide) (by decide)
  have s2 : stepF (stP R1 1001) ⟨28, 0, (Y : Int), 0, 0, 0, 0, 0, 0⟩ 1 (rsB L1) = ⟨0, stP R2 1002, [⟨1, 1001⟩, ⟨3, 64⟩], rsB L2⟩ := by
    rw [h2, hL2]; exact step_push (k := 0) l1 HY16.out (by rw [h1, List.getElem?_set_ne (fun e => HY4.out e.symm)]; exact HR.out.2.2.2.1) (by rw [h1, List.getElem?_set_self (by rw [HR.out.1]; decide)]) (by decide) (by decide)
  have s3 : stepF (stP R2 1002) ⟨29, (X : Int), 0, 0, 0, 0, 0, 0, 0⟩ 1 (rsB L2) = ⟨0, stP R3 1003, [⟨1, 1002⟩, ⟨2, 64⟩], rsB L2⟩ := by
    have h := step_pop (R := R2) (pc := 1002) (x := X) (k := 0) l2 HX16.out (by rw [h2, List.getElem?_set_self (by rw [n1]; decide)]) (by decide) (by decide)
    rw [wb] at h
    rw [h3]; exact h
  have s4 : stepF (stP R3 1003) ⟨29, (Y : Int), 0, 0, 0, 0, 0, 0, 0⟩ 1 (rsB L2) = ⟨0, stP R4 1004, [⟨1, 1003⟩, ⟨2, 72⟩], rsB L2⟩ := by
    have h := step_pop (R := R3) (pc := 1003) (x := Y) (k := 8) l2 HY16.out (by rw [h3, List.getElem?_set_ne (fun e => HX4.out e), List.getElem?_set_self (by rw [n2]; decide)]) (by decide) (by decide)
    rw [wa] at h
    rw [h4]; exact h
  have e1 : R4[X]? = some b := by rw [h4, List.getElem?_set_ne (fun e => HXY.out e.symm), List.getElem?_set_ne (fun e => HX4.out e.symm), h3, List.getElem?_set_self (by simp [n2]; exact HX16.out)]
  have e2 : R4[Y]? = some a := by rw [h4, List.getElem?_set_self (by simp [n3]; exact HY16.out)]
  have e3 : R4[4]? = some 80 := by rw [h4, List.getElem?_set_ne (fun e => HY4.out e), List.getElem?_set_self (by simp [n3])]
  have S1 := Lib.hid s1
  have S2 := Lib.hid s2
  have S3 := Lib.hid s3
  have S4 := Lib.hid s4
  have LD0 := Lib.hid ld0
  have LD16 := Lib.hid ld16
  have HE := Lib.hid (And.intro e1 (And.intro e2 (And.intro e3 n4)))
  clear s1 s2 s3 s4 ld0 ld16 wa wb wz e1 e2 e3 h1 h2 h3 h4 hL1 hL2 l1 l2 n1 n2 n3 n4 ok1 ok2 ok3 ok4 HR HL0 HZ16 HXY HX4 HY4 HX16 HY16
  go_wp2_with (refine H.out.load_row 0 rfl rfl _ rfl rfl ?_)
  refine (H.out.Do 0 rfl ⟨28, 0, (X : Int), 0, 0, 0, 0, 0, 0⟩ (insOk_lit rfl) 1 S1.out).mono ?_
  rintro e w3 ⟨Aw3, nw3, rfl, hH⟩
  clear H
  have H := Lib.hid hH
  clear hH
  go_upto_region 9 with (refine H.out.store_row 0 rfl (s := stP R1 1001) OK1.out rfl _ _ rfl rfl rfl ?_; intro Wb hW; clear H; have H := Lib.hid hW; clear hW)
  go_wp2_with (refine H.out.load_row 0 rfl rfl _ rfl rfl ?_)
  refine (H.out.Do 0 rfl ⟨28, 0, (Y : Int), 0, 0, 0, 0, 0, 0⟩ (insOk_lit rfl) 1 S2.out).mono ?_
  rintro e w4 ⟨Aw4, nw4, rfl, hH⟩
  clear H
  have H := Lib.hid hH
  clear hH
  go_upto_region 10 with (refine H.out.store_row 0 rfl (s := stP R2 1002) OK2.out rfl _ _ rfl rfl rfl ?_; intro Wc hW; clear H; have H := Lib.hid hW; clear hW)
  have hl := Load_any _ Wc _ _ 64 (by decide) H.out.mem H.out.lt
  rw [LD0.out] at hl
  have HLD := Lib.hid hl
  clear hl
  go_wp2_with fail
  refine HLD.out.mono ?_
  rintro e w5 ⟨rfl, hb⟩
  have hH := H.out.next hb
  clear hb H HLD
  have H := Lib.hid hH
  clear hH
  unfold loadOut
  go_wp2_with (refine H.out.load_row 0 rfl rfl _ rfl rfl ?_)
  refine (H.out.Do 0 rfl ⟨29, (X : Int), 0, 0, 0, 0, 0, 0, 0⟩ (insOk_lit rfl) 1 S3.out).mono ?_
  rintro e w6 ⟨Aw6, nw6, rfl, hH⟩
  clear H
  have H := Lib.hid hH
  clear hH
  go_upto_region 12 with (refine H.out.store_row 0 rfl (s := stP R3 1003) OK3.out rfl _ _ rfl rfl rfl ?_; intro Wd hW; clear H; have H := Lib.hid hW; clear hW)
  go_wp2_with (refine H.out.load_row 0 rfl rfl _ rfl rfl ?_)
  refine (H.out.Do 0 rfl ⟨29, (Y : Int), 0, 0, 0, 0, 0, 0, 0⟩ (insOk_lit rfl) 1 S4.out).mono ?_
  rintro e w7 ⟨Aw7, nw7, rfl, hH⟩
  clear H
  have H := Lib.hid hH
  clear hH
  go_upto_region 13 with (refine H.out.store_row 0 rfl (s := stP R4 1004) OK4.out rfl _ _ rfl rfl rfl ?_; intro We hW; clear H; have H := Lib.hid hW; clear hW)
  have hl := Load_any _ We _ _ 80 (by decide) H.out.mem H.out.lt
  rw [LD16.out] at hl
  have HLD := Lib.hid hl
  clear hl
  go_wp2_with fail
  refine HLD.out.mono ?_
  rintro e w8 ⟨rfl, hb⟩
  have hH := H.out.next hb
  clear hb H HLD
  have H := Lib.hid hH
  clear hH
  unfold loadOut
  have gX : w8.cell? ⟨w2.heap.size, X, none⟩ = some (.int .u64 b) := H.out.cell 0 X rfl (stRow_get HE.out.1)
  have gY : w8.cell? ⟨w2.heap.size, Y, none⟩ = some (.int .u64 a) := H.out.cell 0 Y rfl (stRow_get HE.out.2.1)
  have g4 : w8.cell? ⟨w2.heap.size, 4, none⟩ = some (.int .u64 80) := H.out.cell 0 4 rfl (stRow_get HE.out.2.2.1)
  have gp : w8.cell? ⟨w2.heap.size, 16, none⟩ = some (.int .u64 1004) := H.out.cell 0 16 rfl (stRow_pc HE.out.2.2.2)
  go_wp2
  go_ret
  exact ⟨rfl, H.out.below⟩
end Go.Proofs.Ytmanhikpccnfaaa
