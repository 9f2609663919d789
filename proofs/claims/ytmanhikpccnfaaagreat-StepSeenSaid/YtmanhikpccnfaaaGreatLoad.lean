/- (*memory.Memory).Load. -/
import Derived.Test.YtmanhikpccnfaaaGreatFind
namespace Go.Proofs.YtmanhikpccnfaaaGreat
open Go.RowKit

/-- Bytes as a word, the least one first. -/
def wordOf (l : List UInt8) : Nat := l.foldr (fun b acc => b.toNat + 256 * acc) 0

theorem wordOf_snoc (l : List UInt8) (x : UInt8) : wordOf (l ++ [x]) = wordOf l + x.toNat * 2 ^ (8 * l.length) := by
  induction l with
  | nil => simp [wordOf]
  | cons b l ih =>
    have h1 : wordOf (b :: (l ++ [x])) = b.toNat + 256 * wordOf (l ++ [x]) := rfl
    have h2 : wordOf (b :: l) = b.toNat + 256 * wordOf l := rfl
    rw [List.cons_append, h1, ih, h2, List.length_cons, show 8 * (l.length + 1) = 8 + 8 * l.length from by omega, Nat.pow_add]
    simp only [Nat.mul_add, show (2 : Nat) ^ 8 = 256 from rfl]
    rw [← Nat.mul_assoc, ← Nat.mul_assoc, Nat.mul_comm 256 x.toNat]
    omega
theorem wordOf_lt (l : List UInt8) : wordOf l < 2 ^ (8 * l.length) := by
  induction l with
  | nil => simp [wordOf]
  | cons b l ih =>
    have h2 : wordOf (b :: l) = b.toNat + 256 * wordOf l := rfl
    rw [h2, List.length_cons, show 8 * (l.length + 1) = 8 + 8 * l.length from by omega, Nat.pow_add, show (2 : Nat) ^ 8 = 256 from rfl]
    have := b.toNat_lt
    omega

theorem word_step (l : List UInt8) (q : Nat) (x : UInt8) (h : l[q]? = some x) : wordOf (l.take (q + 1)) = wordOf (l.take q) + x.toNat * 2 ^ (8 * q) := by
  obtain ⟨hq, rfl⟩ := List.getElem?_eq_some_iff.1 h
  rw [List.take_succ_eq_append_getElem hq, wordOf_snoc, List.length_take, Nat.min_eq_left (by omega)]
theorem word_lt (l : List UInt8) (q : Nat) (h : q ≤ l.length) : wordOf (l.take q) < 2 ^ (8 * q) := by
  have := wordOf_lt (l.take q)
  rwa [List.length_take, Nat.min_eq_left h] at this
theorem or_step {V x m : Nat} (n : Nat) (hm : m = 2 ^ n) (hV : V < 2 ^ n) (hx : x < 256) (h64 : m ≤ 72057594037927936) :
    Go.bits .or .u64 (V : Int) (IntKind.u64.wrap (IntKind.u64.wrap (x : Int) * (m : Int))) = ((V + x * m : Nat) : Int) := by
  have h1 : x * m ≤ 255 * 72057594037927936 := Nat.mul_le_mul (by omega) h64
  have e1 : IntKind.u64.wrap (x : Int) = x := by rw [wrapU]; omega
  have e2 : IntKind.u64.wrap ((x : Int) * (m : Int)) = ((x * m : Nat) : Int) := by rw [wrapU, Int.natCast_mul, ← Int.natCast_mul]; omega
  rw [e1, e2, bits_or_u64_nat _ _ (by omega) (by omega), Nat.or_comm, hm, Nat.mul_comm x, ← Nat.two_pow_add_eq_or_of_lt hV, Nat.add_comm]
theorem list8 (L : List UInt8) (h : L.length = 8) : ∃ x0 x1 x2 x3 x4 x5 x6 x7, L = [x0, x1, x2, x3, x4, x5, x6, x7] := by
  match L, h with
  | [x0, x1, x2, x3, x4, x5, x6, x7], _ => exact ⟨x0, x1, x2, x3, x4, x5, x6, x7, rfl⟩

theorem isNilFalse (w : World) (a : Addr) (n c : Nat) : (binOp .eql 36 (.slice (some a) n c) (.slice none 0 0)).run Tryz.prog w = .ok (.bool false) w := Lib.run_eql_slice_nil w 36 5 (some a) n c 0 0 Tryz.underlying36
theorem isNilTrue (w : World) : (binOp .eql 36 (.slice none 0 0) (.slice none 0 0)).run Tryz.prog w = .ok (.bool true) w := Lib.run_eql_slice_nil w 36 5 none 0 0 0 0 Tryz.underlying36

theorem toArray8 (w : World) (a : Addr) (c : Nat) : (Instr.arrayAt 145 (.slice (some a) 8 c)).run Tryz.prog w = .ok (.pointer (some a)) w := by
  simp [Instr.arrayAt, run_underlying Tryz.underlying145]

theorem idx8_0 (w : World) (x0 x1 x2 x3 x4 x5 x6 x7 : UInt8) : (Instr.index 145 (.agg #[.int .u8 x0.toNat, .int .u8 x1.toNat, .int .u8 x2.toNat, .int .u8 x3.toNat, .int .u8 x4.toNat, .int .u8 x5.toNat, .int .u8 x6.toNat, .int .u8 x7.toNat]) (.int .i64 0)).run Tryz.prog w = .ok (.int .u8 x0.toNat) w := by kernel_rfl
theorem idx8_1 (w : World) (x0 x1 x2 x3 x4 x5 x6 x7 : UInt8) : (Instr.index 145 (.agg #[.int .u8 x0.toNat, .int .u8 x1.toNat, .int .u8 x2.toNat, .int .u8 x3.toNat, .int .u8 x4.toNat, .int .u8 x5.toNat, .int .u8 x6.toNat, .int .u8 x7.toNat]) (.int .i64 1)).run Tryz.prog w = .ok (.int .u8 x1.toNat) w := by kernel_rfl
theorem idx8_2 (w : World) (x0 x1 x2 x3 x4 x5 x6 x7 : UInt8) : (Instr.index 145 (.agg #[.int .u8 x0.toNat, .int .u8 x1.toNat, .int .u8 x2.toNat, .int .u8 x3.toNat, .int .u8 x4.toNat, .int .u8 x5.toNat, .int .u8 x6.toNat, .int .u8 x7.toNat]) (.int .i64 2)).run Tryz.prog w = .ok (.int .u8 x2.toNat) w := by kernel_rfl
theorem idx8_3 (w : World) (x0 x1 x2 x3 x4 x5 x6 x7 : UInt8) : (Instr.index 145 (.agg #[.int .u8 x0.toNat, .int .u8 x1.toNat, .int .u8 x2.toNat, .int .u8 x3.toNat, .int .u8 x4.toNat, .int .u8 x5.toNat, .int .u8 x6.toNat, .int .u8 x7.toNat]) (.int .i64 3)).run Tryz.prog w = .ok (.int .u8 x3.toNat) w := by kernel_rfl
theorem idx8_4 (w : World) (x0 x1 x2 x3 x4 x5 x6 x7 : UInt8) : (Instr.index 145 (.agg #[.int .u8 x0.toNat, .int .u8 x1.toNat, .int .u8 x2.toNat, .int .u8 x3.toNat, .int .u8 x4.toNat, .int .u8 x5.toNat, .int .u8 x6.toNat, .int .u8 x7.toNat]) (.int .i64 4)).run Tryz.prog w = .ok (.int .u8 x4.toNat) w := by kernel_rfl
theorem idx8_5 (w : World) (x0 x1 x2 x3 x4 x5 x6 x7 : UInt8) : (Instr.index 145 (.agg #[.int .u8 x0.toNat, .int .u8 x1.toNat, .int .u8 x2.toNat, .int .u8 x3.toNat, .int .u8 x4.toNat, .int .u8 x5.toNat, .int .u8 x6.toNat, .int .u8 x7.toNat]) (.int .i64 5)).run Tryz.prog w = .ok (.int .u8 x5.toNat) w := by kernel_rfl
theorem idx8_6 (w : World) (x0 x1 x2 x3 x4 x5 x6 x7 : UInt8) : (Instr.index 145 (.agg #[.int .u8 x0.toNat, .int .u8 x1.toNat, .int .u8 x2.toNat, .int .u8 x3.toNat, .int .u8 x4.toNat, .int .u8 x5.toNat, .int .u8 x6.toNat, .int .u8 x7.toNat]) (.int .i64 6)).run Tryz.prog w = .ok (.int .u8 x6.toNat) w := by kernel_rfl
theorem idx8_7 (w : World) (x0 x1 x2 x3 x4 x5 x6 x7 : UInt8) : (Instr.index 145 (.agg #[.int .u8 x0.toNat, .int .u8 x1.toNat, .int .u8 x2.toNat, .int .u8 x3.toNat, .int .u8 x4.toNat, .int .u8 x5.toNat, .int .u8 x6.toNat, .int .u8 x7.toNat]) (.int .i64 7)).run Tryz.prog w = .ok (.int .u8 x7.toNat) w := by kernel_rfl

def loadF (rs : List Reg) (at_ : Nat) : Option Nat := match placeF rs at_ 8 with
  | none => none
  | some (i, k) => match rs[i]? with
    | none => none
    | some r => some (wordOf ((r.bytes.drop k).take 8))

def loadOut : Option Nat → Value
  | none => .tuple #[.int .u64 0, .int .i64 11]
  | some v => .tuple #[.int .u64 v, .int .i64 0]

set_option maxRecDepth 100000 in
set_option maxHeartbeats 800000 in
theorem Load_any (p : Value) (w : World) (F : Nat → Prop) (rs : List Reg) (at_ : Nat) (hat : at_ < 18446744073709551616) (hm : MemAt w F p rs) (hF : ∀ k, F k → k < w.heap.size) :
    Calls Tryz.prog 106 #[p, .int .u64 at_] w fun e w' => e = .returned (loadOut (loadF rs at_)) ∧ Below w.heap.size w w' := by
  obtain ⟨bm, hp⟩ : ∃ bm, p = .pointer (some ⟨bm, 0, none⟩) := by obtain ⟨bm, v, h, _⟩ := hm; exact ⟨bm, h⟩
  subst hp
  have HF := Lib.hid (find_any _ w F rs at_ 8 (by omega) hat hm hF)
  have hnt := isNilTrue
  have hnf := isNilFalse
  have h8 := toArray8
  clear hm hF
  go_enter Tryz.func106, Tryz.ntmps106
  go_wp2_with fail
  refine HF.out.mono ?_
  rintro e w1 ⟨v, rfl, hfo, hb1⟩
  rcases hfo with ⟨hpl, rfl⟩ | ⟨i, k, r, bb, c, hpl, hri, hFb, hkn, hkl, hrc, hrow, _, rfl⟩
  · have hl : loadF rs at_ = none := by simp only [loadF, hpl]
    have HL := Lib.hid hl
    clear hl hpl
    go_wp2
    go_ret2
    exact ⟨by rw [HL.out]; rfl, hb1⟩
  · obtain ⟨x0, x1, x2, x3, x4, x5, x6, x7, hL⟩ := list8 ((r.bytes.drop k).take 8) (by simp; omega)
    have cells : ∀ (j : Nat) (x : UInt8), [x0, x1, x2, x3, x4, x5, x6, x7][j]? = some x → w1.cell? ⟨bb, k + j, none⟩ = some (byteV x) := fun j x hx => by
      rw [← hL, List.getElem?_take] at hx
      split at hx
      · rw [List.getElem?_drop] at hx
        have h1 : (byteRows r.bytes)[k + j]? = some [byteV x] := by rw [byteRows, List.getElem?_map, hx]; rfl
        have h2 := hrow.cell h1 (j := 0) (by rfl)
        simpa using h2
      · cases hx
    have c0 := cells 0 x0 rfl
    have c1 := cells 1 x1 rfl
    have c2 := cells 2 x2 rfl
    have c3 := cells 3 x3 rfl
    have c4 := cells 4 x4 rfl
    have c5 := cells 5 x5 rfl
    have c6 := cells 6 x6 rfl
    have c7 := cells 7 x7 rfl
    simp only [byteV, Nat.add_zero] at c0 c1 c2 c3 c4 c5 c6 c7
    have hl : loadF rs at_ = some (wordOf [x0, x1, x2, x3, x4, x5, x6, x7]) := by simp only [loadF, hpl, hri, hL]
    have HL := Lib.hid hl
    clear cells hpl hri hrow hL hl
    go_wp2
    go_loop [8, 24] (fun v i => ∃ (q V : Nat) (z : Int), z = q ∧ q ≤ 8 ∧ i = .int .i64 z ∧ v = .int .u64 V ∧ V = wordOf ([x0, x1, x2, x3, x4, x5, x6, x7].take q)) (fun _ i => 8 - (intOf i).toNat)
    case atStart => exact ⟨0, 0, 0, rfl, by omega, rfl, rfl, rfl⟩
    case round =>
      obtain ⟨q, V, z, hz, hq, rfl, rfl, hV⟩ := hrel
      have HV := Lib.hid hV
      clear hV
      rcases (by omega : z = 0 ∨ z = 1 ∨ z = 2 ∨ z = 3 ∨ z = 4 ∨ z = 5 ∨ z = 6 ∨ z = 7 ∨ z = 8) with rfl | rfl | rfl | rfl | rfl | rfl | rfl | rfl | rfl
      · obtain rfl : q = 0 := by omega
        clear hz hq
        have hi := fun w => idx8_0 w x0 x1 x2 x3 x4 x5 x6 x7
        go_wp2
        go_round
        case rel => exact ⟨1, V + x0.toNat * 1, 1, rfl, by omega, rfl, congrArg _ (by have h := (or_step (V := V) (x := x0.toNat) (m := 1) 0 rfl (by rw [HV.out]; exact word_lt _ 0 (by simp)) x0.toNat_lt (by decide)); simpa using h), by rw [HV.out]; exact (word_step _ 0 x0 rfl).symm⟩
        case measure => simp [intOf]
      · obtain rfl : q = 1 := by omega
        clear hz hq
        have hi := fun w => idx8_1 w x0 x1 x2 x3 x4 x5 x6 x7
        go_wp2
        go_round
        case rel => exact ⟨2, V + x1.toNat * 256, 2, rfl, by omega, rfl, congrArg _ (by have h := (or_step (V := V) (x := x1.toNat) (m := 256) 8 rfl (by rw [HV.out]; exact word_lt _ 1 (by simp)) x1.toNat_lt (by decide)); simpa using h), by rw [HV.out]; exact (word_step _ 1 x1 rfl).symm⟩
        case measure => simp [intOf]
      · obtain rfl : q = 2 := by omega
        clear hz hq
        have hi := fun w => idx8_2 w x0 x1 x2 x3 x4 x5 x6 x7
        go_wp2
        go_round
        case rel => exact ⟨3, V + x2.toNat * 65536, 3, rfl, by omega, rfl, congrArg _ (by have h := (or_step (V := V) (x := x2.toNat) (m := 65536) 16 rfl (by rw [HV.out]; exact word_lt _ 2 (by simp)) x2.toNat_lt (by decide)); simpa using h), by rw [HV.out]; exact (word_step _ 2 x2 rfl).symm⟩
        case measure => simp [intOf]
      · obtain rfl : q = 3 := by omega
        clear hz hq
        have hi := fun w => idx8_3 w x0 x1 x2 x3 x4 x5 x6 x7
        go_wp2
        go_round
        case rel => exact ⟨4, V + x3.toNat * 16777216, 4, rfl, by omega, rfl, congrArg _ (by have h := (or_step (V := V) (x := x3.toNat) (m := 16777216) 24 rfl (by rw [HV.out]; exact word_lt _ 3 (by simp)) x3.toNat_lt (by decide)); simpa using h), by rw [HV.out]; exact (word_step _ 3 x3 rfl).symm⟩
        case measure => simp [intOf]
      · obtain rfl : q = 4 := by omega
        clear hz hq
        have hi := fun w => idx8_4 w x0 x1 x2 x3 x4 x5 x6 x7
        go_wp2
        go_round
        case rel => exact ⟨5, V + x4.toNat * 4294967296, 5, rfl, by omega, rfl, congrArg _ (by have h := (or_step (V := V) (x := x4.toNat) (m := 4294967296) 32 rfl (by rw [HV.out]; exact word_lt _ 4 (by simp)) x4.toNat_lt (by decide)); simpa using h), by rw [HV.out]; exact (word_step _ 4 x4 rfl).symm⟩
        case measure => simp [intOf]
      · obtain rfl : q = 5 := by omega
        clear hz hq
        have hi := fun w => idx8_5 w x0 x1 x2 x3 x4 x5 x6 x7
        go_wp2
        go_round
        case rel => exact ⟨6, V + x5.toNat * 1099511627776, 6, rfl, by omega, rfl, congrArg _ (by have h := (or_step (V := V) (x := x5.toNat) (m := 1099511627776) 40 rfl (by rw [HV.out]; exact word_lt _ 5 (by simp)) x5.toNat_lt (by decide)); simpa using h), by rw [HV.out]; exact (word_step _ 5 x5 rfl).symm⟩
        case measure => simp [intOf]
      · obtain rfl : q = 6 := by omega
        clear hz hq
        have hi := fun w => idx8_6 w x0 x1 x2 x3 x4 x5 x6 x7
        go_wp2
        go_round
        case rel => exact ⟨7, V + x6.toNat * 281474976710656, 7, rfl, by omega, rfl, congrArg _ (by have h := (or_step (V := V) (x := x6.toNat) (m := 281474976710656) 48 rfl (by rw [HV.out]; exact word_lt _ 6 (by simp)) x6.toNat_lt (by decide)); simpa using h), by rw [HV.out]; exact (word_step _ 6 x6 rfl).symm⟩
        case measure => simp [intOf]
      · obtain rfl : q = 7 := by omega
        clear hz hq
        have hi := fun w => idx8_7 w x0 x1 x2 x3 x4 x5 x6 x7
        go_wp2
        go_round
        case rel => exact ⟨8, V + x7.toNat * 72057594037927936, 8, rfl, by omega, rfl, congrArg _ (by have h := (or_step (V := V) (x := x7.toNat) (m := 72057594037927936) 56 rfl (by rw [HV.out]; exact word_lt _ 7 (by simp)) x7.toNat_lt (by decide)); simpa using h), by rw [HV.out]; exact (word_step _ 7 x7 rfl).symm⟩
        case measure => simp [intOf]
      · obtain rfl : q = 8 := by omega
        clear hz hq
        go_wp2
        go_ret2
        exact ⟨by rw [HL.out, HV.out]; rfl, hb1⟩
end Go.Proofs.YtmanhikpccnfaaaGreat
