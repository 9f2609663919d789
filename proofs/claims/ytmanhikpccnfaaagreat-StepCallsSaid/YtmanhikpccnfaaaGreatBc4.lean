/- (*memory.Memory).Load. -/
import Derived.Test.YtmanhikpccnfaaaGreatBc3
import Derived.Test.YtmanhikpccnfaaaGreatBc2
import Derived.Test.YtmanhikpccnfaaaGreatBc1
import Derived.Deep.DeepCutAuto
import Derived.Outline
namespace Go.Proofs.YtmanhikpccnfaaaGreat
open Go.RowKit

/-- Bytes as a word, the least one first. -/
def wordOf (l : List UInt8) : Nat := l.foldr (fun b acc => b.toNat + 256 * acc) 0

theorem wordOf_snoc (l : List UInt8) (x : UInt8) : wordOf (l ++ [x]) = wordOf l + x.toNat * 2 ^ (8 * l.length) := by
  induction l with
  | nil => simp [wordOf]
  | cons b l ih =>
    have h1 : wordOf (b :: (l ++ [x])) = b.toNat + 256 * wordOf (l ++ [x]) := rfl
    have h2 : wordOf (b :: l) = b.toNat + 256 * wordOf l := rfl
    rw [List.cons_append, h1, ih, h2, List.length_cons, show 8 * (l.length + 1) = 8 + 8 * l.length from by omega, Nat.pow_add]
    simp only [Nat.mul_add, show (2 : Nat) ^ 8 = 256 from rfl]
    rw [← Nat.mul_assoc, ← Nat.mul_assoc, Nat.mul_comm 256 x.toNat]
    omega
theorem wordOf_lt (l : List UInt8) : wordOf l < 2 ^ (8 * l.length) := by
  induction l with
  | nil => simp [wordOf]
  | cons b l ih =>
    have h2 : wordOf (b :: l) = b.toNat + 256 * wordOf l := rfl
    rw [h2, List.length_cons, show 8 * (l.length + 1) = 8 + 8 * l.length from by omega, Nat.pow_add, show (2 : Nat) ^ 8 = 256 from rfl]
    have := b.toNat_lt
    omega

theorem word_step (l : List UInt8) (q : Nat) (x : UInt8) (h : l[q]? = some x) : wordOf (l.take (q + 1)) = wordOf (l.take q) + x.toNat * 2 ^ (8 * q) := by
  obtain ⟨hq, rfl⟩ := List.getElem?_eq_some_iff.1 h
  rw [List.take_succ_eq_append_getElem hq, wordOf_snoc, List.length_take, Nat.min_eq_left (by omega)]
theorem word_lt (l : List UInt8) (q : Nat) (h : q ≤ l.length) : wordOf (l.take q) < 2 ^ (8 * q) := by
  have := wordOf_lt (l.take q)
  rwa [List.length_take, Nat.min_eq_left h] at this
theorem or_step {V x m : Nat} (n : Nat) (hm : m = 2 ^ n) (hV : V < 2 ^ n) (hx : x < 256) (h64 : m ≤ 72057594037927936) :
    Go.bits .or .u64 (V : Int) (IntKind.u64.wrap (IntKind.u64.wrap (x : Int) * (m : Int))) = ((V + x * m : Nat) : Int) := by
  have h1 : x * m ≤ 255 * 72057594037927936 := Nat.mul_le_mul (by omega) h64
  have e1 : IntKind.u64.wrap (x : Int) = x := by rw [wrapU]; omega
  have e2 : IntKind.u64.wrap ((x : Int) * (m : Int)) = ((x * m : Nat) : Int) := by rw [wrapU, Int.natCast_mul, ← Int.natCast_mul]; omega
  rw [e1, e2, bits_or_u64_nat _ _ (by omega) (by omega), Nat.or_comm, hm, Nat.mul_comm x, ← Nat.two_pow_add_eq_or_of_lt hV, Nat.add_comm]
theorem list8 (L : List UInt8) (h : L.length = 8) : ∃ x0 x1 x2 x3 x4 x5 x6 x7, L = [x0, x1, x2, x3, x4, x5, x6, x7] := by
  match L, h with
  | [x0, x1, x2, x3, x4, x5, x6, x7], _ => exact ⟨x0, x1, x2, x3, x4, x5, x6, x7, rfl⟩

theorem isNilFalse (w : World) (a : Addr) (n c : Nat) : (binOp .eql 36 (.slice (some a) n c) (.slice none 0 0)).run Tryz.prog w = .ok (.bool false) w := Lib.run_eql_slice_nil w 36 5 (some a) n c 0 0 Tryz.underlying36
theorem isNilTrue (w : World) : (binOp .eql 36 (.slice none 0 0) (.slice none 0 0)).run Tryz.prog w = .ok (.bool true) w := Lib.run_eql_slice_nil w 36 5 none 0 0 0 0 Tryz.underlying36

theorem toArray8 (w : World) (a : Addr) (c : Nat) : (Instr.arrayAt 145 (.slice (some a) 8 c)).run Tryz.prog w = .ok (.pointer (some a)) w := by
  simp [Instr.arrayAt, run_underlying Tryz.underlying145]

theorem idx8_0 (w : World) (x0 x1 x2 x3 x4 x5 x6 x7 : UInt8) : (Instr.index 145 (.agg #[.int .u8 x0.toNat, .int .u8 x1.toNat, .int .u8 x2.toNat, .int .u8 x3.toNat, .int .u8 x4.toNat, .int .u8 x5.toNat, .int .u8 x6.toNat, .int .u8 x7.toNat]) (.int .i64 0)).run Tryz.prog w = .ok (.int .u8 x0.toNat) w := by kernel_rfl
theorem idx8_1 (w : World) (x0 x1 x2 x3 x4 x5 x6 x7 : UInt8) : (Instr.index 145 (.agg #[.int .u8 x0.toNat, .int .u8 x1.toNat, .int .u8 x2.toNat, .int .u8 x3.toNat, .int .u8 x4.toNat, .int .u8 x5.toNat, .int .u8 x6.toNat, .int .u8 x7.toNat]) (.int .i64 1)).run Tryz.prog w = .ok (.int .u8 x1.toNat) w := by kernel_rfl
theorem idx8_2 (w : World) (x0 x1 x2 x3 x4 x5 x6 x7 : UInt8) : (Instr.index 145 (.agg #[.int .u8 x0.toNat, .int .u8 x1.toNat, .int .u8 x2.toNat, .int .u8 x3.toNat, .int .u8 x4.toNat, .int .u8 x5.toNat, .int .u8 x6.toNat, .int .u8 x7.toNat]) (.int .i64 2)).run Tryz.prog w = .ok (.int .u8 x2.toNat) w := by kernel_rfl
theorem idx8_3 (w : World) (x0 x1 x2 x3 x4 x5 x6 x7 : UInt8) : (Instr.index 145 (.agg #[.int .u8 x0.toNat, .int .u8 x1.toNat, .int .u8 x2.toNat, .int .u8 x3.toNat, .int .u8 x4.toNat, .int .u8 x5.toNat, .int .u8 x6.toNat, .int .u8 x7.toNat]) (.int .i64 3)).run Tryz.prog w = .ok (.int .u8 x3.toNat) w := by kernel_rfl
theorem idx8_4 (w : World) (x0 x1 x2 x3 x4 x5 x6 x7 : UInt8) : (Instr.index 145 (.agg #[.int .u8 x0.toNat, .int .u8 x1.toNat, .int .u8 x2.toNat, .int .u8 x3.toNat, .int .u8 x4.toNat, .int .u8 x5.toNat, .int .u8 x6.toNat, .int .u8 x7.toNat]) (.int .i64 4)).run Tryz.prog w = .ok (.int .u8 x4.toNat) w := by kernel_rfl
theorem idx8_5 (w : World) (x0 x1 x2 x3 x4 x5 x6 x7 : UInt8) : (Instr.index 145 (.agg #[.int .u8 x0.toNat, .int .u8 x1.toNat, .int .u8 x2.toNat, .int .u8 x3.toNat, .int .u8 x4.toNat, .int .u8 x5.toNat, .int .u8 x6.toNat, .int .u8 x7.toNat]) (.int .i64 5)).run Tryz.prog w = .ok (.int .u8 x5.toNat) w := by kernel_rfl
theorem idx8_6 (w : World) (x0 x1 x2 x3 x4 x5 x6 x7 : UInt8) : (Instr.index 145 (.agg #[.int .u8 x0.toNat, .int .u8 x1.toNat, .int .u8 x2.toNat, .int .u8 x3.toNat, .int .u8 x4.toNat, .int .u8 x5.toNat, .int .u8 x6.toNat, .int .u8 x7.toNat]) (.int .i64 6)).run Tryz.prog w = .ok (.int .u8 x6.toNat) w := by kernel_rfl
theorem idx8_7 (w : World) (x0 x1 x2 x3 x4 x5 x6 x7 : UInt8) : (Instr.index 145 (.agg #[.int .u8 x0.toNat, .int .u8 x1.toNat, .int .u8 x2.toNat, .int .u8 x3.toNat, .int .u8 x4.toNat, .int .u8 x5.toNat, .int .u8 x6.toNat, .int .u8 x7.toNat]) (.int .i64 7)).run Tryz.prog w = .ok (.int .u8 x7.toNat) w := by kernel_rfl

def loadF (rs : List Reg) (at_ : Nat) : Option Nat := match placeF rs at_ 8 with
  | none => none
  | some (i, k) => match rs[i]? with
    | none => none
    | some r => some (wordOf ((r.bytes.drop k).take 8))

def loadOut : Option Nat → Value
  | none => .tuple #[.int .u64 0, .int .i64 11]
  | some v => .tuple #[.int .u64 v, .int .i64 0]

set_option maxRecDepth 100000 in
set_option maxHeartbeats 800000 in
theorem Load_any (p : Value) (w : World) (F : Nat → Prop) (rs : List Reg) (at_ : Nat) (hat : at_ < 18446744073709551616) (hm : MemAt w F p rs) (hF : ∀ k, F k → k < w.heap.size) :
    Calls Tryz.prog 106 #[p, .int .u64 at_] w fun e w' => e = .returned (loadOut (loadF rs at_)) ∧ Below w.heap.size w w' := by
  obtain ⟨bm, hp⟩ : ∃ bm, p = .pointer (some ⟨bm, 0, none⟩) := by obtain ⟨bm, v, h, _⟩ := hm; exact ⟨bm, h⟩
  subst hp
  have HF := Lib.hid (find_any _ w F rs at_ 8 (by omega) hat hm hF)
  have hnt := isNilTrue
  have hnf := isNilFalse
  have h8 := toArray8
  clear hm hF
  go_enter Tryz.func106, Tryz.ntmps106
  go_wp2_with fail
  refine HF.out.mono ?_
  rintro e w1 ⟨v, rfl, hfo, hb1⟩
  rcases hfo with ⟨hpl, rfl⟩ | ⟨i, k, r, bb, c, hpl, hri, hFb, hkn, hkl, hrc, hrow, _, rfl⟩
  · have hl : loadF rs at_ = none := by simp only [loadF, hpl]
    have HL := Lib.hid hl
    clear hl hpl
    go_wp2
    go_ret2
    exact ⟨by rw [HL.out]; rfl, hb1⟩
  · obtain ⟨x0, x1, x2, x3, x4, x5, x6, x7, hL⟩ := list8 ((r.bytes.drop k).take 8) (by simp; omega)
    have cells : ∀ (j : Nat) (x : UInt8), [x0, x1, x2, x3, x4, x5, x6, x7][j]? = some x → w1.cell? ⟨bb, k + j, none⟩ = some (byteV x) := fun j x hx => by
      rw [← hL, List.getElem?_take] at hx
      split at hx
      · rw [List.getElem?_drop] at hx
        have h1 : (byteRows r.bytes)[k + j]? = some [byteV x] := by rw [byteRows, List.getElem?_map, hx]; rfl
        have h2 := hrow.cell h1 (j := 0) (by rfl)
        simpa using h2
      · cases hx
    have c0 := cells 0 x0 rfl
    have c1 := cells 1 x1 rfl
    have c2 := cells 2 x2 rfl
    have c3 := cells 3 x3 rfl
    have c4 := cells 4 x4 rfl
    have c5 := cells 5 x5 rfl
    have c6 := cells 6 x6 rfl
    have c7 := cells 7 x7 rfl
    simp only [byteV, Nat.add_zero] at c0 c1 c2 c3 c4 c5 c6 c7
    have hl : loadF rs at_ = some (wordOf [x0, x1, x2, x3, x4, x5, x6, x7]) := by simp only [loadF, hpl, hri, hL]
    have HL := Lib.hid hl
    clear cells hpl hri hrow hL hl
    go_wp2
    go_loop [8, 24] (fun v i => ∃ (q V : Nat) (z : Int), z = q ∧ q ≤ 8 ∧ i = .int .i64 z ∧ v = .int .u64 V ∧ V = wordOf ([x0, x1, x2, x3, x4, x5, x6, x7].take q)) (fun _ i => 8 - (intOf i).toNat)
    case atStart => exact ⟨0, 0, 0, rfl, by omega, rfl, rfl, rfl⟩
    case round =>
      obtain ⟨q, V, z, hz, hq, rfl, rfl, hV⟩ := hrel
      have HV := Lib.hid hV
      clear hV
      rcases (by omega : z = 0 ∨ z = 1 ∨ z = 2 ∨ z = 3 ∨ z = 4 ∨ z = 5 ∨ z = 6 ∨ z = 7 ∨ z = 8) with rfl | rfl | rfl | rfl | rfl | rfl | rfl | rfl | rfl
      · obtain rfl : q = 0 := by omega
        clear hz hq
        have hi := fun w => idx8_0 w x0 x1 x2 x3 x4 x5 x6 x7
        go_wp2
        go_round
        case rel => exact ⟨1, V + x0.toNat * 1, 1, rfl, by omega, rfl, congrArg _ (by have h := (or_step (V := V) (x := x0.toNat) (m := 1) 0 rfl (by rw [HV.out]; exact word_lt _ 0 (by simp)) x0.toNat_lt (by decide)); simpa using h), by rw [HV.out]; exact (word_step _ 0 x0 rfl).symm⟩
        case measure => simp [intOf]
      · obtain rfl : q = 1 := by omega
        clear hz hq
        have hi := fun w => idx8_1 w x0 x1 x2 x3 x4 x5 x6 x7
        go_wp2
        go_round
        case rel => exact ⟨2, V + x1.toNat * 256, 2, rfl, by omega, rfl, congrArg _ (by have h := (or_step (V := V) (x := x1.toNat) (m := 256) 8 rfl (by rw [HV.out]; exact word_lt _ 1 (by simp)) x1.toNat_lt (by decide)); simpa using h), by rw [HV.out]; exact (word_step _ 1 x1 rfl).symm⟩
        case measure => simp [intOf]
      · obtain rfl : q = 2 := by omega
        clear hz hq
        have hi := fun w => idx8_2 w x0 x1 x2 x3 x4 x5 x6 x7
        go_wp2
        go_round
        case rel => exact ⟨3, V + x2.toNat * 65536, 3, rfl, by omega, rfl, congrArg _ (by have h := (or_step (V := V) (x := x2.toNat) (m := 65536) 16 rfl (by rw [HV.out]; exact word_lt _ 2 (by simp)) x2.toNat_lt (by decide)); simpa using h), by rw [HV.out]; exact (word_step _ 2 x2 rfl).symm⟩
        case measure => simp [intOf]
      · obtain rfl : q = 3 := by omega
        clear hz hq
        have hi := fun w => idx8_3 w x0 x1 x2 x3 x4 x5 x6 x7
        go_wp2
        go_round
        case rel => exact ⟨4, V + x3.toNat * 16777216, 4, rfl, by omega, rfl, congrArg _ (by have h := (or_step (V := V) (x := x3.toNat) (m := 16777216) 24 rfl (by rw [HV.out]; exact word_lt _ 3 (by simp)) x3.toNat_lt (by decide)); simpa using h), by rw [HV.out]; exact (word_step _ 3 x3 rfl).symm⟩
        case measure => simp [intOf]
      · obtain rfl : q = 4 := by omega
        clear hz hq
        have hi := fun w => idx8_4 w x0 x1 x2 x3 x4 x5 x6 x7
        go_wp2
        go_round
        case rel => exact ⟨5, V + x4.toNat * 4294967296, 5, rfl, by omega, rfl, congrArg _ (by have h := (or_step (V := V) (x := x4.toNat) (m := 4294967296) 32 rfl (by rw [HV.out]; exact word_lt _ 4 (by simp)) x4.toNat_lt (by decide)); simpa using h), by rw [HV.out]; exact (word_step _ 4 x4 rfl).symm⟩
        case measure => simp [intOf]
      · obtain rfl : q = 5 := by omega
        clear hz hq
        have hi := fun w => idx8_5 w x0 x1 x2 x3 x4 x5 x6 x7
        go_wp2
        go_round
        case rel => exact ⟨6, V + x5.toNat * 1099511627776, 6, rfl, by omega, rfl, congrArg _ (by have h := (or_step (V := V) (x := x5.toNat) (m := 1099511627776) 40 rfl (by rw [HV.out]; exact word_lt _ 5 (by simp)) x5.toNat_lt (by decide)); simpa using h), by rw [HV.out]; exact (word_step _ 5 x5 rfl).symm⟩
        case measure => simp [intOf]
      · obtain rfl : q = 6 := by omega
        clear hz hq
        have hi := fun w => idx8_6 w x0 x1 x2 x3 x4 x5 x6 x7
        go_wp2
        go_round
        case rel => exact ⟨7, V + x6.toNat * 281474976710656, 7, rfl, by omega, rfl, congrArg _ (by have h := (or_step (V := V) (x := x6.toNat) (m := 281474976710656) 48 rfl (by rw [HV.out]; exact word_lt _ 6 (by simp)) x6.toNat_lt (by decide)); simpa using h), by rw [HV.out]; exact (word_step _ 6 x6 rfl).symm⟩
        case measure => simp [intOf]
      · obtain rfl : q = 7 := by omega
        clear hz hq
        have hi := fun w => idx8_7 w x0 x1 x2 x3 x4 x5 x6 x7
        go_wp2
        go_round
        case rel => exact ⟨8, V + x7.toNat * 72057594037927936, 8, rfl, by omega, rfl, congrArg _ (by have h := (or_step (V := V) (x := x7.toNat) (m := 72057594037927936) 56 rfl (by rw [HV.out]; exact word_lt _ 7 (by simp)) x7.toNat_lt (by decide)); simpa using h), by rw [HV.out]; exact (word_step _ 7 x7 rfl).symm⟩
        case measure => simp [intOf]
      · obtain rfl : q = 8 := by omega
        clear hz hq
        go_wp2
        go_ret2
        exact ⟨by rw [HL.out, HV.out]; rfl, hb1⟩
end Go.Proofs.YtmanhikpccnfaaaGreat

/- (*memory.Memory).Store. -/
namespace Go.Proofs.YtmanhikpccnfaaaGreat
open Go.RowKit

/-- Byte number j of a word. -/
def byteAt (v j : Nat) : UInt8 := UInt8.ofNat (v / 2 ^ (8 * j) % 256)
/-- So many bytes of a word are laid from place k on. -/
def putTo (l : List UInt8) (k v : Nat) : Nat → List UInt8
  | 0 => l
  | n + 1 => (putTo l k v n).set (k + n) (byteAt v n)

theorem putTo_length (l : List UInt8) (k v n : Nat) : (putTo l k v n).length = l.length := by
  induction n with
  | zero => rfl
  | succ n ih => simp [putTo, ih]
theorem byteRows_set (l : List UInt8) (i : Nat) (x : UInt8) : byteRows (l.set i x) = (byteRows l).set i [byteV x] := by
  simp [byteRows, List.map_set]

def storeF (rs : List Reg) (at_ v : Nat) : Option (List Reg) := match placeF rs at_ 8 with
  | none => none
  | some (i, k) => match rs[i]? with
    | none => none
    | some r => if r.write = true then some (rs.set i { r with bytes := putTo r.bytes k v 8 }) else none

theorem byteAt_int (v j m : Nat) (hm : m = 2 ^ (8 * j)) : ((byteAt v j).toNat : Int) = (v : Int) / (m : Int) % 256 := by
  rw [byteAt, ← hm]
  simp only [UInt8.toNat_ofNat']
  omega

theorem byteRows_at {l : List UInt8} {i : Nat} (h : i < l.length) : ∃ x, (byteRows l)[i]? = some [byteV x] :=
  ⟨l[i], by rw [byteRows, List.getElem?_map, List.getElem?_eq_getElem h]; rfl⟩

theorem put_cell {w : World} {bb k v q : Nat} {l : List UInt8} (h : RowsBlk w bb 5 1 (byteRows (putTo l k v q))) (hk : k + q < l.length) : ∃ u, w.cell? ⟨bb, k + q, none⟩ = some u := by
  obtain ⟨x, hx⟩ := byteRows_at (l := putTo l k v q) (i := k + q) (by rw [putTo_length]; exact hk)
  exact ⟨_, by have := h.cell hx (j := 0) (by rfl); simpa using this⟩

theorem put_step {w : World} {bb k v q : Nat} {l : List UInt8} (h : RowsBlk w bb 5 1 (byteRows (putTo l k v q))) (hk : k + q < l.length) {u : Value} (hu : u = byteV (byteAt v q)) :
    RowsBlk (w.setCell ⟨bb, k + q, none⟩ u) bb 5 1 (byteRows (putTo l k v (q + 1))) := by
  subst hu
  obtain ⟨x, hx⟩ := byteRows_at (l := putTo l k v q) (i := k + q) (by rw [putTo_length]; exact hk)
  have := h.set_ hx (j := 0) (by decide) (byteV (byteAt v q))
  rw [putTo, byteRows_set]
  simpa using this

theorem Good.set {rs : List Reg} (h : Good rs) {i : Nat} {r : Reg} (hr : rs[i]? = some r) {b : List UInt8} (hb : b.length = r.bytes.length) : Good (rs.set i { r with bytes := b }) := by
  obtain ⟨hi, hri⟩ := List.getElem?_eq_some_iff.1 hr
  have hmem : r ∈ rs := List.mem_of_getElem? hr
  have hpos := h.pos r hmem
  have all : ∀ {Q : Reg → Prop}, (∀ x ∈ rs, Q x) → Q { r with bytes := b } → ∀ x ∈ rs.set i { r with bytes := b }, Q x := fun h1 h2 x hx => by
    rcases List.mem_or_eq_of_mem_set hx with hx | rfl
    · exact h1 x hx
    · exact h2
  refine ⟨by simpa using h.len, all h.bytes ⟨fun e => ?_, ?_⟩, all h.end_ ?_, ?_⟩
  · simp only at e; rw [e] at hb; simp at hb; omega
  · simp only; rw [hb]; exact (h.bytes r hmem).2
  · simp only; rw [hb]; exact h.end_ r hmem
  · have hg := h.gap
    rw [List.pairwise_iff_getElem] at hg ⊢
    intro a c ha hc hac
    simp only [List.length_set] at ha hc
    have h0 := hg a c ha hc hac
    simp only [List.getElem_set]
    split
    · rename_i e1; subst e1
      rw [if_neg (by omega)]
      simp only; rw [hb]
      rw [hri] at h0; exact h0
    · split
      · rename_i e2; subst e2
        rw [hri] at h0; exact h0
      · exact h0

/-- A region's bytes are turned. -/
theorem MemAt.put {w w' : World} {F : Nat → Prop} {p : Value} {rs : List Reg} {i bb n c : Nat} {r : Reg} {b : List UInt8} (h : MemAt w F p rs) (he : EntryAt w p i bb n c) (hr : rs[i]? = some r) (hch : Chg (· = bb) w w')
    (hrow : RowsBlk w' bb 5 1 (byteRows b)) (hb : b.length = r.bytes.length) : MemAt w' F p (rs.set i { r with bytes := b }) := by
  obtain ⟨bm, v, hp, hFbm, hblk, ⟨A, c', P, hv, hlc, hfst, hent, hnd, hblk2⟩, hgood⟩ := h
  obtain ⟨bm', g', m, c2, hp', hc1, hc2⟩ := he
  have hne : rs ≠ [] := fun e => by rw [e] at hr; cases hr
  obtain ⟨g, hA, hFg, hrows⟩ := hblk2 hne
  subst hp
  cases hp'
  have hcm : w.cell? ⟨bm, 0, none⟩ = some v := by simp [World.cell?, hblk]
  rw [hcm, hv, hA] at hc1
  cases hc1
  have hri := hr
  rw [← hfst, List.getElem?_map] at hri
  cases hpk : P[i]? with
  | none => rw [hpk] at hri; cases hri
  | some x =>
    rw [hpk] at hri
    cases hri
    have hx := hent x (List.mem_of_getElem? hpk)
    have hrowi : (P.map fun x => entRow x.2)[i]? = some (entRow x.2) := by rw [List.getElem?_map, hpk]; rfl
    have hc3 := hrows.cell hrowi (j := 1) (by rfl)
    rw [hc3] at hc2
    have had : x.2.ad = some ⟨bb, 0, none⟩ := by injection hc2 with h1; injection h1
    obtain ⟨bb', hb1, hb2, hb3⟩ := hx.blk
    rw [had] at hb1
    cases hb1
    obtain ⟨hil, hpi⟩ := List.getElem?_eq_some_iff.1 hpk
    have hgl := hrows.lt
    have hbml := lt_of_block hblk
    have hgb : g' ≠ bb := hrows.ne hb3 (by decide)
    have hbb : bm ≠ bb := by
      rintro rfl
      obtain ⟨cur, h1, _⟩ := hb3
      rw [hblk] at h1
      injection h1 with h1
      injection h1 with _ h2
      exact absurd h2 (by decide)
    have hsnd : (P.set i ({ x.1 with bytes := b }, x.2)).map (·.2) = P.map (·.2) := by
      rw [List.map_set]
      refine List.ext_getElem? fun q => ?_
      by_cases hq : i = q
      · subst hq
        rw [List.getElem?_set_self (by simpa using hil), List.getElem?_map, hpk]; rfl
      · rw [List.getElem?_set_ne hq]
    have h2 : ∀ {β : Type} (f : Ent → β), (P.set i ({ x.1 with bytes := b }, x.2)).map (fun x => f x.2) = P.map fun x => f x.2 := fun f => by
      have := congrArg (List.map f) hsnd
      simpa [List.map_map, Function.comp_def] using this
    refine ⟨bm, v, rfl, hFbm, (hch.block bm hbml hbb).trans hblk, ⟨A, c', P.set i ({ x.1 with bytes := b }, x.2), by rw [hv]; simp, by simpa using hlc, ?_, ?_, ?_, ?_⟩, hgood.set hr hb⟩
    · rw [List.map_set, hfst]
    · intro y hy
      obtain ⟨q, hq⟩ := List.mem_iff_getElem?.1 hy
      by_cases hqi : i = q
      · subst hqi
        rw [List.getElem?_set_self hil] at hq
        cases hq
        exact ⟨hx.key, by rw [hx.n]; exact hb.symm, hx.wr, hx.cap, bb, had, hb2, hrow⟩
      · rw [List.getElem?_set_ne hqi] at hq
        have hy' := hent y (List.mem_of_getElem? hq)
        obtain ⟨by_, a1, a2, a3⟩ := hy'.blk
        have hne2 : by_ ≠ bb := by
          rintro rfl
          obtain ⟨hql, hpq⟩ := List.getElem?_eq_some_iff.1 hq
          have h3 := List.pairwise_iff_getElem.1 hnd
          rcases Nat.lt_or_gt_of_ne hqi with hlt | hlt
          · exact h3 i q (by simpa using hil) (by simpa using hql) hlt (by simp only [List.getElem_map]; rw [hpi, hpq, had, a1])
          · exact h3 q i (by simpa using hql) (by simpa using hil) hlt (by simp only [List.getElem_map]; rw [hpi, hpq, had, a1])
        exact ⟨hy'.key, hy'.n, hy'.wr, hy'.cap, by_, a1, a2, a3.keep (hch.block by_ a3.lt hne2)⟩
    · rw [h2 (·.ad)]; exact hnd
    · intro _
      refine ⟨g', hA, hFg, ?_⟩
      rw [h2 entRow]
      exact hrows.keep (hch.block g' hgl hgb)

set_option maxRecDepth 100000 in
set_option maxHeartbeats 800000 in
theorem Store_any (p : Value) (w : World) (F : Nat → Prop) (rs : List Reg) (at_ v : Nat) (hat : at_ < 18446744073709551616) (hv : v < 18446744073709551616) (hm : MemAt w F p rs) (hF : ∀ k, F k → k < w.heap.size) :
    Calls Tryz.prog 107 #[p, .int .u64 at_, .int .u64 v] w fun e w' =>
      (storeF rs at_ v = none ∧ e = .returned (.int .i64 11) ∧ Below w.heap.size w w') ∨ (∃ rs', storeF rs at_ v = some rs' ∧ e = .returned (.int .i64 0) ∧ MemAt w' F p rs' ∧ Chg F w w') := by
  obtain ⟨bm, hp⟩ : ∃ bm, p = .pointer (some ⟨bm, 0, none⟩) := by obtain ⟨bm, v, h, _⟩ := hm; exact ⟨bm, h⟩
  have HF := Lib.hid (find_any _ w F rs at_ 8 (by omega) hat hm hF)
  have HM := Lib.hid hm
  have HFF := Lib.hid hF
  have hnt := isNilTrue
  have hnf := isNilFalse
  clear hm hF
  subst hp
  go_enter Tryz.func107, Tryz.ntmps107
  go_wp2_with fail
  refine HF.out.mono ?_
  rintro e w1 ⟨v1, rfl, hfo, hb1⟩
  rcases hfo with ⟨hpl, rfl⟩ | ⟨i, k, r, bb, c, hpl, hri, hFb, hkn, hkl, hrc, hrow, hent, rfl⟩
  · have hl : storeF rs at_ v = none := by simp only [storeF, hpl]
    have HL := Lib.hid hl
    clear hl hpl
    go_wp2
    go_ret
    exact .inl ⟨HL.out, rfl, hb1⟩
  · cases hw : r.write
    · have hl : storeF rs at_ v = none := by simp only [storeF, hpl, hri, hw]; rfl
      have HL := Lib.hid hl
      clear hl hpl hrow hri
      go_wp2
      go_ret
      exact .inl ⟨HL.out, rfl, hb1⟩
    · have hl : storeF rs at_ v = some (rs.set i { r with bytes := putTo r.bytes k v 8 }) := by simp only [storeF, hpl, hri, hw]; rfl
      have HL := Lib.hid hl
      have HROW := Lib.hid hrow
      have HRI := Lib.hid hri
      have HENT := Lib.hid hent
      clear hl hpl hrow hri hent
      go_wp2
      go_loopw [26] (fun i wr => ∃ (q : Nat) (z : Int), z = q ∧ q ≤ 8 ∧ i = .int .i64 z ∧ Chg (· = bb) w1 wr ∧ RowsBlk wr bb 5 1 (byteRows (putTo r.bytes k v q))) (fun i _ => 8 - (intOf i).toNat)
      case atStart => exact ⟨0, 0, rfl, by omega, rfl, Chg.refl _ _, HROW.out⟩
      case round =>
        obtain ⟨q, z, hz, hq, rfl, hch, hrw⟩ := hrel
        have HCH := Lib.hid hch
        have HRW := Lib.hid hrw
        clear hch hrw
        rcases (by omega : z = 0 ∨ z = 1 ∨ z = 2 ∨ z = 3 ∨ z = 4 ∨ z = 5 ∨ z = 6 ∨ z = 7 ∨ z = 8) with rfl | rfl | rfl | rfl | rfl | rfl | rfl | rfl | rfl
        · obtain rfl : q = 0 := by omega
          obtain ⟨u, hc⟩ := put_cell HRW.out (q := 0) (by omega)
          have hf := HRW.out.frozen (k + 0)
          have i0 : (0 : Int) ≤ (0 : Int) := by decide
          simp only [Nat.add_zero] at hc hf
          clear hz hq
          go_wp2
          go_roundw
          case rel => exact ⟨1, 1, rfl, by omega, rfl, HCH.out.setCell (.inl rfl) _, put_step HRW.out (q := 0) (by omega) (congrArg (Value.int .u8) (by rw [byteAt_int v 0 1 rfl]; simp))⟩
          case measure => simp [intOf]
        · obtain rfl : q = 1 := by omega
          obtain ⟨u, hc⟩ := put_cell HRW.out (q := 1) (by omega)
          have hf := HRW.out.frozen (k + 1)
          have i0 : (0 : Int) ≤ (1 : Int) := by decide
          clear hz hq
          go_wp2
          go_roundw
          case rel => exact ⟨2, 2, rfl, by omega, rfl, HCH.out.setCell (.inl rfl) _, put_step HRW.out (q := 1) (by omega) (congrArg (Value.int .u8) (by rw [byteAt_int v 1 256 rfl]; simp))⟩
          case measure => simp [intOf]
        · obtain rfl : q = 2 := by omega
          obtain ⟨u, hc⟩ := put_cell HRW.out (q := 2) (by omega)
          have hf := HRW.out.frozen (k + 2)
          have i0 : (0 : Int) ≤ (2 : Int) := by decide
          clear hz hq
          go_wp2
          go_roundw
          case rel => exact ⟨3, 3, rfl, by omega, rfl, HCH.out.setCell (.inl rfl) _, put_step HRW.out (q := 2) (by omega) (congrArg (Value.int .u8) (by rw [byteAt_int v 2 65536 rfl]; simp))⟩
          case measure => simp [intOf]
        · obtain rfl : q = 3 := by omega
          obtain ⟨u, hc⟩ := put_cell HRW.out (q := 3) (by omega)
          have hf := HRW.out.frozen (k + 3)
          have i0 : (0 : Int) ≤ (3 : Int) := by decide
          clear hz hq
          go_wp2
          go_roundw
          case rel => exact ⟨4, 4, rfl, by omega, rfl, HCH.out.setCell (.inl rfl) _, put_step HRW.out (q := 3) (by omega) (congrArg (Value.int .u8) (by rw [byteAt_int v 3 16777216 rfl]; simp))⟩
          case measure => simp [intOf]
        · obtain rfl : q = 4 := by omega
          obtain ⟨u, hc⟩ := put_cell HRW.out (q := 4) (by omega)
          have hf := HRW.out.frozen (k + 4)
          have i0 : (0 : Int) ≤ (4 : Int) := by decide
          clear hz hq
          go_wp2
          go_roundw
          case rel => exact ⟨5, 5, rfl, by omega, rfl, HCH.out.setCell (.inl rfl) _, put_step HRW.out (q := 4) (by omega) (congrArg (Value.int .u8) (by rw [byteAt_int v 4 4294967296 rfl]; simp))⟩
          case measure => simp [intOf]
        · obtain rfl : q = 5 := by omega
          obtain ⟨u, hc⟩ := put_cell HRW.out (q := 5) (by omega)
          have hf := HRW.out.frozen (k + 5)
          have i0 : (0 : Int) ≤ (5 : Int) := by decide
          clear hz hq
          go_wp2
          go_roundw
          case rel => exact ⟨6, 6, rfl, by omega, rfl, HCH.out.setCell (.inl rfl) _, put_step HRW.out (q := 5) (by omega) (congrArg (Value.int .u8) (by rw [byteAt_int v 5 1099511627776 rfl]; simp))⟩
          case measure => simp [intOf]
        · obtain rfl : q = 6 := by omega
          obtain ⟨u, hc⟩ := put_cell HRW.out (q := 6) (by omega)
          have hf := HRW.out.frozen (k + 6)
          have i0 : (0 : Int) ≤ (6 : Int) := by decide
          clear hz hq
          go_wp2
          go_roundw
          case rel => exact ⟨7, 7, rfl, by omega, rfl, HCH.out.setCell (.inl rfl) _, put_step HRW.out (q := 6) (by omega) (congrArg (Value.int .u8) (by rw [byteAt_int v 6 281474976710656 rfl]; simp))⟩
          case measure => simp [intOf]
        · obtain rfl : q = 7 := by omega
          obtain ⟨u, hc⟩ := put_cell HRW.out (q := 7) (by omega)
          have hf := HRW.out.frozen (k + 7)
          have i0 : (0 : Int) ≤ (7 : Int) := by decide
          clear hz hq
          go_wp2
          go_roundw
          case rel => exact ⟨8, 8, rfl, by omega, rfl, HCH.out.setCell (.inl rfl) _, put_step HRW.out (q := 7) (by omega) (congrArg (Value.int .u8) (by rw [byteAt_int v 7 72057594037927936 rfl]; omega))⟩
          case measure => simp [intOf]
        · obtain rfl : q = 8 := by omega
          clear hz hq
          have hmem := (HM.out.keep (SameOn.of_below hb1 HFF.out)).put HENT.out HRI.out HCH.out HRW.out (putTo_length _ _ _ _)
          have hchg : Chg F w wr := (Chg.of_below hb1).trans' HCH.out (fun q _ hq => by rw [hq]; exact hFb)
          have HMEM := Lib.hid hmem
          have HCHG := Lib.hid hchg
          clear hmem hchg
          go_wp2
          go_ret
          exact .inr ⟨_, HL.out, rfl, HMEM.out, HCHG.out⟩
end Go.Proofs.YtmanhikpccnfaaaGreat

/- (*memory.Memory).Bytes, Regions, Clone; memory.New. -/
namespace Go.Proofs.YtmanhikpccnfaaaGreat
open Go.RowKit

theorem RegsOwn.mono {w : World} {F G : Nat → Prop} {v : Value} {l : List Reg} (h : RegsOwn w F v l) (hk : ∀ k, F k → G k) : RegsOwn w G v l := by
  obtain ⟨A, c, P, h1, h2, h3, h4, h5, h6⟩ := h
  refine ⟨A, c, P, h1, h2, h3, fun x hx => (h4 x hx).mono hk, h5, fun hne => ?_⟩
  obtain ⟨g, hA, hF, hr⟩ := h6 hne
  exact ⟨g, hA, hk _ hF, hr⟩

/-- A new block with regions of its own in it is a memory. -/
theorem mem_new {w : World} {s : Nat} {v : Value} {rs : List Reg} (h : RegsOwn w (seg s w.heap.size) v rs) (hg : Good rs) (hs : s ≤ w.heap.size) :
    MemAt (w.alloc (.cells #[v] 75)) (seg s (w.alloc (.cells #[v] 75)).heap.size) (.pointer (some ⟨w.heap.size, 0, none⟩)) rs := by
  have hz : (w.alloc (.cells #[v] 75)).heap.size = w.heap.size + 1 := by simp
  refine ⟨w.heap.size, v, rfl, ⟨hs, by omega⟩, heap_alloc_new w _, ?_, hg⟩
  refine (h.keep (fun k hk => Below.heap_alloc w _ k hk.2)).mono (fun k hk => ⟨hk.1, by have := hk.2; omega⟩)

theorem insBy_last {α : Type} (k : α → Nat) (l : List α) (x : α) (h : ∀ p ∈ l, k p ≤ k x) : insBy k l x = x :: l := by
  cases l with
  | nil => rfl
  | cons p ps => unfold insBy; rw [if_neg (by have := h p (List.mem_cons_self ..); omega)]
theorem sortBy_sortedId {α : Type} (k : α → Nat) (E : List α) (h : E.Pairwise fun a b => k a ≤ k b) : sortBy k E = E := by
  have key : ∀ (E a : List α), (a.reverse ++ E).Pairwise (fun a b => k a ≤ k b) → E.foldl (insBy k) a = E.reverse ++ a := by
    intro E
    induction E with
    | nil => intro a _; rfl
    | cons x E ih =>
      intro a h
      rw [List.foldl_cons, insBy_last, ih]
      · simp
      · simpa using h
      · intro p hp
        have := (List.pairwise_append.1 h).2.2 p (by simpa using hp) x (List.mem_cons_self ..)
        exact this
  rw [sortBy, key E [] (by simpa using h)]
  simp
theorem Good.sorted {rs : List Reg} (h : Good rs) : sortBy Reg.base rs = rs :=
  sortBy_sortedId _ _ (h.gap.imp fun h => by omega)

def bytesF (rs : List Reg) (at_ n : Nat) : Option (List UInt8) := match placeF rs at_ n with
  | none => none
  | some (i, k) => match rs[i]? with
    | none => none
    | some r => some ((r.bytes.drop k).take n)
def strV (l : List UInt8) : Value := .string ⟨l.toArray⟩
def bytesOut : Option (List UInt8) → Value
  | none => .tuple #[strV [], .int .i64 11]
  | some l => .tuple #[strV l, .int .i64 0]

set_option linter.unusedVariables false in
set_option maxHeartbeats 400000 in
theorem Load_nil (a b : Int) (w : World) : Calls Tryz.prog 106 #[.pointer none, .int .u64 a] w fun e w' => e = .returned (.tuple #[.int .u64 0, .int .i64 1]) ∧ w = w' := by
  go_enter Tryz.func106, Tryz.ntmps106
  go_wp2
  go_ret2
  exact ⟨rfl, rfl⟩

set_option linter.unusedVariables false in
set_option maxHeartbeats 400000 in
theorem Store_nil (a b : Int) (w : World) : Calls Tryz.prog 107 #[.pointer none, .int .u64 a, .int .u64 b] w fun e w' => e = .returned (.int .i64 1) ∧ w = w' := by
  go_enter Tryz.func107, Tryz.ntmps107
  go_wp2
  go_ret
  exact ⟨rfl, rfl⟩

set_option linter.unusedVariables false in
set_option maxHeartbeats 400000 in
theorem Regions_nil (a b : Int) (w : World) : Calls Tryz.prog 15 #[.pointer none] w fun e w' => e = .returned (.slice none 0 0) ∧ w = w' := by
  go_enter Tryz.func15, Tryz.ntmps15
  go_wp2
  go_ret
  exact ⟨rfl, rfl⟩

set_option maxHeartbeats 800000 in
theorem Regions_any (p : Value) (w : World) (F : Nat → Prop) (rs : List Reg) (hm : MemAt w F p rs) (hF : ∀ k, F k → k < w.heap.size) :
    Calls Tryz.prog 15 #[p] w fun e w' => ∃ v, e = .returned v ∧ RegsOwn w' (seg w.heap.size w'.heap.size) v rs ∧ Below w.heap.size w w' := by
  obtain ⟨bm, v, rfl, hbm, hblk, hown, hgood⟩ := hm
  have hcell : w.cell? ⟨bm, 0, none⟩ = some v := by simp [World.cell?, hblk]
  have HO := Lib.hid (own_any v w F rs (hown.at_ hgood.base) hF (by have := hgood.len; omega) hgood.bytes)
  have hs : sortBy Reg.base rs = rs := hgood.sorted
  have HS := Lib.hid hs
  obtain ⟨A, c, rfl, _⟩ := (hown.at_ hgood.base).form
  clear hblk hown hgood hF hs
  go_enter Tryz.func15, Tryz.ntmps15
  go_wp2_with ((with_reducible refine (HO.out).mono ?_); rintro e w1 ⟨v1, rfl, hown1, hb1⟩; rw [HS.out] at hown1; have HO1 := Lib.hid hown1; clear hown1)
  go_ret
  exact ⟨v1, rfl, HO1.out, hb1⟩

set_option maxHeartbeats 800000 in
theorem New_any (v : Value) (w : World) (F : Nat → Prop) (l : List Reg) (hn : l.length ≤ 9223372036854775807) (hl : RegsAt w F v l) (hF : ∀ k, F k → k < w.heap.size) :
    Calls Tryz.prog 10 #[v] w fun e w' => Below w.heap.size w w' ∧ ((checkF l ≠ 0 ∧ e = .returned (.tuple #[.pointer none, .int .i64 (checkF l)])) ∨
      (checkF l = 0 ∧ ∃ p, e = .returned (.tuple #[p, .int .i64 0]) ∧ MemAt w' (seg w.heap.size w'.heap.size) p (sortBy Reg.base l))) := by
  have HC := Lib.hid (Check_any v w F l hn hl hF)
  have hbase : ∀ r ∈ l, r.base < 18446744073709551616 := by
    obtain ⟨P, hP, _, hs⟩ := hl
    intro r hr
    rw [← hP] at hr
    obtain ⟨x, hx, rfl⟩ := List.mem_map.1 hr
    exact (hs x hx).base64
  have HO := fun (h0 : checkF l = 0) (w1 : World) (hb : Below w.heap.size w w1) => own_any v w1 F l (hl.below hb hF) (fun k hk => by have := hF k hk; have := hb.size; omega)
    (by have := (good_of_check h0 hbase).len; rw [sortBy_length] at this; omega) (fun r hr => (good_of_check h0 hbase).bytes r ((sortBy_perm _ _).mem_iff.2 hr))
  have HG := fun (h0 : checkF l = 0) => good_of_check h0 hbase
  have HO := Lib.hid HO
  have HG := Lib.hid HG
  obtain ⟨A, c, rfl, _⟩ := hl.form
  clear hl hF hbase
  by_cases h0 : checkF l = 0
  · rw [h0] at HC
    have H0 := Lib.hid h0
    clear h0
    go_enter Tryz.func10, Tryz.ntmps10
    go_wp2_with (first | ((with_reducible refine (HC.out).mono ?_); rintro e w1 ⟨rfl, hb1⟩) | ((with_reducible refine (HO.out H0.out _ hb1).mono ?_); rintro e w2 ⟨v1, rfl, hown1, hb2⟩; obtain ⟨A1, c1, P1, rfl, hrest⟩ := hown1; have HO1 := Lib.hid hrest; clear hrest))
    go_ret2
    have hs := hb1.size
    refine ⟨(hb1.trans (hb2.mono hs)).trans ((Below.refl _ _).alloc (Nat.le_trans hs hb2.size) _), .inr ⟨H0.out, _, rfl, ?_⟩⟩
    exact mem_new (RegsOwn.mono ⟨A1, c1, P1, rfl, HO1.out⟩ (fun k hk => ⟨Nat.le_trans hs hk.1, hk.2⟩)) (HG.out H0.out) (Nat.le_trans hs hb2.size)
  · have hne : (checkF l != 0) = true := by rw [bne_iff_ne]; exact h0
    have H0 := Lib.hid h0
    clear h0
    generalize checkF l = ce at *
    go_enter Tryz.func10, Tryz.ntmps10
    go_wp2_with ((with_reducible refine (HC.out).mono ?_); rintro e w1 ⟨rfl, hb1⟩)
    go_ret2
    exact ⟨hb1, .inl ⟨H0.out, rfl⟩⟩
end Go.Proofs.YtmanhikpccnfaaaGreat

/- What a store says. -/
namespace Go.Proofs.YtmanhikpccnfaaaGreat
open Go.RowKit

def StoreSays (rs : List Reg) (at_ v : Nat) (g : Int) (rs2 : List Reg) : Prop := (storeF rs at_ v = none ∧ g = 11 ∧ rs2 = rs) ∨ (storeF rs at_ v = some rs2 ∧ g = 0)
theorem StoreSays.same {rs rs2 rs3 : List Reg} {at_ v : Nat} {g g' : Int} (h : StoreSays rs at_ v g rs2) (h' : StoreSays rs at_ v g' rs3) : g' = g ∧ rs3 = rs2 := by
  rcases h with ⟨a, b, c⟩ | ⟨a, b⟩ <;> rcases h' with ⟨a', b', c'⟩ | ⟨a', b'⟩
  · exact ⟨by rw [b, b'], by rw [c, c']⟩
  · rw [a] at a'; cases a'
  · rw [a] at a'; cases a'
  · rw [a] at a'; cases a'; exact ⟨by rw [b, b'], rfl⟩
theorem Store_says (p : Value) (w : World) (F : Nat → Prop) (rs : List Reg) (at_ v : Nat) (hat : at_ < 18446744073709551616) (hv : v < 18446744073709551616) (hm : MemAt w F p rs) (hF : ∀ k, F k → k < w.heap.size) :
    Calls Tryz.prog 107 #[p, .int .u64 at_, .int .u64 v] w fun e w' => ∃ g rs2, e = .returned (.int .i64 g) ∧ StoreSays rs at_ v g rs2 ∧ MemAt w' F p rs2 ∧ Chg F w w' := by
  refine (Store_any p w F rs at_ v hat hv hm hF).mono ?_
  rintro e w' (⟨h0, rfl, hb⟩ | ⟨rs', h0, rfl, hm', hc⟩)
  · exact ⟨11, rs, rfl, .inl ⟨h0, rfl, rfl⟩, hm.keep (SameOn.of_below hb hF), .of_below hb⟩
  · exact ⟨0, rs', rfl, .inr ⟨h0, rfl⟩, hm', hc⟩
theorem RegsAt.next {w w' : World} {v : Value} {rs : List Reg} (h : RegsAt w (fun k => k < w.heap.size) v rs) (hb : Below w.heap.size w w') : RegsAt w' (fun k => k < w'.heap.size) v rs :=
  (h.below hb fun _ hk => hk).mono fun _ hk => Nat.lt_of_lt_of_le hk hb.size

/-- What Load hands over. -/
def loadVE : Option Nat → Nat × Int
  | none => (0, 11)
  | some v => (v, 0)
theorem loadOut_eq (o : Option Nat) : loadOut o = .tuple #[.int .u64 ((loadVE o).1 : Nat), .int .i64 (loadVE o).2] := by cases o <;> rfl
theorem loadF_lt {rs : List Reg} {at_ : Nat} : (loadVE (loadF rs at_)).1 < 18446744073709551616 := by
  unfold loadF loadVE
  cases placeF rs at_ 8 with
  | none => simp
  | some ik =>
    obtain ⟨i, k⟩ := ik
    cases hr : rs[i]? with
    | none => simp [hr]
    | some r =>
      simp only [hr]
      have := wordOf_lt ((r.bytes.drop k).take 8)
      have h2 : (2 : Nat) ^ (8 * ((r.bytes.drop k).take 8).length) ≤ 2 ^ 64 := Nat.pow_le_pow_right (by decide) (by simp; omega)
      exact Nat.lt_of_lt_of_le this h2
end Go.Proofs.YtmanhikpccnfaaaGreat

/- The stepper's load, store, pop, jump; Address. -/
namespace Go.Proofs.YtmanhikpccnfaaaGreat
open Go.RowKit

variable {w : World} {base b : Nat} {x : Stp} {evs : List Ev} {F : Nat → Prop} {rs : List Reg}

/-- Blocks of F, and what was made from base on. -/
def Over (F : Nat → Prop) (base : Nat) : Nat → Prop := fun k => F k ∨ base ≤ k
theorem Over.below {w w' : World} (h : Below base w w') : Chg (Over F base) w w' := ⟨h.os, h.tape, h.output, h.size, fun k _ hn => h.block k (by rcases Nat.lt_or_ge k base with h' | h'; exact h'; exact absurd (.inr h') hn)⟩

set_option maxRecDepth 100000 in
set_option maxHeartbeats 400000 in
theorem load_any (h : Run w base b x evs) (hm : MemAt w F x.m rs) (hF : ∀ k, F k → k < base) (at_ : Nat) (hat : at_ < 18446744073709551616) (hf : evs.length ≤ 90) :
    Calls Tryz.prog 67 #[.pointer (some ⟨b, 0, none⟩), .int .u64 at_] w fun e w' => e = .returned (.int .u64 ((loadVE (loadF rs at_)).1 : Nat)) ∧ Below base w w' ∧ ∃ v, Run w' base b { x with e := (loadVE (loadF rs at_)).2, l := v } (evs ++ [⟨2, at_⟩]) := by
  have hl := Load_any x.m w F rs at_ hat hm (fun k hk => Nat.lt_of_lt_of_le (hF k hk) h.base_le)
  rw [loadOut_eq] at hl
  generalize (loadVE (loadF rs at_)).1 = v at *
  generalize (loadVE (loadF rs at_)).2 = ec at *
  have HL := Lib.hid hl
  have H := Lib.hid h
  obtain ⟨bm, hp⟩ : ∃ bm, x.m = .pointer (some ⟨bm, 0, none⟩) := by obtain ⟨bm, v, h, _⟩ := hm; exact ⟨bm, h⟩
  obtain ⟨_, _, _, _, _, _, _, _, _, _, _, _, _, c29, _, c31⟩ := h.cells
  have hbl := h.lt
  have HFEW := Lib.hid hf
  rw [hp] at c29 HL
  clear h hm hl hf hp
  go_enter Tryz.func67, Tryz.ntmps67
  go_wp2_with fail
  refine HL.out.mono ?_
  rintro e w1 ⟨rfl, hb1⟩
  have c31' := (hb1.cell (p := ⟨b, 31, none⟩) hbl).trans c31
  have H1 := Lib.hid (H.out.next hb1)
  have f31 := H1.out.frozen 31
  have HB1 := Lib.hid (hb1.mono H.out.base_le)
  clear hb1 c29 c31
  go_wp2_with fail
  refine (see_any (H1.out.setE ec) 2 at_ HFEW.out).mono ?_
  rintro e w2 ⟨rfl, hb2, v2, hr2⟩
  have HR2 := Lib.hid hr2
  have HB2 := Lib.hid ((HB1.out.setCell H.out.le _).trans hb2)
  clear hr2 hb2 c31' f31
  go_wp2
  go_ret
  exact ⟨rfl, HB2.out, v2, HR2.out⟩

set_option maxRecDepth 100000 in
set_option maxHeartbeats 400000 in
theorem store_any (h : Run w base b x evs) (hm : MemAt w F x.m rs) (hF : ∀ k, F k → k < base) (at_ v : Nat) (hat : at_ < 18446744073709551616) (hv : v < 18446744073709551616) (hf : evs.length ≤ 90) :
    Calls Tryz.prog 68 #[.pointer (some ⟨b, 0, none⟩), .int .u64 at_, .int .u64 v] w fun e w' => ∃ g rs2 vl, e = .returned (.tuple #[]) ∧ StoreSays rs at_ v g rs2 ∧ MemAt w' F x.m rs2 ∧ Chg (Over F base) w w' ∧ Run w' base b { x with e := g, l := vl } (evs ++ [⟨3, at_⟩]) := by
  have hl := Store_says x.m w F rs at_ v hat hv hm (fun k hk => Nat.lt_of_lt_of_le (hF k hk) h.base_le)
  have HL := Lib.hid hl
  have H := Lib.hid h
  obtain ⟨bm, hp⟩ : ∃ bm, x.m = .pointer (some ⟨bm, 0, none⟩) := by obtain ⟨bm, v, h, _⟩ := hm; exact ⟨bm, h⟩
  obtain ⟨_, _, _, _, _, _, _, _, _, _, _, _, _, c29, _, _⟩ := h.cells
  have hbl := h.lt
  have HFEW := Lib.hid hf
  have HFB := Lib.hid hF
  rw [hp] at c29 HL
  have HP := Lib.hid hp
  clear h hm hl hf hp hF
  go_enter Tryz.func68, Tryz.ntmps68
  go_wp2_with fail
  refine HL.out.mono ?_
  rintro e w1 ⟨g, rs2, rfl, hsay, hm2, hc⟩
  have H1 := Lib.hid (H.out.chg hc HFB.out)
  obtain ⟨_, _, _, _, _, _, _, _, _, _, _, _, _, _, _, c31⟩ := H1.out.cells
  have f31 := H1.out.frozen 31
  have HC := Lib.hid (hc.mono (G := Over F base) (fun k _ hk => .inl hk))
  have HS := Lib.hid hsay
  have HM := Lib.hid hm2
  clear hc hsay hm2 c29
  go_wp2_with fail
  refine (see_any (H1.out.setE g) 3 at_ HFEW.out).mono ?_
  rintro e w2 ⟨rfl, hb2, v2, hr2⟩
  have hb3 := ((Below.refl base w1).setCell H.out.le _).trans hb2
  have HR2 := Lib.hid hr2
  have HB2 := Lib.hid (HC.out.trans (Over.below (F := F) hb3))
  have HM2 := Lib.hid (HM.out.keep (SameOn.of_below hb3 HFB.out))
  clear hr2 hb2 hb3 c31 f31
  go_wp2
  go_end0
  exact ⟨g, rs2, v2, rfl, HS.out, by rw [HP.out]; exact HM2.out, HB2.out, HR2.out⟩
end Go.Proofs.YtmanhikpccnfaaaGreat

/- The stepper's values. -/
namespace Go.Proofs.YtmanhikpccnfaaaGreat
open Go.RowKit

variable {w : World} {base b : Nat} {x : Stp} {evs : List Ev}

/-- What a value's function hands over. -/
def ValSt (w : World) (base b : Nat) (x : Stp) (evs : List Ev) (p : St × Nat) (e : Ending) (w' : World) : Prop := e = .returned (.int .u64 (p.2 : Nat)) ∧ Below base w w' ∧ Run w' base b { x with st := p.1 } evs
theorem ValSt.here (h : Run w base b x evs) (r : Nat) : ValSt w base b x evs (x.st, r) (.returned (.int .u64 r)) w := ⟨rfl, Below.refl _ _, h⟩

theorem ite_lt {c : Bool} {a b n : Nat} (ha : a < n) (hb : b < n) : (if c then a else b) < n := by cases c <;> assumption

theorem val_and (d bb : Nat) (hd : d < 18446744073709551616) (hb : bb < 18446744073709551616) : Go.bits .and .u64 (d : Int) (bb : Int) = ((d &&& bb : Nat) : Int) := bits_and_u64_nat d bb hd hb
theorem val_or (d bb : Nat) (hd : d < 18446744073709551616) (hb : bb < 18446744073709551616) : Go.bits .or .u64 (d : Int) (bb : Int) = ((d ||| bb : Nat) : Int) := bits_or_u64_nat d bb hd hb
theorem val_xor (d bb : Nat) (hd : d < 18446744073709551616) (hb : bb < 18446744073709551616) : Go.bits .xor .u64 (d : Int) (bb : Int) = ((d ^^^ bb : Nat) : Int) := bits_xor_u64_nat d bb hd hb

set_option linter.unusedVariables false in
theorem val1 (h : Run w base b x evs) (d bb : Nat) (hd : d < 18446744073709551616) (hb : bb < 18446744073709551616) :
    Calls Tryz.prog 84 #[.pointer (some ⟨b, 0, none⟩), .int .u64 d, .int .u64 bb] w (ValSt w base b x evs (x.st, bb)) := by
  have H := Lib.hid h
  clear h
  go_enter Tryz.func84, Tryz.ntmps84
  go_wp2
  go_ret
  exact ValSt.here H.out bb

set_option linter.unusedVariables false in
set_option maxRecDepth 100000 in
theorem val2 (h : Run w base b x evs) (d bb : Nat) (hd : d < 18446744073709551616) (hb : bb < 18446744073709551616) :
    Calls Tryz.prog 85 #[.pointer (some ⟨b, 0, none⟩), .int .u64 d, .int .u64 bb] w (ValSt w base b x evs (valueF.sumS x.st d bb false)) := by
  have HC := Lib.hid (sum_any h d bb false hd hb)
  obtain ⟨_, c17, c18, c19, _⟩ := h.cells
  have e1 := val_and d bb hd hb
  have e2 := val_or d bb hd hb
  have e3 := val_xor d bb hd hb
  clear h
  go_enter Tryz.func85, Tryz.ntmps85
  go_wp2_with fail
  refine HC.out.mono ?_
  rintro e w1 ⟨rfl, hb1, hr1⟩
  have HR := Lib.hid (show ValSt w base b x evs (valueF.sumS x.st d bb false) (.returned (.int .u64 ((valueF.sumS x.st d bb false : St × Nat).2 : Nat))) w1 from ⟨rfl, hb1, hr1⟩)
  clear hb1 hr1 e1 e2 e3
  go_wp2
  go_ret
  exact HR.out

set_option linter.unusedVariables false in
set_option maxRecDepth 100000 in
theorem val4 (h : Run w base b x evs) (d bb : Nat) (hd : d < 18446744073709551616) (hb : bb < 18446744073709551616) :
    Calls Tryz.prog 88 #[.pointer (some ⟨b, 0, none⟩), .int .u64 d, .int .u64 bb] w (ValSt w base b x evs (valueF.restS x.st d bb false)) := by
  have HC := Lib.hid (rest_any h d bb false hd hb)
  obtain ⟨_, c17, c18, c19, _⟩ := h.cells
  have e1 := val_and d bb hd hb
  have e2 := val_or d bb hd hb
  have e3 := val_xor d bb hd hb
  clear h
  go_enter Tryz.func88, Tryz.ntmps88
  go_wp2_with fail
  refine HC.out.mono ?_
  rintro e w1 ⟨rfl, hb1, hr1⟩
  have HR := Lib.hid (show ValSt w base b x evs (valueF.restS x.st d bb false) (.returned (.int .u64 ((valueF.restS x.st d bb false : St × Nat).2 : Nat))) w1 from ⟨rfl, hb1, hr1⟩)
  clear hb1 hr1 e1 e2 e3
  go_wp2
  go_ret
  exact HR.out

set_option linter.unusedVariables false in
set_option maxRecDepth 100000 in
theorem val6 (h : Run w base b x evs) (d bb : Nat) (hd : d < 18446744073709551616) (hb : bb < 18446744073709551616) :
    Calls Tryz.prog 91 #[.pointer (some ⟨b, 0, none⟩), .int .u64 d, .int .u64 bb] w (ValSt w base b x evs (valueF.plainS x.st (d &&& bb))) := by
  have HC := Lib.hid (plain_any h (d &&& bb))
  obtain ⟨_, c17, c18, c19, _⟩ := h.cells
  have e1 := val_and d bb hd hb
  have e2 := val_or d bb hd hb
  have e3 := val_xor d bb hd hb
  clear h
  go_enter Tryz.func91, Tryz.ntmps91
  go_wp2_with fail
  refine HC.out.mono ?_
  rintro e w1 ⟨rfl, hb1, hr1⟩
  have HR := Lib.hid (show ValSt w base b x evs (valueF.plainS x.st (d &&& bb)) (.returned (.int .u64 ((valueF.plainS x.st (d &&& bb) : St × Nat).2 : Nat))) w1 from ⟨rfl, hb1, hr1⟩)
  clear hb1 hr1 e1 e2 e3
  go_wp2
  go_ret
  exact HR.out

set_option linter.unusedVariables false in
set_option maxRecDepth 100000 in
theorem val7 (h : Run w base b x evs) (d bb : Nat) (hd : d < 18446744073709551616) (hb : bb < 18446744073709551616) :
    Calls Tryz.prog 93 #[.pointer (some ⟨b, 0, none⟩), .int .u64 d, .int .u64 bb] w (ValSt w base b x evs (valueF.plainS x.st (d ||| bb))) := by
  have HC := Lib.hid (plain_any h (d ||| bb))
  obtain ⟨_, c17, c18, c19, _⟩ := h.cells
  have e1 := val_and d bb hd hb
  have e2 := val_or d bb hd hb
  have e3 := val_xor d bb hd hb
  clear h
  go_enter Tryz.func93, Tryz.ntmps93
  go_wp2_with fail
  refine HC.out.mono ?_
  rintro e w1 ⟨rfl, hb1, hr1⟩
  have HR := Lib.hid (show ValSt w base b x evs (valueF.plainS x.st (d ||| bb)) (.returned (.int .u64 ((valueF.plainS x.st (d ||| bb) : St × Nat).2 : Nat))) w1 from ⟨rfl, hb1, hr1⟩)
  clear hb1 hr1 e1 e2 e3
  go_wp2
  go_ret
  exact HR.out

set_option linter.unusedVariables false in
set_option maxRecDepth 100000 in
theorem val8 (h : Run w base b x evs) (d bb : Nat) (hd : d < 18446744073709551616) (hb : bb < 18446744073709551616) :
    Calls Tryz.prog 94 #[.pointer (some ⟨b, 0, none⟩), .int .u64 d, .int .u64 bb] w (ValSt w base b x evs (valueF.plainS x.st (d ^^^ bb))) := by
  have HC := Lib.hid (plain_any h (d ^^^ bb))
  obtain ⟨_, c17, c18, c19, _⟩ := h.cells
  have e1 := val_and d bb hd hb
  have e2 := val_or d bb hd hb
  have e3 := val_xor d bb hd hb
  clear h
  go_enter Tryz.func94, Tryz.ntmps94
  go_wp2_with fail
  refine HC.out.mono ?_
  rintro e w1 ⟨rfl, hb1, hr1⟩
  have HR := Lib.hid (show ValSt w base b x evs (valueF.plainS x.st (d ^^^ bb)) (.returned (.int .u64 ((valueF.plainS x.st (d ^^^ bb) : St × Nat).2 : Nat))) w1 from ⟨rfl, hb1, hr1⟩)
  clear hb1 hr1 e1 e2 e3
  go_wp2
  go_ret
  exact HR.out

set_option linter.unusedVariables false in
set_option maxRecDepth 100000 in
theorem val9 (h : Run w base b x evs) (d bb : Nat) (hd : d < 18446744073709551616) (hb : bb < 18446744073709551616) :
    Calls Tryz.prog 95 #[.pointer (some ⟨b, 0, none⟩), .int .u64 d, .int .u64 bb] w (ValSt w base b x evs (valueF.restS x.st 0 d false)) := by
  have HC := Lib.hid (rest_any h 0 d false (by decide) hd)
  obtain ⟨_, c17, c18, c19, _⟩ := h.cells
  have e1 := val_and d bb hd hb
  have e2 := val_or d bb hd hb
  have e3 := val_xor d bb hd hb
  clear h
  go_enter Tryz.func95, Tryz.ntmps95
  go_wp2_with fail
  refine HC.out.mono ?_
  rintro e w1 ⟨rfl, hb1, hr1⟩
  have HR := Lib.hid (show ValSt w base b x evs (valueF.restS x.st 0 d false) (.returned (.int .u64 ((valueF.restS x.st 0 d false : St × Nat).2 : Nat))) w1 from ⟨rfl, hb1, hr1⟩)
  clear hb1 hr1 e1 e2 e3
  go_wp2
  go_ret
  exact HR.out

set_option linter.unusedVariables false in
set_option maxRecDepth 100000 in
theorem val3 (h : Run w base b x evs) (d bb : Nat) (hd : d < 18446744073709551616) (hb : bb < 18446744073709551616) :
    Calls Tryz.prog 87 #[.pointer (some ⟨b, 0, none⟩), .int .u64 d, .int .u64 bb] w (ValSt w base b x evs (valueF.sumS x.st d bb x.st.cf)) := by
  have HC := Lib.hid (sum_any h d bb x.st.cf hd hb)
  obtain ⟨_, c17, c18, c19, _⟩ := h.cells
  have e1 := val_and d bb hd hb
  have e2 := val_or d bb hd hb
  have e3 := val_xor d bb hd hb
  clear h
  go_enter Tryz.func87, Tryz.ntmps87
  go_wp2_with fail
  refine HC.out.mono ?_
  rintro e w1 ⟨rfl, hb1, hr1⟩
  have HR := Lib.hid (show ValSt w base b x evs (valueF.sumS x.st d bb x.st.cf) (.returned (.int .u64 ((valueF.sumS x.st d bb x.st.cf : St × Nat).2 : Nat))) w1 from ⟨rfl, hb1, hr1⟩)
  clear hb1 hr1 e1 e2 e3
  go_wp2
  go_ret
  exact HR.out

set_option linter.unusedVariables false in
set_option maxRecDepth 100000 in
theorem val5 (h : Run w base b x evs) (d bb : Nat) (hd : d < 18446744073709551616) (hb : bb < 18446744073709551616) :
    Calls Tryz.prog 90 #[.pointer (some ⟨b, 0, none⟩), .int .u64 d, .int .u64 bb] w (ValSt w base b x evs (valueF.restS x.st d bb x.st.cf)) := by
  have HC := Lib.hid (rest_any h d bb x.st.cf hd hb)
  obtain ⟨_, c17, c18, c19, _⟩ := h.cells
  have e1 := val_and d bb hd hb
  have e2 := val_or d bb hd hb
  have e3 := val_xor d bb hd hb
  clear h
  go_enter Tryz.func90, Tryz.ntmps90
  go_wp2_with fail
  refine HC.out.mono ?_
  rintro e w1 ⟨rfl, hb1, hr1⟩
  have HR := Lib.hid (show ValSt w base b x evs (valueF.restS x.st d bb x.st.cf) (.returned (.int .u64 ((valueF.restS x.st d bb x.st.cf : St × Nat).2 : Nat))) w1 from ⟨rfl, hb1, hr1⟩)
  clear hb1 hr1 e1 e2 e3
  go_wp2
  go_ret
  exact HR.out

set_option linter.unusedVariables false in
set_option maxRecDepth 100000 in
theorem val13 (h : Run w base b x evs) (d bb : Nat) (hd : d < 18446744073709551616) (hb : bb < 18446744073709551616) :
    Calls Tryz.prog 100 #[.pointer (some ⟨b, 0, none⟩), .int .u64 d, .int .u64 bb] w (ValSt w base b x evs (({ x.st with cf := (addF d bb x.st.cf).2 }, (addF d bb x.st.cf).1))) := by
  have HC := Lib.hid (chainC_any h d bb hd hb)
  obtain ⟨_, c17, c18, c19, _⟩ := h.cells
  have e1 := val_and d bb hd hb
  have e2 := val_or d bb hd hb
  have e3 := val_xor d bb hd hb
  clear h
  go_enter Tryz.func100, Tryz.ntmps100
  go_wp2_with fail
  refine HC.out.mono ?_
  rintro e w1 ⟨rfl, hb1, hr1⟩
  have HR := Lib.hid (show ValSt w base b x evs (({ x.st with cf := (addF d bb x.st.cf).2 }, (addF d bb x.st.cf).1)) (.returned (.int .u64 ((({ x.st with cf := (addF d bb x.st.cf).2 }, (addF d bb x.st.cf).1) : St × Nat).2 : Nat))) w1 from ⟨rfl, hb1, hr1⟩)
  clear hb1 hr1 e1 e2 e3
  go_wp2
  go_ret
  exact HR.out

set_option linter.unusedVariables false in
set_option maxRecDepth 100000 in
theorem val14 (h : Run w base b x evs) (d bb : Nat) (hd : d < 18446744073709551616) (hb : bb < 18446744073709551616) :
    Calls Tryz.prog 102 #[.pointer (some ⟨b, 0, none⟩), .int .u64 d, .int .u64 bb] w (ValSt w base b x evs (({ x.st with of_ := (addF d bb x.st.of_).2 }, (addF d bb x.st.of_).1))) := by
  have HC := Lib.hid (chainO_any h d bb hd hb)
  obtain ⟨_, c17, c18, c19, _⟩ := h.cells
  have e1 := val_and d bb hd hb
  have e2 := val_or d bb hd hb
  have e3 := val_xor d bb hd hb
  clear h
  go_enter Tryz.func102, Tryz.ntmps102
  go_wp2_with fail
  refine HC.out.mono ?_
  rintro e w1 ⟨rfl, hb1, hr1⟩
  have HR := Lib.hid (show ValSt w base b x evs (({ x.st with of_ := (addF d bb x.st.of_).2 }, (addF d bb x.st.of_).1)) (.returned (.int .u64 ((({ x.st with of_ := (addF d bb x.st.of_).2 }, (addF d bb x.st.of_).1) : St × Nat).2 : Nat))) w1 from ⟨rfl, hb1, hr1⟩)
  clear hb1 hr1 e1 e2 e3
  go_wp2
  go_ret
  exact HR.out

set_option linter.unusedVariables false in
set_option maxRecDepth 100000 in
theorem val10 (h : Run w base b x evs) (d bb : Nat) (hd : d < 18446744073709551616) (hb : bb < 18446744073709551616) :
    Calls Tryz.prog 96 #[.pointer (some ⟨b, 0, none⟩), .int .u64 d, .int .u64 bb] w (ValSt w base b x evs (x.st, 18446744073709551615 - d)) := by
  have H := Lib.hid h
  have hx : Go.bits .xor .u64 IntKind.u64.max (d : Int) = ((18446744073709551615 - d : Nat) : Int) := by
    have h1 := bits_xor_u64_nat 18446744073709551615 d (by decide) hd
    rw [show ((18446744073709551615 : Nat) : Int) = IntKind.u64.max from rfl] at h1
    rw [h1]
    congr 1
    refine Nat.eq_of_testBit_eq fun i => ?_
    have h2 := Nat.testBit_two_pow_sub_succ (n := 64) (x := d) hd i
    have h3 := Nat.testBit_two_pow_sub_one 64 i
    rw [show (2 : Nat) ^ 64 - (d + 1) = 18446744073709551615 - d by omega] at h2
    rw [show (2 : Nat) ^ 64 - 1 = 18446744073709551615 from rfl] at h3
    rw [Nat.testBit_xor, h2, h3]
    by_cases hi : i < 64
    · simp [hi]
    · have h4 : d.testBit i = false := Nat.testBit_lt_two_pow (Nat.lt_of_lt_of_le hd (Nat.pow_le_pow_right (n := 2) (by decide) (by omega : 64 ≤ i)))
      simp [hi, h4]
  have hsg : IntKind.u64.signed = false := rfl
  clear h
  go_enter Tryz.func96, Tryz.ntmps96
  go_wp2
  go_ret
  exact ValSt.here H.out _

set_option linter.unusedVariables false in
set_option maxRecDepth 100000 in
theorem val11 (h : Run w base b x evs) (d bb : Nat) (hd : d < 18446744073709551616) (hb1 : 1 ≤ bb) (hb2 : bb ≤ 63) :
    Calls Tryz.prog 97 #[.pointer (some ⟨b, 0, none⟩), .int .u64 d, .int .u64 bb] w (ValSt w base b x evs (valueF.shiftS x.st (d * 2 ^ bb % 18446744073709551616) (d / 2 ^ (64 - bb)))) := by
  have hbit : d / 2 ^ (64 - bb) < 18446744073709551616 := Nat.lt_of_le_of_lt (Nat.div_le_self _ _) hd
  have HC := Lib.hid (shift_any h (d * 2 ^ bb % 18446744073709551616) (d / 2 ^ (64 - bb)) hbit)
  have e1 : IntKind.u64.wrap ((d : Int) * 2 ^ bb) = ((d * 2 ^ bb % 18446744073709551616 : Nat) : Int) := by rw [wrapU']; simp
  have e2 : (d : Int) / 2 ^ (64 - bb) = ((d / 2 ^ (64 - bb) : Nat) : Int) := by simp
  have e3 : (d : Int) / 2 ^ bb = ((d / 2 ^ bb : Nat) : Int) := by simp
  have e4 : (d : Int) / 2 ^ (bb - 1) = ((d / 2 ^ (bb - 1) : Nat) : Int) := by simp
  generalize d * 2 ^ bb % 18446744073709551616 = q1 at *
  generalize d / 2 ^ (64 - bb) = q2 at *
  generalize d / 2 ^ bb = q3 at *
  generalize d / 2 ^ (bb - 1) = q4 at *
  clear h hbit
  go_enter Tryz.func97, Tryz.ntmps97
  go_wp2_with fail
  refine HC.out.mono ?_
  rintro e w1 ⟨rfl, hb1', hr1⟩
  have HR := Lib.hid (And.intro hb1' hr1)
  clear hb1' hr1
  go_wp2
  go_ret
  exact ⟨rfl, HR.out.1, HR.out.2⟩

set_option linter.unusedVariables false in
set_option maxRecDepth 100000 in
theorem val12 (h : Run w base b x evs) (d bb : Nat) (hd : d < 18446744073709551616) (hb1 : 1 ≤ bb) (hb2 : bb ≤ 63) :
    Calls Tryz.prog 99 #[.pointer (some ⟨b, 0, none⟩), .int .u64 d, .int .u64 bb] w (ValSt w base b x evs (valueF.shiftS x.st (d / 2 ^ bb) (d / 2 ^ (bb - 1)))) := by
  have hbit : d / 2 ^ (bb - 1) < 18446744073709551616 := Nat.lt_of_le_of_lt (Nat.div_le_self _ _) hd
  have HC := Lib.hid (shift_any h (d / 2 ^ bb) (d / 2 ^ (bb - 1)) hbit)
  have e1 : IntKind.u64.wrap ((d : Int) * 2 ^ bb) = ((d * 2 ^ bb % 18446744073709551616 : Nat) : Int) := by rw [wrapU']; simp
  have e2 : (d : Int) / 2 ^ (64 - bb) = ((d / 2 ^ (64 - bb) : Nat) : Int) := by simp
  have e3 : (d : Int) / 2 ^ bb = ((d / 2 ^ bb : Nat) : Int) := by simp
  have e4 : (d : Int) / 2 ^ (bb - 1) = ((d / 2 ^ (bb - 1) : Nat) : Int) := by simp
  generalize d * 2 ^ bb % 18446744073709551616 = q1 at *
  generalize d / 2 ^ (64 - bb) = q2 at *
  generalize d / 2 ^ bb = q3 at *
  generalize d / 2 ^ (bb - 1) = q4 at *
  clear h hbit
  go_enter Tryz.func99, Tryz.ntmps99
  go_wp2_with fail
  refine HC.out.mono ?_
  rintro e w1 ⟨rfl, hb1', hr1⟩
  have HR := Lib.hid (And.intro hb1' hr1)
  clear hb1' hr1
  go_wp2
  go_ret
  exact ⟨rfl, HR.out.1, HR.out.2⟩

set_option linter.unusedVariables false in
set_option maxRecDepth 100000 in
theorem val15 (h : Run w base b x evs) (d bb : Nat) (hd : d < 18446744073709551616) (hb : bb < 18446744073709551616) :
    Calls Tryz.prog 103 #[.pointer (some ⟨b, 0, none⟩), .int .u64 d, .int .u64 bb] w (ValSt w base b x evs (x.st, if x.st.cf then bb else d)) := by
  have HC := Lib.hid (pick_any (x.st.cf) bb d w)
  have H := Lib.hid h
  obtain ⟨_, c17, c18, c19, _⟩ := h.cells
  have HR := Lib.hid (ValSt.here h (if x.st.cf then bb else d))
  generalize (if x.st.cf then bb else d) = q at *
  clear h
  go_enter Tryz.func103, Tryz.ntmps103
  go_wp2_with fail
  refine HC.out.mono ?_
  rintro e w1 ⟨rfl, rfl⟩
  go_wp2
  go_ret
  exact HR.out

set_option linter.unusedVariables false in
set_option maxRecDepth 100000 in
theorem val16 (h : Run w base b x evs) (d bb : Nat) (hd : d < 18446744073709551616) (hb : bb < 18446744073709551616) :
    Calls Tryz.prog 105 #[.pointer (some ⟨b, 0, none⟩), .int .u64 d, .int .u64 bb] w (ValSt w base b x evs (x.st, if !x.st.zf then bb else d)) := by
  have HC := Lib.hid (pick_any (!x.st.zf) bb d w)
  have H := Lib.hid h
  obtain ⟨_, c17, c18, c19, _⟩ := h.cells
  have HR := Lib.hid (ValSt.here h (if !x.st.zf then bb else d))
  generalize (if !x.st.zf then bb else d) = q at *
  clear h
  go_enter Tryz.func105, Tryz.ntmps105
  go_wp2_with fail
  refine HC.out.mono ?_
  rintro e w1 ⟨rfl, rfl⟩
  go_wp2
  go_ret
  exact HR.out

theorem val15q (h : Run w base b x evs) (d bb : Nat) (hd : d < 18446744073709551616) (hb : bb < 18446744073709551616) (q : Nat) (hq : q = if x.st.cf then bb else d) :
    Calls Tryz.prog 103 #[.pointer (some ⟨b, 0, none⟩), .int .u64 d, .int .u64 bb] w (ValSt w base b x evs (x.st, q)) := by
  subst hq; exact val15 h d bb hd hb

theorem val16q (h : Run w base b x evs) (d bb : Nat) (hd : d < 18446744073709551616) (hb : bb < 18446744073709551616) (q : Nat) (hq : q = if !x.st.zf then bb else d) :
    Calls Tryz.prog 105 #[.pointer (some ⟨b, 0, none⟩), .int .u64 d, .int .u64 bb] w (ValSt w base b x evs (x.st, q)) := by
  subst hq; exact val16 h d bb hd hb

end Go.Proofs.YtmanhikpccnfaaaGreat

/- Address; the stepper's pop and jump. -/
namespace Go.Proofs.YtmanhikpccnfaaaGreat
open Go.RowKit

variable {w : World} {base b : Nat} {x : Stp} {evs : List Ev} {F : Nat → Prop} {rs : List Reg}

theorem wrap_u64 (z : Int) : IntKind.u64.wrap z = ((u64 z : Nat) : Int) := by
  rw [wrapU']; unfold u64; omega
theorem u64_lt (z : Int) : u64 z < 18446744073709551616 := by unfold u64; omega

theorem Calls.below {k : Nat} {args : Array Value} {w : World} {v : Value} (h : Calls Tryz.prog k args w fun e w' => e = .returned v ∧ w = w') : Calls Tryz.prog k args w fun e w' => e = .returned v ∧ Below w.heap.size w w' :=
  h.mono fun _ _ ⟨h1, h2⟩ => ⟨h1, by rw [← h2]; exact Below.refl _ _⟩

/-- A state in a block of its own. -/
def StAt (w : World) (g : Nat) (s : St) : Prop := w.heap[g]? = some (.cells (stRow s).toArray 25 (0, 0)) ∧ StOk s
theorem StAt.reg {g : Nat} {s : St} (h : StAt w g s) {k r : Nat} (hr : s.regs[k]? = some r) : w.cell? ⟨g, k, none⟩ = some (.int .u64 r) := by
  have hk := (List.getElem?_eq_some_iff.1 hr).1
  simp only [World.cell?, h.1, List.getElem?_toArray]
  rw [stRow, List.getElem?_append_left (by simpa using hk), List.getElem?_map, hr]; rfl

set_option maxHeartbeats 400000 in
theorem of_any (w : World) (g : Nat) (s : St) (h : StAt w g s) (r : Int) :
    Calls Tryz.prog 48 #[.int .i64 r, .pointer (some ⟨g, 0, none⟩)] w fun e w' => e = .returned (.int .u64 (regF s r)) ∧ w = w' := by
  by_cases h0 : r < 0
  · have e1 : regF s r = 0 := by simp [regF, ugly, h0]
    have d1 : decide (r < 0) = true := by simpa using h0
    rw [e1]
    clear h h0 e1
    go_enter Tryz.func48, Tryz.ntmps48
    go_wp2
    go_ret
    exact ⟨rfl, rfl⟩
  · have d1 : decide (r < 0) = false := by simpa using h0
    by_cases h1 : 16 ≤ r
    · have e1 : regF s r = 0 := by simp [regF, ugly]; omega
      have d2 : decide (16 ≤ r) = true := by simpa using h1
      rw [e1]
      clear h h0 h1 e1
      go_enter Tryz.func48, Tryz.ntmps48
      go_wp2
      go_ret
      exact ⟨rfl, rfl⟩
    · have d2 : decide (16 ≤ r) = false := by simpa using h1
      obtain ⟨k, rfl⟩ : ∃ k : Nat, r = k := ⟨r.toNat, by omega⟩
      obtain ⟨v, hv⟩ : ∃ v, s.regs[k]? = some v := ⟨_, List.getElem?_eq_getElem (by rw [h.2.len]; omega)⟩
      have e1 : regF s k = v := by
        have : ugly (k : Int) = false := by simp [ugly]; omega
        simp [regF, this, hv]
      have c := h.reg hv
      have i0 : (0 : Int) ≤ (k : Int) := by omega
      have i1 : (k : Int) < 16 := by omega
      rw [e1]
      clear h h0 h1 e1 hv
      go_enter Tryz.func48, Tryz.ntmps48
      go_wp2
      go_ret
      exact ⟨rfl, rfl⟩

theorem stAt_new (w : World) (s : St) (h : StOk s) : StAt (w.alloc (.cells (stRow s).toArray 25)) w.heap.size s := ⟨heap_alloc_new w _, h⟩

theorem regF_lt {s : St} (h : StOk s) (r : Int) : regF s r < 18446744073709551616 := by
  unfold regF
  split
  · decide
  · rcases Nat.lt_or_ge r.toNat s.regs.length with hl | hl
    · rw [List.getD_eq_getElem?_getD, List.getElem?_eq_getElem hl]; exact h.regs _ (List.getElem_mem hl)
    · rw [List.getD_eq_getElem?_getD, List.getElem?_eq_none hl]; decide

set_option maxRecDepth 100000 in
set_option maxHeartbeats 800000 in
theorem Address_any (s : St) (i : Ins) (h : StOk s) (w : World) :
    Calls Tryz.prog 23 #[.agg (stRow s).toArray, .agg #[.int .i64 i.base, .int .i64 i.index, .int .i64 i.scale, .int .i64 i.disp]] w fun e w' => e = .returned (.int .u64 (addrF s i)) ∧ Below w.heap.size w w' := by
  have hmf : ∀ (fn : Fn) (first cap : Array Value) (w : World), (Instr.makeFunc fn first cap).run Tryz.prog w = .ok (.func fn first cap) w := fun _ _ _ _ => rfl
  obtain ⟨W1, hW1, hb1, hs1, _, _⟩ := boxed w (stRow s).toArray 25
  have hst : StAt W1 w.heap.size s := by rw [hW1]; exact stAt_new w s h
  obtain ⟨W2, hW2, hb2, hs2, hn2, _⟩ := boxed W1 #[.int .i64 i.base, .int .i64 i.index, .int .i64 i.scale, .int .i64 i.disp] 27
  have n0 := hn2 0
  have n1 := hn2 1
  have n2 := hn2 2
  have n3 := hn2 3
  have m0 : W1.heap.size < W2.heap.size := by omega
  have hst2 : StAt W2 w.heap.size s := ⟨(hb2.block _ (by omega)).trans hst.1, hst.2⟩
  have HST := Lib.hid hst2
  have HB := Lib.hid (hb1.trans (hb2.mono (by omega)))
  have HLT := Lib.hid (show w.heap.size < W2.heap.size by omega)
  generalize hcs : (stRow s).toArray = cs at *
  have HW1 := Lib.hid hW1
  have HW2 := Lib.hid hW2
  have HS1 := Lib.hid hs1
  have a1 := regF_lt h i.base
  have a2 := regF_lt h i.index
  have u1 := wrap_u64 i.scale
  have u2 := wrap_u64 i.disp
  have e1 : IntKind.u64.wrap ((regF s i.index : Int) * (u64 i.scale : Int)) = ((regF s i.index * u64 i.scale % 18446744073709551616 : Nat) : Int) := by rw [wrapU']; simp
  generalize hq1 : regF s i.index * u64 i.scale % 18446744073709551616 = q1 at *
  have e2 : IntKind.u64.wrap ((regF s i.base : Int) + (q1 : Int)) = (((regF s i.base + q1) % 18446744073709551616 : Nat) : Int) := by rw [wrapU']; omega
  generalize hq2 : (regF s i.base + q1) % 18446744073709551616 = q2 at *
  have e3 : IntKind.u64.wrap ((q2 : Int) + (u64 i.disp : Int)) = ((addrF s i : Nat) : Int) := by
    rw [wrapU']; unfold addrF
    have h1 := Nat.add_mod (regF s i.base + regF s i.index * u64 i.scale) (u64 i.disp) 18446744073709551616
    have h2 := Nat.add_mod (regF s i.base) (regF s i.index * u64 i.scale) 18446744073709551616
    omega
  generalize hq3 : addrF s i = q3 at *
  have HB1 := Lib.hid (fun w' (hw : Below W2.heap.size W2 w') => (of_any w' w.heap.size s ⟨(hw.block _ HLT.out).trans HST.out.1, HST.out.2⟩ i.base) |> Calls.below)
  have HB2 := Lib.hid (fun w' (hw : Below W2.heap.size W2 w') => (of_any w' w.heap.size s ⟨(hw.block _ HLT.out).trans HST.out.1, HST.out.2⟩ i.index) |> Calls.below)
  generalize hr1 : regF s i.base = r1 at *
  generalize hr2 : regF s i.index = r2 at *
  generalize u64 i.scale = us at *
  generalize u64 i.disp = ud at *
  clear hq1 hq2 hq3 hW1 hW2 hs1 hs2 hn2 hb1 hb2 hst hst2 hcs hr1 hr2 h
  go_enter Tryz.func23, Tryz.ntmps23
  go_wp2
  rw [← HW1.out, ← HS1.out, ← HW2.out]
  (refine wp_region_lines (Below W2.heap.size W2) (by kernel_rfl) (by kernel_rfl) (Below.refl _ _).drew ?_)
  have hS := (Below.refl W2.heap.size W2).drew
  (try simp only [])
  repeat (first | (refine runL_no (by rfl) ?_; (try simp only [Act.put, List.setIfInBounds_toArray, List.set_cons_zero, List.set_cons_succ])) | (refine runL_val (v := ?_) (by rfl) ?_ ?_; rotate_left; (focus (intro w_ hw_; have hc_ := bcell hw_; go_simp; (try with_reducible rfl); done)); (try simp only [Act.put, List.setIfInBounds_toArray, List.set_cons_zero, List.set_cons_succ])) | (refine runL_call (f := ?_) (args := ?_) (w1 := ?_) (by rfl) (by rfl) ?_ ?_; rotate_left 3; (focus (go_simp; refine ⟨⟨?_, ?_⟩, ?_⟩ <;> with_reducible rfl)); with_reducible refine (HB1.out _ hS).mono ?_; rintro e w1 ⟨rfl, hb1⟩; replace hS := hS.trans (hb1.mono hS.size); refine ⟨_, rfl, .inr hS, ?_⟩; clear hb1; (try simp only [Act.put, List.setIfInBounds_toArray, List.set_cons_zero, List.set_cons_succ])) | (refine runL_call (f := ?_) (args := ?_) (w1 := ?_) (by rfl) (by rfl) ?_ ?_; rotate_left 3; (focus (go_simp; refine ⟨⟨?_, ?_⟩, ?_⟩ <;> with_reducible rfl)); with_reducible refine (HB2.out _ hS).mono ?_; rintro e w1 ⟨rfl, hb1⟩; replace hS := hS.trans (hb1.mono hS.size); refine ⟨_, rfl, .inr hS, ?_⟩; clear hb1; (try simp only [Act.put, List.setIfInBounds_toArray, List.set_cons_zero, List.set_cons_succ])))
  (refine runL_nil ?_)
  go_wp2
  go_ret
  exact ⟨rfl, HB.out.trans (hS.mono (Nat.le_of_lt HLT.out))⟩

theorem Run.sp {w : World} {base b : Nat} {x : Stp} {evs : List Ev} (h : Run w base b x evs) : ∃ r, x.st.regs[4]? = some r ∧ r < 18446744073709551616 := by
  have hl : 4 < x.st.regs.length := by rw [h.ok.len]; decide
  exact ⟨_, List.getElem?_eq_getElem hl, h.ok.regs _ (List.getElem_mem hl)⟩

set_option maxRecDepth 100000 in
set_option maxHeartbeats 800000 in
theorem pop_any (h : Run w base b x evs) (hm : MemAt w F x.m rs) (hF : ∀ k, F k → k < base) (sp : Nat) (hsp : x.st.regs[4]? = some sp) (hf : evs.length ≤ 90) :
    Calls Tryz.prog 70 #[.pointer (some ⟨b, 0, none⟩)] w fun e w' => e = .returned (.int .u64 ((loadVE (loadF rs sp)).1 : Nat)) ∧ Below base w w' ∧
      ∃ v, Run w' base b { x with e := (loadVE (loadF rs sp)).2, l := v, st := { x.st with regs := x.st.regs.set 4 ((sp + 8) % 18446744073709551616) } } (evs ++ [⟨2, sp⟩]) := by
  have hs64 : sp < 18446744073709551616 := h.ok.regs _ (List.mem_of_getElem? hsp)
  have HL := Lib.hid (load_any h hm hF sp hs64 hf)
  have c4 := h.reg hsp
  have HSP := Lib.hid hsp
  have w8 : IntKind.u64.wrap ((sp : Int) + 8) = (((sp + 8) % 18446744073709551616 : Nat) : Int) := by rw [wrapU']; omega
  have hlt : (sp + 8) % 18446744073709551616 < 18446744073709551616 := Nat.mod_lt _ (by decide)
  generalize (sp + 8) % 18446744073709551616 = q at *
  have HLT := Lib.hid hlt
  clear h hm hF hf hsp hlt hs64
  go_enter Tryz.func70, Tryz.ntmps70
  go_wp2_with fail
  refine HL.out.mono ?_
  rintro e w1 ⟨rfl, hb1, v, hr1⟩
  have c4' := hr1.reg HSP.out
  have f4 := hr1.frozen 4
  have HR := Lib.hid hr1
  have HB := Lib.hid hb1
  clear hb1 hr1 c4
  go_wp2
  go_region
  go_wp2
  go_ret
  exact ⟨rfl, (HB.out.setCell HR.out.le _).drew, v, (HR.out.setReg (k := 4) (by decide) HLT.out).next ((Below.refl _ _).drew)⟩

/-- A jump, if it is so. -/
def jumpS (s : St) (is : Bool) (imm : Int) : St := if is then { s with pc := (s.pc + u64 imm) % 18446744073709551616 } else s

set_option maxRecDepth 100000 in
set_option maxHeartbeats 800000 in
theorem jump_any (h : Run w base b x evs) (is : Bool) (hf : evs.length ≤ 90) :
    Calls Tryz.prog 71 #[.pointer (some ⟨b, 0, none⟩), .bool is] w fun e w' => e = .returned (.tuple #[]) ∧ Below base w w' ∧ ∃ v, Run w' base b { x with l := v, st := jumpS x.st is x.i.imm } (evs ++ [⟨4, (jumpS x.st is x.i.imm).pc⟩]) := by
  have HFEW := Lib.hid hf
  obtain ⟨c16, _, _, _, _, _, _, _, _, _, _, _, c28, _, _, _⟩ := h.cells
  cases is with
  | false =>
    have HS := Lib.hid (see_any h 4 x.st.pc hf)
    clear h hf c28
    go_enter Tryz.func71, Tryz.ntmps71
    go_wp2_with fail
    refine HS.out.mono ?_
    rintro e w1 ⟨rfl, hb1, v, hr1⟩
    have HR := Lib.hid hr1
    have HB := Lib.hid hb1
    clear hb1 hr1
    go_wp2
    go_end0
    exact ⟨rfl, HB.out, v, HR.out⟩
  | true =>
    have u1 := wrap_u64 x.i.imm
    have w1 : IntKind.u64.wrap ((x.st.pc : Int) + (u64 x.i.imm : Int)) = (((x.st.pc + u64 x.i.imm) % 18446744073709551616 : Nat) : Int) := by rw [wrapU']; omega
    have hlt : (x.st.pc + u64 x.i.imm) % 18446744073709551616 < 18446744073709551616 := Nat.mod_lt _ (by decide)
    have hj : jumpS x.st true x.i.imm = { x.st with pc := (x.st.pc + u64 x.i.imm) % 18446744073709551616 } := rfl
    rw [hj]
    generalize (x.st.pc + u64 x.i.imm) % 18446744073709551616 = q at *
    have HR := Lib.hid ((h.setPc hlt).next ((Below.refl _ _).drew))
    have f16 := h.frozen 16
    have HLE := Lib.hid h.le
    clear h hf hlt hj
    go_enter Tryz.func71, Tryz.ntmps71
    go_wp2
    go_region
    go_wp2_with fail
    refine (see_any HR.out 4 q HFEW.out).mono ?_
    rintro e w2 ⟨rfl, hb1, v, hr1⟩
    have HR2 := Lib.hid hr1
    have HB := Lib.hid ((((Below.refl _ _).setCell HLE.out _).drew).trans hb1)
    clear hb1 hr1
    go_wp2
    go_end0
    exact ⟨rfl, HB.out, v, HR2.out⟩
end Go.Proofs.YtmanhikpccnfaaaGreat
