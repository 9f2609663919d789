/- Words and steps: plain. -/
import Derived.RowKit
namespace Go.Proofs.YtmanhikpccnfaaaGreat

/-- A sum with a carry. -/
def addF (a b : Nat) (c : Bool) : Nat × Bool := ((a + b + c.toNat) % 18446744073709551616, decide (18446744073709551616 ≤ a + b + c.toNat))
/-- A difference with a borrow. -/
def subF (a b : Nat) (c : Bool) : Nat × Bool := ((18446744073709551616 + a - b - c.toNat) % 18446744073709551616, decide (a < b + c.toNat))
/-- A product. -/
def mulF (a b : Nat) : Nat × Nat := (a * b / 18446744073709551616, a * b % 18446744073709551616)
/-- The highest bit. -/
def topB (a : Nat) : Bool := decide (9223372036854775808 ≤ a)

theorem topB_bit {x : Nat} (h : x < 18446744073709551616) : topB x = x.testBit 63 := by
  rw [Nat.testBit_eq_decide_div_mod_eq]
  unfold topB
  rw [decide_eq_decide]
  have e : (2 : Nat) ^ 63 = 9223372036854775808 := rfl
  rw [e]; omega
theorem topB_div {x : Nat} (h : x < 18446744073709551616) : (x / 9223372036854775808 == 1) = topB x := by
  unfold topB
  rw [Bool.eq_iff_iff, beq_iff_eq, decide_eq_true_eq]
  omega
theorem xor_lt {x y : Nat} (h : x < 18446744073709551616) (h' : y < 18446744073709551616) : x ^^^ y < 18446744073709551616 := Nat.xor_lt_two_pow (n := 64) h h'
theorem and_lt {x y : Nat} (h : x < 18446744073709551616) : x &&& y < 18446744073709551616 := Nat.lt_of_le_of_lt Nat.and_le_left h
theorem or_lt {x y : Nat} (h : x < 18446744073709551616) (h' : y < 18446744073709551616) : x ||| y < 18446744073709551616 := Nat.or_lt_two_pow (n := 64) h h'
theorem topB_xor {x y : Nat} (h : x < 18446744073709551616) (h' : y < 18446744073709551616) : topB (x ^^^ y) = (topB x != topB y) := by
  rw [topB_bit (xor_lt h h'), topB_bit h, topB_bit h', Nat.testBit_xor]
theorem topB_and {x y : Nat} (h : x < 18446744073709551616) (h' : y < 18446744073709551616) : topB (x &&& y) = (topB x && topB y) := by
  rw [topB_bit (and_lt h), topB_bit h, topB_bit h', Nat.testBit_and]
theorem ofSum {a b r : Nat} (ha : a < 18446744073709551616) (hb : b < 18446744073709551616) (hr : r < 18446744073709551616) :
    (((a ^^^ r) &&& (b ^^^ r)) / 9223372036854775808 == 1) = ((topB a == topB b) && (topB r != topB a)) := by
  rw [topB_div (and_lt (xor_lt ha hr)), topB_and (xor_lt ha hr) (xor_lt hb hr), topB_xor ha hr, topB_xor hb hr]
  cases topB a <;> cases topB b <;> cases topB r <;> rfl
theorem ofRest {a b r : Nat} (ha : a < 18446744073709551616) (hb : b < 18446744073709551616) (hr : r < 18446744073709551616) :
    (((a ^^^ b) &&& (a ^^^ r)) / 9223372036854775808 == 1) = ((topB a != topB b) && (topB r != topB a)) := by
  rw [topB_div (and_lt (xor_lt ha hb)), topB_and (xor_lt ha hb) (xor_lt ha hr), topB_xor ha hb, topB_xor ha hr]
  cases topB a <;> cases topB b <;> cases topB r <;> rfl

/-- What Mul makes of halves is the product. -/
theorem mul_halves {a b : Nat} (_ha : a < 18446744073709551616) (_hb : b < 18446744073709551616) (x y u v m n : Nat) (hx : x = a / 4294967296) (hy : y = a % 4294967296) (hu : u = b / 4294967296) (hv : v = b % 4294967296)
    (hm : m = x * v + y * v / 4294967296) (hn : n = y * u + m % 4294967296) : x * u + m / 4294967296 + n / 4294967296 = a * b / 18446744073709551616 := by
  have h1 : a = 4294967296 * x + y := by omega
  have h2 : b = 4294967296 * u + v := by omega
  have h3 : a * b = 18446744073709551616 * (x * u) + 4294967296 * (x * v) + 4294967296 * (y * u) + y * v := by
    rw [h1, h2]
    rw [Nat.add_mul, Nat.mul_add, Nat.mul_add]
    rw [show 4294967296 * x * (4294967296 * u) = 18446744073709551616 * (x * u) by
      rw [Nat.mul_mul_mul_comm], show 4294967296 * x * v = 4294967296 * (x * v) from Nat.mul_assoc .., show y * (4294967296 * u) = 4294967296 * (y * u) from Nat.mul_left_comm ..]
    omega
  generalize x * u = xu at *
  generalize x * v = xv at *
  generalize y * u = yu at *
  generalize y * v = yv at *
  omega

theorem addF_lt (a b : Nat) (c : Bool) : (addF a b c).1 < 18446744073709551616 := Nat.mod_lt _ (by decide)
theorem subF_lt (a b : Nat) (c : Bool) : (subF a b c).1 < 18446744073709551616 := Nat.mod_lt _ (by decide)

/-- The registers, the place, the flags. -/
structure St where
  regs : List Nat
  pc : Nat
  cf : Bool
  of_ : Bool
  zf : Bool
/-- The registers are 16 words, the place is one. -/
structure StOk (s : St) : Prop where
  len : s.regs.length = 16
  regs : ∀ r ∈ s.regs, r < 18446744073709551616
  pc : s.pc < 18446744073709551616
/-- An instruction. -/
structure Ins where
  op : Int
  d : Int
  s : Int
  t : Int
  base : Int
  index : Int
  scale : Int
  disp : Int
  imm : Int

def ugly (r : Int) : Bool := decide (r < 0) || decide (15 < r)
def regOk (r : Int) : Bool := decide (0 ≤ r) && decide (r ≤ 15)
def smallI (n : Int) : Bool := decide (-2147483648 ≤ n) && decide (n ≤ 2147483647)
def placeOk (i : Ins) : Bool := (regOk i.base && smallI i.disp) && (if i.index = -1 then decide (i.scale = 1) else (regOk i.index && decide (i.index ≠ 4)) && (decide (i.scale = 1) || decide (i.scale = 2) || decide (i.scale = 4) || decide (i.scale = 8)))
def noPlace (i : Ins) : Bool := decide (i.base = 0) && decide (i.index = 0) && decide (i.scale = 0) && decide (i.disp = 0)

/-- What an operation has: D, S, T, M, and its number: 0 none, 1 of 32 bits, 2 any, 3 of 1 to 63. -/
def formI (op : Int) : Option (Bool × Bool × Bool × Bool × Nat) :=
  if op = 1 ∨ (6 ≤ op ∧ op ≤ 14) ∨ op = 20 ∨ op = 21 ∨ op = 26 ∨ op = 27 then some (true, true, false, false, 0)
  else if op = 2 then some (true, false, false, false, 2)
  else if op = 3 ∨ op = 5 then some (true, false, false, true, 0)
  else if op = 4 then some (false, true, false, true, 0)
  else if 15 ≤ op ∧ op ≤ 18 then some (true, false, false, false, 1)
  else if op = 19 then some (true, true, true, false, 0)
  else if op = 22 ∨ op = 23 ∨ op = 29 then some (true, false, false, false, 0)
  else if op = 24 ∨ op = 25 then some (true, false, false, false, 3)
  else if op = 28 then some (false, true, false, false, 0)
  else if op = 30 ∨ op = 31 ∨ op = 32 then some (false, false, false, false, 1)
  else if op = 33 then some (false, false, false, false, 0)
  else none

def hasOk (has : Bool) (r : Int) : Bool := if has then regOk r else decide (r = 0)
def immOk (k : Nat) (n : Int) : Bool := match k with | 0 => decide (n = 0) | 1 => smallI n | 2 => true | _ => decide (1 ≤ n) && decide (n ≤ 63)
/-- May it be? -/
def chkI (i : Ins) : Bool := match formI i.op with
  | none => false
  | some (hd, hs, ht, hm, k) => (hasOk hd i.d && hasOk hs i.s && hasOk ht i.t) && (if hm then placeOk i else noPlace i) && (!ht || decide (i.d ≠ i.s)) && immOk k i.imm

/-- What an operation over D, and S or a number, makes, with its flags. -/
def valueF (s : St) (op : Int) (d b : Nat) : Option (St × Nat) :=
  if op = 1 ∨ op = 2 then some (s, b)
  else if op = 6 ∨ op = 15 then some (sumS s d b false)
  else if op = 7 then some (sumS s d b s.cf)
  else if op = 8 ∨ op = 17 ∨ op = 13 ∨ op = 18 then some (restS s d b false)
  else if op = 9 then some (restS s d b s.cf)
  else if op = 10 ∨ op = 16 ∨ op = 14 then some (plainS s (d &&& b))
  else if op = 11 then some (plainS s (d ||| b))
  else if op = 12 then some (plainS s (d ^^^ b))
  else if op = 22 then some (restS s 0 d false)
  else if op = 23 then some (s, 18446744073709551615 - d)
  else if op = 24 then some (shiftS s (d * 2 ^ b % 18446744073709551616) (d / 2 ^ (64 - b)))
  else if op = 25 then some (shiftS s (d / 2 ^ b) (d / 2 ^ (b - 1)))
  else if op = 20 then some ({ s with cf := (addF d b s.cf).2 }, (addF d b s.cf).1)
  else if op = 21 then some ({ s with of_ := (addF d b s.of_).2 }, (addF d b s.of_).1)
  else if op = 26 then some (s, if s.cf then b else d)
  else if op = 27 then some (s, if s.zf then d else b)
  else none
where
  sumS (s : St) (a b : Nat) (c : Bool) : St × Nat :=
    let r := (addF a b c).1
    ({ s with cf := (addF a b c).2, of_ := (topB a == topB b) && (topB r != topB a), zf := r == 0 }, r)
  restS (s : St) (a b : Nat) (c : Bool) : St × Nat :=
    let r := (subF a b c).1
    ({ s with cf := (subF a b c).2, of_ := (topB a != topB b) && (topB r != topB a), zf := r == 0 }, r)
  plainS (s : St) (r : Nat) : St × Nat := ({ s with cf := false, of_ := false, zf := r == 0 }, r)
  shiftS (s : St) (r bit : Nat) : St × Nat := ({ s with cf := bit % 2 == 1, zf := r == 0 }, r)

def regF (s : St) (r : Int) : Nat := if ugly r then 0 else s.regs.getD r.toNat 0
def u64 (z : Int) : Nat := (z % 18446744073709551616).toNat
/-- The address of a place. -/
def addrF (s : St) (i : Ins) : Nat := (regF s i.base + regF s i.index * u64 i.scale + u64 i.disp) % 18446744073709551616
end Go.Proofs.YtmanhikpccnfaaaGreat
