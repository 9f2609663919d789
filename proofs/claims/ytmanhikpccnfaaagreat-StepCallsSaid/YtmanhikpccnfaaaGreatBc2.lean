/- word.Add, Sub, Mul, and the reference's. -/
import Derived.Test.YtmanhikpccnfaaaGreatBc1
import Derived.Laws.Bits64
import Derived.Laws.Bits64b
import Derived.Outline
import Derived.Deep.DeepCutAuto
import Derived.Maps.AppendAt
namespace Go.Proofs.YtmanhikpccnfaaaGreat
open Go.RowKit

theorem wrapU' (x : Int) : IntKind.u64.wrap x = x % 18446744073709551616 := by simp [IntKind.wrap, IntKind.bits, IntKind.signed]

set_option maxHeartbeats 400000 in
theorem Add_any (a b : Nat) (c : Bool) (w : World) (ha : a < 18446744073709551616) (hb : b < 18446744073709551616) :
    Calls Tryz.prog 121 #[.int .u64 a, .int .u64 b, .bool c] w fun e w' => e = .returned (.tuple #[.int .u64 ((addF a b c).1 : Nat), .bool (addF a b c).2]) ∧ w = w' := by
  obtain ⟨s, hs⟩ : ∃ s : Nat, s = (a + b) % 18446744073709551616 := ⟨_, rfl⟩
  have e1 : IntKind.u64.wrap ((a : Int) + (b : Int)) = (s : Int) := by rw [wrapU']; omega
  cases c with
  | false =>
    have h1 : addF a b false = (s, decide (s < a)) := by simp only [addF, Bool.toNat_false, Nat.add_zero, ← hs, Prod.mk.injEq, true_and, decide_eq_decide]; omega
    have H1 := Lib.hid h1
    clear h1 hs
    go_enter Tryz.func121, Tryz.ntmps121
    go_wp2
    go_ret2
    exact ⟨by rw [H1.out]; rfl, rfl⟩
  | true =>
    obtain ⟨s2, hs2⟩ : ∃ s2 : Nat, s2 = (s + 1) % 18446744073709551616 := ⟨_, rfl⟩
    have e2 : IntKind.u64.wrap ((s : Int) + 1) = (s2 : Int) := by rw [wrapU']; omega
    by_cases hlt : s < a
    · have h1 : addF a b true = (s2, true) := by simp only [addF, Bool.toNat_true, Prod.mk.injEq, decide_eq_true_eq]; omega
      have hd : decide (s < a) = true := by simpa using hlt
      have H1 := Lib.hid h1
      clear h1 hs hs2 hlt
      go_enter Tryz.func121, Tryz.ntmps121
      go_wp2
      go_ret2
      exact ⟨by rw [H1.out]; rfl, rfl⟩
    · have h1 : addF a b true = (s2, s2 == 0) := Prod.ext (by simp only [addF, Bool.toNat_true]; omega) (by simp only [addF, Bool.toNat_true]; rw [Bool.eq_iff_iff, decide_eq_true_eq, beq_iff_eq]; omega)
      have hd : decide (s < a) = false := by simpa using hlt
      have hz : ((s2 : Int) == 0) = (s2 == 0) := by rw [Bool.eq_iff_iff, beq_iff_eq, beq_iff_eq]; omega
      generalize (s2 == 0) = z at *
      have H1 := Lib.hid h1
      clear h1 hs hs2 hlt
      go_enter Tryz.func121, Tryz.ntmps121
      go_wp2
      go_ret2
      exact ⟨by rw [H1.out]; rfl, rfl⟩

set_option maxHeartbeats 400000 in
theorem RAdd_any (a b : Nat) (c : Bool) (w : World) (ha : a < 18446744073709551616) (hb : b < 18446744073709551616) :
    Calls Tryz.prog 75 #[.int .u64 a, .int .u64 b, .bool c] w fun e w' => e = .returned (.tuple #[.int .u64 ((addF a b c).1 : Nat), .bool (addF a b c).2]) ∧ w = w' := by
  obtain ⟨s, hs⟩ : ∃ s : Nat, s = (a + b) % 18446744073709551616 := ⟨_, rfl⟩
  have e1 : IntKind.u64.wrap ((a : Int) + (b : Int)) = (s : Int) := by rw [wrapU']; omega
  cases c with
  | false =>
    have h1 : addF a b false = (s, decide (s < a)) := by simp only [addF, Bool.toNat_false, Nat.add_zero, ← hs, Prod.mk.injEq, true_and, decide_eq_decide]; omega
    have H1 := Lib.hid h1
    clear h1 hs
    go_enter Tryz.func75, Tryz.ntmps75
    go_wp2
    go_ret2
    exact ⟨by rw [H1.out]; rfl, rfl⟩
  | true =>
    obtain ⟨s2, hs2⟩ : ∃ s2 : Nat, s2 = (s + 1) % 18446744073709551616 := ⟨_, rfl⟩
    have e2 : IntKind.u64.wrap ((s : Int) + 1) = (s2 : Int) := by rw [wrapU']; omega
    by_cases hlt : s < a
    · have h1 : addF a b true = (s2, true) := by simp only [addF, Bool.toNat_true, Prod.mk.injEq, decide_eq_true_eq]; omega
      have hd : decide (s < a) = true := by simpa using hlt
      have H1 := Lib.hid h1
      clear h1 hs hs2 hlt
      go_enter Tryz.func75, Tryz.ntmps75
      go_wp2
      go_ret2
      exact ⟨by rw [H1.out]; rfl, rfl⟩
    · have h1 : addF a b true = (s2, s2 == 0) := Prod.ext (by simp only [addF, Bool.toNat_true]; omega) (by simp only [addF, Bool.toNat_true]; rw [Bool.eq_iff_iff, decide_eq_true_eq, beq_iff_eq]; omega)
      have hd : decide (s < a) = false := by simpa using hlt
      have hz : ((s2 : Int) == 0) = (s2 == 0) := by rw [Bool.eq_iff_iff, beq_iff_eq, beq_iff_eq]; omega
      generalize (s2 == 0) = z at *
      have H1 := Lib.hid h1
      clear h1 hs hs2 hlt
      go_enter Tryz.func75, Tryz.ntmps75
      go_wp2
      go_ret2
      exact ⟨by rw [H1.out]; rfl, rfl⟩

set_option maxHeartbeats 400000 in
theorem Sub_any (a b : Nat) (c : Bool) (w : World) (ha : a < 18446744073709551616) (hb : b < 18446744073709551616) :
    Calls Tryz.prog 124 #[.int .u64 a, .int .u64 b, .bool c] w fun e w' => e = .returned (.tuple #[.int .u64 ((subF a b c).1 : Nat), .bool (subF a b c).2]) ∧ w = w' := by
  obtain ⟨s, hs⟩ : ∃ s : Nat, s = (18446744073709551616 + a - b) % 18446744073709551616 := ⟨_, rfl⟩
  have e1 : IntKind.u64.wrap ((a : Int) - (b : Int)) = (s : Int) := by rw [wrapU']; omega
  cases c with
  | false =>
    have h1 : subF a b false = (s, decide (a < b)) := by simp only [subF, Bool.toNat_false, Nat.add_zero, Nat.sub_zero, ← hs]
    have H1 := Lib.hid h1
    clear h1 hs
    go_enter Tryz.func124, Tryz.ntmps124
    go_wp2
    go_ret2
    exact ⟨by rw [H1.out]; rfl, rfl⟩
  | true =>
    obtain ⟨s2, hs2⟩ : ∃ s2 : Nat, s2 = (18446744073709551616 + s - 1) % 18446744073709551616 := ⟨_, rfl⟩
    have e2 : IntKind.u64.wrap ((s : Int) - 1) = (s2 : Int) := by rw [wrapU']; omega
    by_cases hlt : a < b
    · have h1 : subF a b true = (s2, true) := by simp only [subF, Bool.toNat_true, Prod.mk.injEq, decide_eq_true_eq]; omega
      have hd : decide (a < b) = true := by simpa using hlt
      have H1 := Lib.hid h1
      clear h1 hs hs2 hlt
      go_enter Tryz.func124, Tryz.ntmps124
      go_wp2
      go_ret2
      exact ⟨by rw [H1.out]; rfl, rfl⟩
    · have h1 : subF a b true = (s2, s == 0) := Prod.ext (by simp only [subF, Bool.toNat_true]; omega) (by simp only [subF, Bool.toNat_true]; rw [Bool.eq_iff_iff, decide_eq_true_eq, beq_iff_eq]; omega)
      have hd : decide (a < b) = false := by simpa using hlt
      have hz : ((s : Int) == 0) = (s == 0) := by rw [Bool.eq_iff_iff, beq_iff_eq, beq_iff_eq]; omega
      generalize (s == 0) = z at *
      have H1 := Lib.hid h1
      clear h1 hs hs2 hlt
      go_enter Tryz.func124, Tryz.ntmps124
      go_wp2
      go_ret2
      exact ⟨by rw [H1.out]; rfl, rfl⟩

set_option maxHeartbeats 400000 in
theorem RSub_any (a b : Nat) (c : Bool) (w : World) (ha : a < 18446744073709551616) (hb : b < 18446744073709551616) :
    Calls Tryz.prog 109 #[.int .u64 a, .int .u64 b, .bool c] w fun e w' => e = .returned (.tuple #[.int .u64 ((subF a b c).1 : Nat), .bool (subF a b c).2]) ∧ w = w' := by
  obtain ⟨s, hs⟩ : ∃ s : Nat, s = (18446744073709551616 + a - b) % 18446744073709551616 := ⟨_, rfl⟩
  have e1 : IntKind.u64.wrap ((a : Int) - (b : Int)) = (s : Int) := by rw [wrapU']; omega
  cases c with
  | false =>
    have h1 : subF a b false = (s, decide (a < b)) := by simp only [subF, Bool.toNat_false, Nat.add_zero, Nat.sub_zero, ← hs]
    have H1 := Lib.hid h1
    clear h1 hs
    go_enter Tryz.func109, Tryz.ntmps109
    go_wp2
    go_ret2
    exact ⟨by rw [H1.out]; rfl, rfl⟩
  | true =>
    obtain ⟨s2, hs2⟩ : ∃ s2 : Nat, s2 = (18446744073709551616 + s - 1) % 18446744073709551616 := ⟨_, rfl⟩
    have e2 : IntKind.u64.wrap ((s : Int) - 1) = (s2 : Int) := by rw [wrapU']; omega
    by_cases hlt : a < b
    · have h1 : subF a b true = (s2, true) := by simp only [subF, Bool.toNat_true, Prod.mk.injEq, decide_eq_true_eq]; omega
      have hd : decide (a < b) = true := by simpa using hlt
      have H1 := Lib.hid h1
      clear h1 hs hs2 hlt
      go_enter Tryz.func109, Tryz.ntmps109
      go_wp2
      go_ret2
      exact ⟨by rw [H1.out]; rfl, rfl⟩
    · have h1 : subF a b true = (s2, s == 0) := Prod.ext (by simp only [subF, Bool.toNat_true]; omega) (by simp only [subF, Bool.toNat_true]; rw [Bool.eq_iff_iff, decide_eq_true_eq, beq_iff_eq]; omega)
      have hd : decide (a < b) = false := by simpa using hlt
      have hz : ((s : Int) == 0) = (s == 0) := by rw [Bool.eq_iff_iff, beq_iff_eq, beq_iff_eq]; omega
      generalize (s == 0) = z at *
      have H1 := Lib.hid h1
      clear h1 hs hs2 hlt
      go_enter Tryz.func109, Tryz.ntmps109
      go_wp2
      go_ret2
      exact ⟨by rw [H1.out]; rfl, rfl⟩

theorem low_half (a : Nat) (h : a < 18446744073709551616) : Go.bits .and .u64 (a : Int) 4294967295 = ((a % 4294967296 : Nat) : Int) := by
  have := bits_and_u64_nat a 4294967295 h (by decide)
  rw [show ((4294967295 : Nat) : Int) = 4294967295 from rfl] at this
  rw [this, show (4294967295 : Nat) = 2 ^ 32 - 1 from rfl, Nat.and_two_pow_sub_one_eq_mod]

set_option maxHeartbeats 400000 in
theorem Mul_any (a b : Nat) (w : World) (ha : a < 18446744073709551616) (hb : b < 18446744073709551616) :
    Calls Tryz.prog 69 #[.int .u64 a, .int .u64 b] w fun e w' => e = .returned (.tuple #[.int .u64 ((mulF a b).1 : Nat), .int .u64 ((mulF a b).2 : Nat)]) ∧ w = w' := by
  obtain ⟨x, hx⟩ : ∃ x : Nat, x = a / 4294967296 := ⟨_, rfl⟩
  obtain ⟨y, hy⟩ : ∃ y : Nat, y = a % 4294967296 := ⟨_, rfl⟩
  obtain ⟨u, hu⟩ : ∃ u : Nat, u = b / 4294967296 := ⟨_, rfl⟩
  obtain ⟨v, hv⟩ : ∃ v : Nat, v = b % 4294967296 := ⟨_, rfl⟩
  have ea := low_half a ha
  have eb := low_half b hb
  rw [← hy] at ea
  rw [← hv] at eb
  have ax : (a : Int) / 4294967296 = (x : Int) := by omega
  have bu : (b : Int) / 4294967296 = (u : Int) := by omega
  have lim : ∀ p q : Nat, p ≤ 4294967295 → q ≤ 4294967295 → p * q ≤ 18446744065119617025 := fun p q h1 h2 => Nat.mul_le_mul h1 h2
  have l1 := lim y v (by omega) (by omega)
  have l2 := lim x v (by omega) (by omega)
  have l3 := lim y u (by omega) (by omega)
  have l4 := lim x u (by omega) (by omega)
  have hm := mul_halves ha hb x y u v _ _ hx hy hu hv rfl rfl
  have w5 : IntKind.u64.wrap ((a : Int) * (b : Int)) = ((mulF a b).2 : Int) := by rw [wrapU', ← Int.natCast_mul]; simp only [mulF]; omega
  have c1 : (y : Int) * (v : Int) = ((y * v : Nat) : Int) := by simp
  have c2 : (x : Int) * (v : Int) = ((x * v : Nat) : Int) := by simp
  have c3 : (y : Int) * (u : Int) = ((y * u : Nat) : Int) := by simp
  have c4 : (x : Int) * (u : Int) = ((x * u : Nat) : Int) := by simp
  have hbig : a * b / 18446744073709551616 ≤ 18446744073709551615 := by
    have := Nat.mul_le_mul (Nat.le_of_lt_succ ha) (Nat.le_of_lt_succ hb)
    omega
  generalize hf : y * v = f at *
  generalize hg : x * v = g at *
  generalize hh : y * u = h at *
  generalize hk : x * u = k at *
  have d1 : IntKind.u64.wrap (f : Int) = (f : Int) := by rw [wrapU']; omega
  have d2 : IntKind.u64.wrap (g : Int) = (g : Int) := by rw [wrapU']; omega
  have d3 : IntKind.u64.wrap (h : Int) = (h : Int) := by rw [wrapU']; omega
  have d4 : IntKind.u64.wrap (k : Int) = (k : Int) := by rw [wrapU']; omega
  obtain ⟨m, hmm⟩ : ∃ m : Nat, m = g + f / 4294967296 := ⟨_, rfl⟩
  rw [← hmm] at hm
  obtain ⟨n, hnn⟩ : ∃ n : Nat, n = h + m % 4294967296 := ⟨_, rfl⟩
  rw [← hnn] at hm
  have em := low_half m (by omega)
  obtain ⟨q, hq⟩ : ∃ q : Nat, q = m % 4294967296 := ⟨_, rfl⟩
  rw [← hq] at em
  have w1 : IntKind.u64.wrap ((g : Int) + (f : Int) / 4294967296) = (m : Int) := by rw [wrapU']; omega
  have w2 : IntKind.u64.wrap ((h : Int) + (q : Int)) = (n : Int) := by rw [wrapU']; omega
  obtain ⟨p, hp⟩ : ∃ p : Nat, p = k + m / 4294967296 := ⟨_, rfl⟩
  have w3 : IntKind.u64.wrap ((k : Int) + (m : Int) / 4294967296) = (p : Int) := by rw [wrapU']; omega
  obtain ⟨z, hz⟩ : ∃ z : Nat, z = (mulF a b).1 := ⟨_, rfl⟩
  have hz2 : z = p + n / 4294967296 := by rw [hz, hp]; exact hm.symm
  have w4 : IntKind.u64.wrap ((p : Int) + (n : Int) / 4294967296) = (z : Int) := by rw [wrapU']; omega
  obtain ⟨z', hz'⟩ : ∃ z' : Nat, z' = (mulF a b).2 := ⟨_, rfl⟩
  rw [← hz, ← hz']
  rw [← hz'] at w5
  clear hx hy hu hv hm hmm hnn hf hg hh hk l1 l2 l3 l4 lim hbig hp hq hz hz2 hz'
  go_enter Tryz.func69, Tryz.ntmps69
  go_wp2
  go_ret2
  exact ⟨rfl, rfl⟩

set_option maxHeartbeats 400000 in
theorem RMul_any (a b : Nat) (w : World) (ha : a < 18446744073709551616) (hb : b < 18446744073709551616) :
    Calls Tryz.prog 47 #[.int .u64 a, .int .u64 b] w fun e w' => e = .returned (.tuple #[.int .u64 ((mulF a b).1 : Nat), .int .u64 ((mulF a b).2 : Nat)]) ∧ w = w' := by
  obtain ⟨x, hx⟩ : ∃ x : Nat, x = a / 4294967296 := ⟨_, rfl⟩
  obtain ⟨y, hy⟩ : ∃ y : Nat, y = a % 4294967296 := ⟨_, rfl⟩
  obtain ⟨u, hu⟩ : ∃ u : Nat, u = b / 4294967296 := ⟨_, rfl⟩
  obtain ⟨v, hv⟩ : ∃ v : Nat, v = b % 4294967296 := ⟨_, rfl⟩
  have ea := low_half a ha
  have eb := low_half b hb
  rw [← hy] at ea
  rw [← hv] at eb
  have ax : (a : Int) / 4294967296 = (x : Int) := by omega
  have bu : (b : Int) / 4294967296 = (u : Int) := by omega
  have lim : ∀ p q : Nat, p ≤ 4294967295 → q ≤ 4294967295 → p * q ≤ 18446744065119617025 := fun p q h1 h2 => Nat.mul_le_mul h1 h2
  have l1 := lim y v (by omega) (by omega)
  have l2 := lim x v (by omega) (by omega)
  have l3 := lim y u (by omega) (by omega)
  have l4 := lim x u (by omega) (by omega)
  have hm := mul_halves ha hb x y u v _ _ hx hy hu hv rfl rfl
  have w5 : IntKind.u64.wrap ((a : Int) * (b : Int)) = ((mulF a b).2 : Int) := by rw [wrapU', ← Int.natCast_mul]; simp only [mulF]; omega
  have c1 : (y : Int) * (v : Int) = ((y * v : Nat) : Int) := by simp
  have c2 : (x : Int) * (v : Int) = ((x * v : Nat) : Int) := by simp
  have c3 : (y : Int) * (u : Int) = ((y * u : Nat) : Int) := by simp
  have c4 : (x : Int) * (u : Int) = ((x * u : Nat) : Int) := by simp
  have hbig : a * b / 18446744073709551616 ≤ 18446744073709551615 := by
    have := Nat.mul_le_mul (Nat.le_of_lt_succ ha) (Nat.le_of_lt_succ hb)
    omega
  generalize hf : y * v = f at *
  generalize hg : x * v = g at *
  generalize hh : y * u = h at *
  generalize hk : x * u = k at *
  have d1 : IntKind.u64.wrap (f : Int) = (f : Int) := by rw [wrapU']; omega
  have d2 : IntKind.u64.wrap (g : Int) = (g : Int) := by rw [wrapU']; omega
  have d3 : IntKind.u64.wrap (h : Int) = (h : Int) := by rw [wrapU']; omega
  have d4 : IntKind.u64.wrap (k : Int) = (k : Int) := by rw [wrapU']; omega
  obtain ⟨m, hmm⟩ : ∃ m : Nat, m = g + f / 4294967296 := ⟨_, rfl⟩
  rw [← hmm] at hm
  obtain ⟨n, hnn⟩ : ∃ n : Nat, n = h + m % 4294967296 := ⟨_, rfl⟩
  rw [← hnn] at hm
  have em := low_half m (by omega)
  obtain ⟨q, hq⟩ : ∃ q : Nat, q = m % 4294967296 := ⟨_, rfl⟩
  rw [← hq] at em
  have w1 : IntKind.u64.wrap ((g : Int) + (f : Int) / 4294967296) = (m : Int) := by rw [wrapU']; omega
  have w2 : IntKind.u64.wrap ((h : Int) + (q : Int)) = (n : Int) := by rw [wrapU']; omega
  obtain ⟨p, hp⟩ : ∃ p : Nat, p = k + m / 4294967296 := ⟨_, rfl⟩
  have w3 : IntKind.u64.wrap ((k : Int) + (m : Int) / 4294967296) = (p : Int) := by rw [wrapU']; omega
  obtain ⟨z, hz⟩ : ∃ z : Nat, z = (mulF a b).1 := ⟨_, rfl⟩
  have hz2 : z = p + n / 4294967296 := by rw [hz, hp]; exact hm.symm
  have w4 : IntKind.u64.wrap ((p : Int) + (n : Int) / 4294967296) = (z : Int) := by rw [wrapU']; omega
  obtain ⟨z', hz'⟩ : ∃ z' : Nat, z' = (mulF a b).2 := ⟨_, rfl⟩
  rw [← hz, ← hz']
  rw [← hz'] at w5
  clear hx hy hu hv hm hmm hnn hf hg hh hk l1 l2 l3 l4 lim hbig hp hq hz hz2 hz'
  go_enter Tryz.func47, Tryz.ntmps47
  go_wp2
  go_ret2
  exact ⟨rfl, rfl⟩

end Go.Proofs.YtmanhikpccnfaaaGreat

/- A stepper, in memory. -/
namespace Go.Proofs.YtmanhikpccnfaaaGreat
open Go.RowKit

def stRow (s : St) : List Value := s.regs.map (fun r => Value.int .u64 (r : Nat)) ++ [.int .u64 s.pc, .bool s.cf, .bool s.of_, .bool s.zf]
def insRow (i : Ins) : List Value := [.int .i64 i.op, .int .i64 i.d, .int .i64 i.s, .int .i64 i.t, .int .i64 i.base, .int .i64 i.index, .int .i64 i.scale, .int .i64 i.disp, .int .i64 i.imm]
/-- A stepper. -/
structure Stp where
  st : St
  i : Ins
  m : Value
  l : Value
  e : Int
def stpRow (x : Stp) : List Value := stRow x.st ++ (insRow x.i ++ [x.m, x.l, .int .i64 x.e])

theorem sixteen {α : Type} (l : List α) (h : l.length = 16) : ∃ a0 a1 a2 a3 a4 a5 a6 a7 a8 a9 a10 a11 a12 a13 a14 a15, l = [a0, a1, a2, a3, a4, a5, a6, a7, a8, a9, a10, a11, a12, a13, a14, a15] := by
  match l, h with
  | [a0, a1, a2, a3, a4, a5, a6, a7, a8, a9, a10, a11, a12, a13, a14, a15], _ => exact ⟨a0, a1, a2, a3, a4, a5, a6, a7, a8, a9, a10, a11, a12, a13, a14, a15, rfl⟩

/-- An event. -/
structure Ev where
  kind : Int
  addr : Nat
def evRow (x : Ev) : List Value := [.int .i64 x.kind, .int .u64 x.addr]

/-- A stepper stands in block b, what it has seen in a block of its own; both from base on. -/
structure Run (w : World) (base b : Nat) (x : Stp) (evs : List Ev) : Prop where
  at_ : w.heap[b]? = some (.cells (stpRow x).toArray 78 (0, 0))
  ok : StOk x.st
  le : base ≤ b
  row : w.ownsRow base 47 2 x.l evs.length (evs.map evRow).flatten
  few : evs.length ≤ 100

theorem Run.lt {w : World} {base b : Nat} {x : Stp} {evs : List Ev} (h : Run w base b x evs) : b < w.heap.size := by
  rcases Nat.lt_or_ge b w.heap.size with h' | h'
  · exact h'
  · have := h.at_; rw [Array.getElem?_eq_none h'] at this; cases this
theorem Run.base_le {w : World} {base b : Nat} {x : Stp} {evs : List Ev} (h : Run w base b x evs) : base ≤ w.heap.size := Nat.le_trans h.le (Nat.le_of_lt h.lt)
theorem Run.frozen {w : World} {base b : Nat} {x : Stp} {evs : List Ev} (h : Run w base b x evs) (k : Nat) : w.frozen? ⟨b, k, none⟩ = false := by simp [World.frozen?, h.at_]
theorem Run.get {w : World} {base b : Nat} {x : Stp} {evs : List Ev} (h : Run w base b x evs) (k : Nat) : w.cell? ⟨b, k, none⟩ = (stpRow x)[k]? := by simp [World.cell?, h.at_]

theorem stpRow_len {x : Stp} (h : x.st.regs.length = 16) : (stpRow x).length = 32 := by simp [stpRow, stRow, insRow, h]
theorem stpRow_reg {x : Stp} {k : Nat} {r : Nat} (hr : x.st.regs[k]? = some r) : (stpRow x)[k]? = some (.int .u64 r) := by
  have hk := (List.getElem?_eq_some_iff.1 hr).1
  rw [stpRow, stRow, List.append_assoc, List.getElem?_append_left (by simpa using hk), List.getElem?_map, hr]; rfl
theorem Run.reg {w : World} {base b : Nat} {x : Stp} {evs : List Ev} (h : Run w base b x evs) {k : Nat} {r : Nat} (hr : x.st.regs[k]? = some r) : w.cell? ⟨b, k, none⟩ = some (.int .u64 r) := by rw [h.get, stpRow_reg hr]
theorem stpRow_hi {x : Stp} (h : x.st.regs.length = 16) (k : Nat) : (stpRow x)[16 + k]? = ([.int .u64 x.st.pc, .bool x.st.cf, .bool x.st.of_, .bool x.st.zf] ++ (insRow x.i ++ [x.m, x.l, .int .i64 x.e]))[k]? := by
  rw [stpRow, stRow, List.append_assoc, List.getElem?_append_right (by simp [h])]
  simp [h]
/-- All cells but the registers'. -/
theorem Run.cells {w : World} {base b : Nat} {x : Stp} {evs : List Ev} (h : Run w base b x evs) :
    w.cell? ⟨b, 16, none⟩ = some (.int .u64 x.st.pc) ∧ w.cell? ⟨b, 17, none⟩ = some (.bool x.st.cf) ∧ w.cell? ⟨b, 18, none⟩ = some (.bool x.st.of_) ∧ w.cell? ⟨b, 19, none⟩ = some (.bool x.st.zf) ∧
    w.cell? ⟨b, 20, none⟩ = some (.int .i64 x.i.op) ∧ w.cell? ⟨b, 21, none⟩ = some (.int .i64 x.i.d) ∧ w.cell? ⟨b, 22, none⟩ = some (.int .i64 x.i.s) ∧ w.cell? ⟨b, 23, none⟩ = some (.int .i64 x.i.t) ∧
    w.cell? ⟨b, 24, none⟩ = some (.int .i64 x.i.base) ∧ w.cell? ⟨b, 25, none⟩ = some (.int .i64 x.i.index) ∧ w.cell? ⟨b, 26, none⟩ = some (.int .i64 x.i.scale) ∧ w.cell? ⟨b, 27, none⟩ = some (.int .i64 x.i.disp) ∧
    w.cell? ⟨b, 28, none⟩ = some (.int .i64 x.i.imm) ∧ w.cell? ⟨b, 29, none⟩ = some x.m ∧ w.cell? ⟨b, 30, none⟩ = some x.l ∧ w.cell? ⟨b, 31, none⟩ = some (.int .i64 x.e) := by
  have hl := h.ok.len
  simp only [h.get]
  exact ⟨stpRow_hi hl 0, stpRow_hi hl 1, stpRow_hi hl 2, stpRow_hi hl 3, stpRow_hi hl 4, stpRow_hi hl 5, stpRow_hi hl 6, stpRow_hi hl 7, stpRow_hi hl 8, stpRow_hi hl 9, stpRow_hi hl 10, stpRow_hi hl 11, stpRow_hi hl 12, stpRow_hi hl 13, stpRow_hi hl 14, stpRow_hi hl 15⟩

/-- The row of events is not the stepper's block. -/
theorem Run.apart {w : World} {base b : Nat} {x : Stp} {evs : List Ev} (h : Run w base b x evs) : ∀ k, x.l.ownBlock = some k → k ≠ b := by
  intro k hk e
  subst e
  rcases h.row.2 with ⟨h1, _⟩ | ⟨g, cap, cur, h1, _, h2, _⟩
  · rw [h1] at hk; cases hk
  · rw [h1] at hk
    cases hk
    rw [h.at_] at h2
    injection h2 with h2
    injection h2 with _ h2
    exact absurd h2 (by decide)

/-- What leaves b and the row alone. -/
theorem own_keep2 {w w' : World} {base e sz n : Nat} {v : Value} {xs : List Value} (h : w.ownsRow base e sz v n xs) (hk : ∀ g, v.ownBlock = some g → w'.heap[g]? = w.heap[g]?) : w'.ownsRow base e sz v n xs := by
  rcases h.2 with ⟨h1, h2⟩ | ⟨g', cap', cur, hv, hg, hh, hr⟩
  · exact ⟨h.1, .inl ⟨h1, h2⟩⟩
  · exact ⟨h.1, .inr ⟨g', cap', cur, hv, hg, (hk g' (by rw [hv]; rfl)).trans hh, hr⟩⟩
theorem own_lt {w : World} {base e sz n : Nat} {v : Value} {xs : List Value} (h : w.ownsRow base e sz v n xs) : ∀ g, v.ownBlock = some g → g < w.heap.size ∧ base ≤ g := by
  intro k hk
  rcases h.2 with ⟨h1, _⟩ | ⟨g, cap, cur, h1, hg, h2, _⟩
  · rw [h1] at hk; cases hk
  · rw [h1] at hk
    cases hk
    rcases Nat.lt_or_ge g w.heap.size with h' | h'
    · exact ⟨h', hg⟩
    · rw [Array.getElem?_eq_none h'] at h2; cases h2

theorem Run.next {w w' : World} {base b : Nat} {x : Stp} {evs : List Ev} (h : Run w base b x evs) (hb : Below w.heap.size w w') : Run w' base b x evs :=
  ⟨(hb.block b h.lt).trans h.at_, h.ok, h.le, own_keep2 h.row fun g hg => hb.block g (own_lt h.row g hg).1, h.few⟩
theorem Run.chg {w w' : World} {F : Nat → Prop} {base b : Nat} {x : Stp} {evs : List Ev} (h : Run w base b x evs) (hc : Chg F w w') (hF : ∀ k, F k → k < base) : Run w' base b x evs :=
  ⟨(hc.block b h.lt (fun h' => by have := hF b h'; have := h.le; omega)).trans h.at_, h.ok, h.le, own_keep2 h.row fun g hg => hc.block g (own_lt h.row g hg).1 (fun h' => by have := hF g h'; have := (own_lt h.row g hg).2; omega), h.few⟩

theorem Run.set_ {w : World} {base b : Nat} {x y : Stp} {evs : List Ev} (h : Run w base b x evs) (k : Nat) (v : Value) (hy : (stpRow x).set k v = stpRow y) (hok : StOk y.st) (hl : y.l = x.l) : Run (w.setCell ⟨b, k, none⟩ v) base b y evs := by
  refine ⟨?_, hok, h.le, ?_, h.few⟩
  · rw [World.setCell, ← hy]
    simp only [Array.getElem?_modify, if_pos, h.at_, Option.map_some]
    simp
  · rw [hl]
    exact own_keep2 h.row fun g hg => Below.heap_setCell _ _ _ _ (h.apart g hg)

theorem set_pc (x : Stp) (h : x.st.regs.length = 16) (n : Nat) : (stpRow x).set 16 (.int .u64 n) = stpRow { x with st := { x.st with pc := n } } := by
  rcases x with ⟨⟨regs, pc, cf, of_, zf⟩, i, m, l, e⟩
  obtain ⟨a0, a1, a2, a3, a4, a5, a6, a7, a8, a9, a10, a11, a12, a13, a14, a15, rfl⟩ := sixteen regs h
  rfl
theorem set_cf (x : Stp) (h : x.st.regs.length = 16) (n : Bool) : (stpRow x).set 17 (.bool n) = stpRow { x with st := { x.st with cf := n } } := by
  rcases x with ⟨⟨regs, pc, cf, of_, zf⟩, i, m, l, e⟩
  obtain ⟨a0, a1, a2, a3, a4, a5, a6, a7, a8, a9, a10, a11, a12, a13, a14, a15, rfl⟩ := sixteen regs h
  rfl
theorem set_of (x : Stp) (h : x.st.regs.length = 16) (n : Bool) : (stpRow x).set 18 (.bool n) = stpRow { x with st := { x.st with of_ := n } } := by
  rcases x with ⟨⟨regs, pc, cf, of_, zf⟩, i, m, l, e⟩
  obtain ⟨a0, a1, a2, a3, a4, a5, a6, a7, a8, a9, a10, a11, a12, a13, a14, a15, rfl⟩ := sixteen regs h
  rfl
theorem set_zf (x : Stp) (h : x.st.regs.length = 16) (n : Bool) : (stpRow x).set 19 (.bool n) = stpRow { x with st := { x.st with zf := n } } := by
  rcases x with ⟨⟨regs, pc, cf, of_, zf⟩, i, m, l, e⟩
  obtain ⟨a0, a1, a2, a3, a4, a5, a6, a7, a8, a9, a10, a11, a12, a13, a14, a15, rfl⟩ := sixteen regs h
  rfl
theorem set_e (x : Stp) (h : x.st.regs.length = 16) (n : Int) : (stpRow x).set 31 (.int .i64 n) = stpRow { x with e := n } := by
  rcases x with ⟨⟨regs, pc, cf, of_, zf⟩, i, m, l, e⟩
  obtain ⟨a0, a1, a2, a3, a4, a5, a6, a7, a8, a9, a10, a11, a12, a13, a14, a15, rfl⟩ := sixteen regs h
  rfl
theorem set_l (x : Stp) (h : x.st.regs.length = 16) (v : Value) : (stpRow x).set 30 v = stpRow { x with l := v } := by
  rcases x with ⟨⟨regs, pc, cf, of_, zf⟩, i, m, l, e⟩
  obtain ⟨a0, a1, a2, a3, a4, a5, a6, a7, a8, a9, a10, a11, a12, a13, a14, a15, rfl⟩ := sixteen regs h
  rfl
theorem set_reg (x : Stp) (k : Nat) (hk : k < x.st.regs.length) (n : Nat) : (stpRow x).set k (.int .u64 n) = stpRow { x with st := { x.st with regs := x.st.regs.set k n } } := by
  rw [stpRow, stRow, List.append_assoc, List.set_append_left _ _ (by simpa using hk), stpRow, stRow, List.append_assoc, List.map_set]

theorem Run.setPc {w : World} {base b : Nat} {x : Stp} {evs : List Ev} (h : Run w base b x evs) {n : Nat} (hn : n < 18446744073709551616) : Run (w.setCell ⟨b, 16, none⟩ (.int .u64 n)) base b { x with st := { x.st with pc := n } } evs :=
  h.set_ 16 _ (set_pc x h.ok.len n) ⟨h.ok.len, h.ok.regs, hn⟩ rfl
theorem Run.setCf {w : World} {base b : Nat} {x : Stp} {evs : List Ev} (h : Run w base b x evs) (n : Bool) : Run (w.setCell ⟨b, 17, none⟩ (.bool n)) base b { x with st := { x.st with cf := n } } evs :=
  h.set_ 17 _ (set_cf x h.ok.len n) ⟨h.ok.len, h.ok.regs, h.ok.pc⟩ rfl
theorem Run.setOf {w : World} {base b : Nat} {x : Stp} {evs : List Ev} (h : Run w base b x evs) (n : Bool) : Run (w.setCell ⟨b, 18, none⟩ (.bool n)) base b { x with st := { x.st with of_ := n } } evs :=
  h.set_ 18 _ (set_of x h.ok.len n) ⟨h.ok.len, h.ok.regs, h.ok.pc⟩ rfl
theorem Run.setZf {w : World} {base b : Nat} {x : Stp} {evs : List Ev} (h : Run w base b x evs) (n : Bool) : Run (w.setCell ⟨b, 19, none⟩ (.bool n)) base b { x with st := { x.st with zf := n } } evs :=
  h.set_ 19 _ (set_zf x h.ok.len n) ⟨h.ok.len, h.ok.regs, h.ok.pc⟩ rfl
theorem Run.setE {w : World} {base b : Nat} {x : Stp} {evs : List Ev} (h : Run w base b x evs) (n : Int) : Run (w.setCell ⟨b, 31, none⟩ (.int .i64 n)) base b { x with e := n } evs :=
  h.set_ 31 _ (set_e x h.ok.len n) h.ok rfl
theorem StOk.set {s : St} (h : StOk s) (k : Nat) {n : Nat} (hn : n < 18446744073709551616) : StOk { s with regs := s.regs.set k n } :=
  ⟨by simpa using h.len, fun r hr => by rcases List.mem_or_eq_of_mem_set hr with h' | rfl; exact h.regs r h'; exact hn, h.pc⟩
theorem Run.setReg {w : World} {base b : Nat} {x : Stp} {evs : List Ev} (h : Run w base b x evs) {k n : Nat} (hk : k < 16) (hn : n < 18446744073709551616) : Run (w.setCell ⟨b, k, none⟩ (.int .u64 n)) base b { x with st := { x.st with regs := x.st.regs.set k n } } evs :=
  h.set_ k _ (set_reg x k (by rw [h.ok.len]; exact hk) n) (h.ok.set k hn) rfl
theorem Run.belowSet {w w0 : World} {base b : Nat} {x : Stp} {evs : List Ev} (h : Run w base b x evs) (hb : Below base w0 w) (k : Nat) (v : Value) : Below base w0 (w.setCell ⟨b, k, none⟩ v) := hb.setCell h.le v

theorem infoEv : (Tryz.prog.info? 47).map (fun i => (i.zero, i.size, i.bytes)) = some (some (.agg #[.int .i64 0, .int .u64 0]), 2, 16) := by kernel_rfl
end Go.Proofs.YtmanhikpccnfaaaGreat

/- The stepper's small methods: flags, sum, rest, plain, shift, chain, see. -/
namespace Go.Proofs.YtmanhikpccnfaaaGreat
open Go.RowKit

variable {w : World} {base b : Nat} {x : Stp} {evs : List Ev}

set_option maxRecDepth 100000 in
set_option maxHeartbeats 400000 in
theorem flags_any (h : Run w base b x evs) (k : Nat) (caps : Array Value) (o : Bool) (r : Nat) (c : Bool) (hg : ∀ args w, (callFunc k args).run Tryz.prog w = .ok (.enter k args) w) (hf : Calls Tryz.prog k caps w fun e w' => e = .returned (.bool o) ∧ w = w') :
    Calls Tryz.prog 122 #[.pointer (some ⟨b, 0, none⟩), .int .u64 r, .bool c, .func (.func k) #[] caps] w fun e w' => e = .returned (.int .u64 r) ∧ Below base w w' ∧ Run w' base b { x with st := { x.st with cf := c, of_ := o, zf := r == 0 } } evs := by
  have hz : ((r : Int) == 0) = (r == 0) := by rw [Bool.eq_iff_iff, beq_iff_eq, beq_iff_eq]; omega
  generalize (r == 0) = z at *
  have H := Lib.hid h
  have HF := Lib.hid hf
  obtain ⟨_, c17, c18, c19, _⟩ := h.cells
  have f17 := h.frozen 17
  have f18 := h.frozen 18
  have f19 := h.frozen 19
  clear h hf
  go_enter Tryz.func122, Tryz.ntmps122
  go_wp2_with (refine HF.out.mono ?_; rintro e w1 ⟨rfl, rfl⟩)
  go_ret
  exact ⟨rfl, (((Below.refl _ _).setCell H.out.le _).setCell H.out.le _).setCell H.out.le _, ((H.out.setCf c).setOf o).setZf z⟩

theorem top_int {x : Nat} {o : Bool} (h : (x / 9223372036854775808 == 1) = o) : (((x : Nat) : Int) / 9223372036854775808 == 1) = o := by
  rw [← h, Bool.eq_iff_iff, beq_iff_eq, beq_iff_eq]; omega

set_option maxHeartbeats 400000 in
theorem sum1_any (w : World) (a bb r : Nat) (pa pr pb : Addr) (ha : a < 18446744073709551616) (hb : bb < 18446744073709551616) (hr : r < 18446744073709551616) (h1 : w.cell? pa = some (.int .u64 a)) (h2 : w.cell? pr = some (.int .u64 r)) (h3 : w.cell? pb = some (.int .u64 bb)) :
    Calls Tryz.prog 123 #[.pointer (some pa), .pointer (some pr), .pointer (some pb)] w fun e w' => e = .returned (.bool ((topB a == topB bb) && (topB r != topB a))) ∧ w = w' := by
  have e := top_int (ofSum ha hb hr)
  have b1 := bits_xor_u64_nat a r ha hr
  have b2 := bits_xor_u64_nat bb r hb hr
  have b3 := bits_and_u64_nat (a ^^^ r) (bb ^^^ r) (xor_lt ha hr) (xor_lt hb hr)
  generalize ((topB a == topB bb) && (topB r != topB a)) = o at *
  generalize ((a ^^^ r) &&& (bb ^^^ r)) = q at *
  go_enter Tryz.func123, Tryz.ntmps123
  go_wp2
  go_ret
  exact ⟨rfl, rfl⟩

set_option maxHeartbeats 400000 in
theorem rest1_any (w : World) (a bb r : Nat) (pa pb pr : Addr) (ha : a < 18446744073709551616) (hb : bb < 18446744073709551616) (hr : r < 18446744073709551616) (h1 : w.cell? pa = some (.int .u64 a)) (h2 : w.cell? pr = some (.int .u64 r)) (h3 : w.cell? pb = some (.int .u64 bb)) :
    Calls Tryz.prog 125 #[.pointer (some pa), .pointer (some pb), .pointer (some pr)] w fun e w' => e = .returned (.bool ((topB a != topB bb) && (topB r != topB a))) ∧ w = w' := by
  have e := top_int (ofRest ha hb hr)
  have b1 := bits_xor_u64_nat a bb ha hb
  have b2 := bits_xor_u64_nat a r ha hr
  have b3 := bits_and_u64_nat (a ^^^ bb) (a ^^^ r) (xor_lt ha hb) (xor_lt ha hr)
  generalize ((topB a != topB bb) && (topB r != topB a)) = o at *
  generalize ((a ^^^ bb) &&& (a ^^^ r)) = q at *
  go_enter Tryz.func125, Tryz.ntmps125
  go_wp2
  go_ret
  exact ⟨rfl, rfl⟩

theorem plain1_any (w : World) : Calls Tryz.prog 126 #[] w fun e w' => e = .returned (.bool false) ∧ w = w' := by
  go_enter Tryz.func126, Tryz.ntmps126
  go_wp2
  go_ret
  exact ⟨rfl, rfl⟩

/-- Three boxes of one cell. -/
theorem three (w : World) (u v z : Value) (t : Nat) : ∃ W, W = ((w.alloc (.cells #[u] t)).alloc (.cells #[v] t)).alloc (.cells #[z] t) ∧ W.cell? ⟨w.heap.size, 0, none⟩ = some u ∧ W.cell? ⟨w.heap.size + 1, 0, none⟩ = some v ∧ W.cell? ⟨w.heap.size + 1 + 1, 0, none⟩ = some z ∧ Below w.heap.size w W := by
  refine ⟨_, rfl, ?_, ?_, ?_, (((Below.refl _ _).alloc (Nat.le_refl _) _).alloc (by simp) _).alloc (by simp; omega) _⟩
  · rw [World.cell?_alloc_lt _ _ _ (by simp; omega), World.cell?_alloc_lt _ _ _ (by simp), World.cell?_alloc_at _ _ _ _ rfl]; rfl
  · rw [World.cell?_alloc_lt _ _ _ (by simp), World.cell?_alloc_at _ _ _ _ (by simp)]; rfl
  · rw [World.cell?_alloc_at _ _ _ _ (by simp)]; rfl

set_option maxRecDepth 100000 in
set_option maxHeartbeats 400000 in
theorem sum_any (h : Run w base b x evs) (a bb : Nat) (c : Bool) (ha : a < 18446744073709551616) (hb : bb < 18446744073709551616) :
    Calls Tryz.prog 86 #[.pointer (some ⟨b, 0, none⟩), .int .u64 a, .int .u64 bb, .bool c] w fun e w' => e = .returned (.int .u64 ((addF a bb c).1 : Nat)) ∧ Below base w w' ∧ Run w' base b { x with st := (valueF.sumS x.st a bb c).1 } evs := by
  have hmf : ∀ (fn : Fn) (first cap : Array Value) (w : World), (Instr.makeFunc fn first cap).run Tryz.prog w = .ok (.func fn first cap) w := fun _ _ _ _ => rfl
  have hr := addF_lt a bb c
  have HA := Lib.hid (fun w => Add_any a bb c w ha hb)
  obtain ⟨r, hre⟩ : ∃ r, r = (addF a bb c).1 := ⟨_, rfl⟩
  obtain ⟨o, hoe⟩ : ∃ o, o = (addF a bb c).2 := ⟨_, rfl⟩
  have e1 : (valueF.sumS x.st a bb c).1 = { x.st with cf := o, of_ := (valueF.sumS x.st a bb c).1.of_, zf := r == 0 } := by rw [hre, hoe]; rfl
  obtain ⟨W, hW, g1, g2, g3, hbW⟩ := three w (.int .u64 a) (.int .u64 bb) (.int .u64 r) 22
  have H := Lib.hid (h.next hbW)
  have HB := Lib.hid (hbW.mono (Nat.le_of_lt (Nat.lt_of_le_of_lt h.le h.lt)))
  have HO : (valueF.sumS x.st a bb c).1.of_ = (valueF.sumS x.st a bb c).1.of_ := rfl
  have HW := Lib.hid hW
  have HE := Lib.hid e1
  rw [← hre] at hr
  rw [← hre, ← hoe] at HA
  rw [← hre]
  have G := Lib.hid (And.intro g1 (And.intro g2 (And.intro g3 (And.intro ha (And.intro hb hr)))))
  have HR := Lib.hid hre
  clear HO hW g1 g2 g3 hbW h hre hoe ha hb hr e1
  go_enter Tryz.func86, Tryz.ntmps86
  go_wp2_with (with_reducible refine (HA.out _).mono ?_; rintro e w1 ⟨rfl, rfl⟩)
  rw [← HW.out]
  obtain ⟨g1, g2, g3, ha, hb, hr⟩ := G.out
  refine (flags_any H.out _ _ _ _ _ (fun _ _ => rfl) (sum1_any W a bb r _ _ _ ha hb hr g1 g3 g2)).mono ?_
  rintro e w2 ⟨rfl, hb2, hr2⟩
  have HB2 := Lib.hid hb2
  have HR2 := Lib.hid hr2
  clear g1 g2 g3 ha hb hr hb2 hr2
  go_wp2
  go_ret
  have h3 := HR2.out
  refine ⟨rfl, HB.out.trans HB2.out, ?_⟩
  have h4 := HE.out
  rw [h4]
  have h5 := HR.out
  subst h5
  exact h3

set_option maxRecDepth 100000 in
set_option maxHeartbeats 400000 in
theorem rest_any (h : Run w base b x evs) (a bb : Nat) (c : Bool) (ha : a < 18446744073709551616) (hb : bb < 18446744073709551616) :
    Calls Tryz.prog 89 #[.pointer (some ⟨b, 0, none⟩), .int .u64 a, .int .u64 bb, .bool c] w fun e w' => e = .returned (.int .u64 ((subF a bb c).1 : Nat)) ∧ Below base w w' ∧ Run w' base b { x with st := (valueF.restS x.st a bb c).1 } evs := by
  have hmf : ∀ (fn : Fn) (first cap : Array Value) (w : World), (Instr.makeFunc fn first cap).run Tryz.prog w = .ok (.func fn first cap) w := fun _ _ _ _ => rfl
  have hr := subF_lt a bb c
  have HA := Lib.hid (fun w => Sub_any a bb c w ha hb)
  obtain ⟨r, hre⟩ : ∃ r, r = (subF a bb c).1 := ⟨_, rfl⟩
  obtain ⟨o, hoe⟩ : ∃ o, o = (subF a bb c).2 := ⟨_, rfl⟩
  have e1 : (valueF.restS x.st a bb c).1 = { x.st with cf := o, of_ := (valueF.restS x.st a bb c).1.of_, zf := r == 0 } := by rw [hre, hoe]; rfl
  obtain ⟨W, hW, g1, g2, g3, hbW⟩ := three w (.int .u64 a) (.int .u64 bb) (.int .u64 r) 22
  have H := Lib.hid (h.next hbW)
  have HB := Lib.hid (hbW.mono (Nat.le_of_lt (Nat.lt_of_le_of_lt h.le h.lt)))
  have HO : (valueF.restS x.st a bb c).1.of_ = (valueF.restS x.st a bb c).1.of_ := rfl
  have HW := Lib.hid hW
  have HE := Lib.hid e1
  rw [← hre] at hr
  rw [← hre, ← hoe] at HA
  rw [← hre]
  have G := Lib.hid (And.intro g1 (And.intro g2 (And.intro g3 (And.intro ha (And.intro hb hr)))))
  have HR := Lib.hid hre
  clear HO hW g1 g2 g3 hbW h hre hoe ha hb hr e1
  go_enter Tryz.func89, Tryz.ntmps89
  go_wp2_with (with_reducible refine (HA.out _).mono ?_; rintro e w1 ⟨rfl, rfl⟩)
  rw [← HW.out]
  obtain ⟨g1, g2, g3, ha, hb, hr⟩ := G.out
  refine (flags_any H.out _ _ _ _ _ (fun _ _ => rfl) (rest1_any W a bb r _ _ _ ha hb hr g1 g3 g2)).mono ?_
  rintro e w2 ⟨rfl, hb2, hr2⟩
  have HB2 := Lib.hid hb2
  have HR2 := Lib.hid hr2
  clear g1 g2 g3 ha hb hr hb2 hr2
  go_wp2
  go_ret
  have h3 := HR2.out
  refine ⟨rfl, HB.out.trans HB2.out, ?_⟩
  have h4 := HE.out
  rw [h4]
  have h5 := HR.out
  subst h5
  exact h3

end Go.Proofs.YtmanhikpccnfaaaGreat

/- The stepper's plain, shift, chain, pick, see. -/
namespace Go.Proofs.YtmanhikpccnfaaaGreat
open Go.RowKit

variable {w : World} {base b : Nat} {x : Stp} {evs : List Ev}

set_option maxRecDepth 100000 in
set_option maxHeartbeats 400000 in
theorem plain_any (h : Run w base b x evs) (r : Nat) :
    Calls Tryz.prog 92 #[.pointer (some ⟨b, 0, none⟩), .int .u64 r] w fun e w' => e = .returned (.int .u64 r) ∧ Below base w w' ∧ Run w' base b { x with st := (valueF.plainS x.st r).1 } evs := by
  have HF := Lib.hid (flags_any h _ #[] false r false (fun _ _ => rfl) (plain1_any w))
  clear h
  go_enter Tryz.func92, Tryz.ntmps92
  go_wp2_with fail
  refine HF.out.mono ?_
  rintro e w1 ⟨rfl, hb, hr⟩
  have HB := Lib.hid (And.intro hb hr)
  clear hb hr
  go_wp2
  go_ret
  exact ⟨rfl, HB.out.1, HB.out.2⟩

theorem odd_bit (b : Nat) (h : b < 18446744073709551616) : Go.bits .and .u64 (b : Int) 1 = ((b % 2 : Nat) : Int) := by
  have := bits_and_u64_nat b 1 h (by decide)
  rw [show ((1 : Nat) : Int) = 1 from rfl] at this
  rw [this, Nat.and_one_is_mod]

set_option maxRecDepth 100000 in
set_option maxHeartbeats 400000 in
theorem shift_any (h : Run w base b x evs) (r bit : Nat) (hbit : bit < 18446744073709551616) :
    Calls Tryz.prog 98 #[.pointer (some ⟨b, 0, none⟩), .int .u64 r, .int .u64 bit] w fun e w' => e = .returned (.int .u64 r) ∧ Below base w w' ∧ Run w' base b { x with st := (valueF.shiftS x.st r bit).1 } evs := by
  have hz : ((r : Int) == 0) = (r == 0) := by rw [Bool.eq_iff_iff, beq_iff_eq, beq_iff_eq]; omega
  have hb1 := odd_bit bit hbit
  have hb2 : (((bit % 2 : Nat) : Int) == 1) = (bit % 2 == 1) := by rw [Bool.eq_iff_iff, beq_iff_eq, beq_iff_eq]; omega
  obtain ⟨z, hze⟩ : ∃ z, z = (r == 0) := ⟨_, rfl⟩
  obtain ⟨o, hoe⟩ : ∃ o, o = (bit % 2 == 1) := ⟨_, rfl⟩
  have e1 : (valueF.shiftS x.st r bit).1 = { x.st with cf := o, zf := z } := by rw [hze, hoe]; rfl
  rw [e1]
  rw [← hze] at hz
  rw [← hoe] at hb2
  generalize bit % 2 = bb at *
  have H := Lib.hid h
  obtain ⟨_, c17, _, c19, _⟩ := h.cells
  have f17 := h.frozen 17
  have f19 := h.frozen 19
  clear h hze hoe e1
  go_enter Tryz.func98, Tryz.ntmps98
  go_wp2
  go_ret
  exact ⟨rfl, ((Below.refl _ _).setCell H.out.le _).setCell H.out.le _, (H.out.setCf o).setZf z⟩

set_option maxRecDepth 100000 in
set_option maxHeartbeats 400000 in
theorem chainC_any (h : Run w base b x evs) (a bb : Nat) (ha : a < 18446744073709551616) (hb : bb < 18446744073709551616) :
    Calls Tryz.prog 101 #[.pointer (some ⟨b, 0, none⟩), .pointer (some ⟨b, 17, none⟩), .int .u64 a, .int .u64 bb] w fun e w' => e = .returned (.int .u64 ((addF a bb x.st.cf).1 : Nat)) ∧ Below base w w' ∧ Run w' base b { x with st := { x.st with cf := (addF a bb x.st.cf).2 } } evs := by
  have HA := Lib.hid (Add_any a bb x.st.cf w ha hb)
  have H := Lib.hid h
  obtain ⟨_, c17, c18, _⟩ := h.cells
  have f17 := h.frozen 17
  clear h
  go_enter Tryz.func101, Tryz.ntmps101
  go_wp2_with ((with_reducible refine (HA.out).mono ?_); rintro e w1 ⟨rfl, rfl⟩)
  go_ret
  exact ⟨rfl, (Below.refl _ _).setCell H.out.le _, H.out.setCf _⟩

set_option maxRecDepth 100000 in
set_option maxHeartbeats 400000 in
theorem chainO_any (h : Run w base b x evs) (a bb : Nat) (ha : a < 18446744073709551616) (hb : bb < 18446744073709551616) :
    Calls Tryz.prog 101 #[.pointer (some ⟨b, 0, none⟩), .pointer (some ⟨b, 18, none⟩), .int .u64 a, .int .u64 bb] w fun e w' => e = .returned (.int .u64 ((addF a bb x.st.of_).1 : Nat)) ∧ Below base w w' ∧ Run w' base b { x with st := { x.st with of_ := (addF a bb x.st.of_).2 } } evs := by
  have HA := Lib.hid (Add_any a bb x.st.of_ w ha hb)
  have H := Lib.hid h
  obtain ⟨_, c17, c18, _⟩ := h.cells
  have f17 := h.frozen 18
  clear h
  go_enter Tryz.func101, Tryz.ntmps101
  go_wp2_with ((with_reducible refine (HA.out).mono ?_); rintro e w1 ⟨rfl, rfl⟩)
  go_ret
  exact ⟨rfl, (Below.refl _ _).setCell H.out.le _, H.out.setOf _⟩

theorem pick_any (c : Bool) (a bb : Nat) (w : World) :
    Calls Tryz.prog 104 #[.bool c, .int .u64 a, .int .u64 bb] w fun e w' => e = .returned (.int .u64 ((if c then a else bb : Nat))) ∧ w = w' := by
  cases c <;>
  · go_enter Tryz.func104, Tryz.ntmps104
    go_wp2
    go_ret
    exact ⟨rfl, rfl⟩

theorem rows_flat (evs : List Ev) : (evs.map evRow).flatten.length = evs.length * 2 := by
  induction evs with
  | nil => rfl
  | cons y ys ih => rw [List.map_cons, List.flatten_cons, List.length_append, ih]; simp [evRow]; omega

theorem Run.seen {w w' : World} {base b : Nat} {x : Stp} {evs evs' : List Ev} (h : Run w base b x evs) {v : Value} (hk : w'.heap[b]? = w.heap[b]?) (hrow : w'.ownsRow base 47 2 v evs'.length (evs'.map evRow).flatten) (hf : evs'.length ≤ 100) :
    Run (w'.setCell ⟨b, 30, none⟩ v) base b { x with l := v } evs' := by
  have hne : ∀ g, v.ownBlock = some g → g ≠ b := by
    intro g hg e
    subst e
    rcases hrow.2 with ⟨h1, _⟩ | ⟨g', cap, cur, h1, _, h2, _⟩
    · rw [h1] at hg; cases hg
    · rw [h1] at hg
      cases hg
      rw [hk, h.at_] at h2
      injection h2 with h2
      injection h2 with _ h2
      exact absurd h2 (by decide)
  refine ⟨?_, h.ok, h.le, own_keep2 hrow fun g hg => Below.heap_setCell _ _ _ _ (hne g hg), hf⟩
  rw [World.setCell, ← set_l x h.ok.len v]
  simp only [Array.getElem?_modify, if_pos, hk, h.at_, Option.map_some]
  simp

set_option maxRecDepth 100000 in
set_option maxHeartbeats 400000 in
theorem see_any (h : Run w base b x evs) (kind : Int) (at_ : Nat) (hf : evs.length ≤ 90) :
    Calls Tryz.prog 37 #[.pointer (some ⟨b, 0, none⟩), .int .i64 kind, .int .u64 at_] w fun e w' => e = .returned (.tuple #[]) ∧ Below base w w' ∧ ∃ v, Run w' base b { x with l := v } (evs ++ [⟨kind, at_⟩]) := by
  obtain ⟨i0, hi, hz0, hz1, hz2⟩ := info_parts infoEv
  have H := Lib.hid h
  obtain ⟨_, _, _, _, _, _, _, _, _, _, _, _, _, _, c30, _⟩ := h.cells
  have f30 := h.frozen 30
  have hbl := h.lt
  have HBS := Lib.hid h.base_le
  have hrow := h.row
  obtain ⟨A30, cp, hxl⟩ : ∃ A30 cp, x.l = .slice A30 evs.length cp := by
    rcases hrow.2 with ⟨h1, h2⟩ | ⟨g', cap', cur, hv, _⟩
    · exact ⟨none, 0, by rw [h1, h2]⟩
    · exact ⟨_, _, hv⟩
  rw [hxl] at hrow c30
  have hap : ∀ k, (Value.slice A30 evs.length cp).ownBlock = some k → k ≠ b := by rw [← hxl]; exact h.apart
  have HROW := Lib.hid hrow
  generalize hen : evs.length = n at *
  have HEN := Lib.hid hen
  have HAP := Lib.hid hap
  clear h hrow hxl hen hap
  go_enter Tryz.func37, Tryz.ntmps37
  go_wp2_with ((at_builtin; refine wpList_append_own_at _ rfl _ _ 42 rfl base 47 i0 (.agg #[.int .i64 0, .int .u64 0]) 2 16 Tryz.underlying42 hi hz0 hz1 hz2 rfl (by decide) _ n _ rfl (HROW.out.alloc _) ⟨w.heap.size, 0, none⟩ 1 1 [.int .i64 kind, .int .u64 at_] rfl (by simp) (World.news_of_block (cs := #[.int .i64 kind, .int .u64 at_]) (t := 47) (fr := (0, 0)) (heap_alloc_new w _)) (by simp [Value.oneCell']) (by unfold maxLen; omega) (by omega) (by have := HBS.out; simp; omega) ?_); intro v w1 hown hg _ _; obtain ⟨A31, cp31, rfl⟩ : ∃ A c, v = .slice A (n + 1) c := by { rcases hown.2 with ⟨h1, h2⟩ | ⟨g', cap', cur, hv, _⟩; exact absurd h2 (by omega); exact ⟨_, _, hv⟩ }; have hne : some b ≠ (Value.slice A30 n cp).ownBlock := fun e => HAP.out b e.symm rfl; have c30' := hg.cell (a := ⟨b, 30, none⟩) (v := .slice A30 n cp) (by go_simp) hne; have f30' := World.frozen?_of_block (a := ⟨b, 30, none⟩) (hg.block b (by simp; omega) hne); rw [show (w.alloc (.cells #[.int .i64 kind, .int .u64 at_] 47)).frozen? ⟨b, 30, none⟩ = false by go_simp] at f30'; have HO := Lib.hid hown; have HG := Lib.hid hg; clear hown hg hne)
  go_end0
  have hlast : (evs ++ [(⟨kind, at_⟩ : Ev)]).length = n + 1 := by rw [List.length_append, HEN.out]; rfl
  have hk : w1.heap[b]? = w.heap[b]? := (HG.out.block b (by simp; omega) (fun e => HAP.out b e.symm rfl)).trans (Below.heap_alloc _ _ _ hbl)
  refine ⟨rfl, ?_, _, H.out.seen hk ?_ (by omega)⟩
  · exact (((Below.refl _ _).alloc HBS.out _).grown HG.out (by have := HBS.out; simp; omega) (fun k hk => (own_lt HROW.out k hk).2)).setCell H.out.le _
  · rw [hlast, List.map_append, List.flatten_append]; exact HO.out
end Go.Proofs.YtmanhikpccnfaaaGreat

/- slices.IndexFunc, slices.ContainsFunc over regions, at whatever function value. -/
namespace Go.Proofs.YtmanhikpccnfaaaGreat
open Go.RowKit

/-- The first place with p, from k on, of so many: or -1. -/
def firstAt (p : Nat → Bool) (n k : Nat) : Int := match (List.range' k (n - k)).find? p with | some i => i | none => -1

theorem firstAt_yes {p : Nat → Bool} {n k : Nat} (h : k < n) (hp : p k = true) : firstAt p n k = k := by
  have : n - k = (n - k - 1) + 1 := by omega
  rw [firstAt, this, List.range'_succ, List.find?_cons, hp]
theorem firstAt_no {p : Nat → Bool} {n k : Nat} (h : k < n) (hp : p k = false) : firstAt p n k = firstAt p n (k + 1) := by
  have : n - k = (n - (k + 1)) + 1 := by omega
  rw [firstAt, this, List.range'_succ, List.find?_cons, hp]; rfl
theorem firstAt_end {p : Nat → Bool} {n : Nat} : firstAt p n n = -1 := by simp [firstAt]
theorem firstAt_any (p : Reg → Bool) (l : List Reg) (d : Reg) : decide (0 ≤ firstAt (fun k => p (l.getD k d)) l.length 0) = l.any p := by
  have key : ∀ m k, m + k = l.length → decide (0 ≤ firstAt (fun k => p (l.getD k d)) l.length k) = (l.drop k).any p := by
    intro m
    induction m with
    | zero => intro k h; obtain rfl : k = l.length := by omega
              simp [firstAt_end]
    | succ m ih =>
      intro k h
      have hk : k < l.length := by omega
      rw [List.drop_eq_getElem_cons hk, List.any_cons]
      have hg : l.getD k d = l[k] := by simp [List.getD, hk]
      cases hp : p l[k]
      · rw [firstAt_no hk (by simp only [hg, hp]), ih (k + 1) (by omega)]; simp
      · rw [firstAt_yes hk (by simp only [hg, hp])]; simp
  simpa using key l.length 0 (by omega)

/-- A region as it is handed over. -/
def regV (r : Reg) (A : Option Addr) (c : Nat) : Value := .agg #[.int .u64 r.base, .slice A r.bytes.length c, .bool r.write]

set_option maxHeartbeats 400000 in
theorem IndexFunc_any (A : Option Addr) (n c : Nat) (g : Nat) (cap : Array Value) (w : World) (F : Nat → Prop) (l : List Reg) (d : Reg) (p : Reg → Bool) (hn : n ≤ 9223372036854775807)
    (hg : ∀ args w, (callFunc g args).run Tryz.prog w = .ok (.enter g args) w) (hl : RegsAt w F (.slice A n c) l) (hF : ∀ k, F k → k < w.heap.size)
    (hf : ∀ r ∈ l, ∀ wr, Below w.heap.size w wr → ∀ A c, BytesAt w F (.slice A r.bytes.length c) r.bytes → Calls Tryz.prog g (#[regV r A c] ++ cap) wr fun e w' => e = .returned (.bool (p r)) ∧ Below wr.heap.size wr w') :
    Calls Tryz.prog 77 #[.slice A n c, .func (.func g) #[] cap] w fun e w' => e = .returned (.int .i64 (firstAt (fun k => p (l.getD k d)) n 0)) ∧ Below w.heap.size w w' := by
  obtain ⟨hnl, hnc⟩ := hl.len
  have HNL := Lib.hid hnl; clear hnl
  generalize hpp : (fun k => p (l.getD k d)) = q
  have HPP := Lib.hid hpp; clear hpp
  have H := Lib.hid hf; clear hf
  have HL := Lib.hid hl; clear hl
  have HF := Lib.hid hF; clear hF
  go_enter Tryz.func77, Tryz.ntmps77
  go_wp2
  go_loopw [5, 8] (fun _ i wr => ∃ k : Nat, k ≤ n ∧ i = .int .i64 k ∧ Below w.heap.size w wr ∧ firstAt q n 0 = firstAt q n k) (fun _ i _ => n - (intOf i).toNat)
  case atStart => exact ⟨0, by omega, rfl, Below.refl _ _, rfl⟩
  case round =>
    obtain ⟨k, hk, rfl, hbl, hfi⟩ := hrel
    have HFI := Lib.hid hfi; clear hfi
    by_cases hlt : k < n
    · obtain ⟨r, hr⟩ : ∃ r, l[k]? = some r := ⟨_, List.getElem?_eq_getElem (by have := HNL.out; omega)⟩
      obtain ⟨b, off, A', c', rfl, hFb, h0, h1, h2, hby, _⟩ := HL.out.at_ hr
      have hb := HF.out b hFb
      have g0 := (hbl.cell (p := ⟨b, off + k * 3, none⟩) hb).trans h0
      have g1 := (hbl.cell (p := ⟨b, off + k * 3 + 1, none⟩) hb).trans h1
      have g2 := (hbl.cell (p := ⟨b, off + k * 3 + 2, none⟩) hb).trans h2
      have Hk := Lib.hid (H.out r (List.mem_of_getElem? hr) wr hbl A' c' hby)
      have hq : q k = p r := by rw [← HPP.out]; simp [List.getD, hr]
      clear h0 h1 h2 hby hr H
      simp only [regV] at Hk
      cases hp : p r
      · rw [hp] at Hk hq
        have HFN := Lib.hid ((HFI.out).trans (firstAt_no hlt hq)); clear hp HFI hq
        go_wp2_with ((with_reducible refine (Hk.out).mono ?_); rintro e w1 ⟨rfl, hb1⟩)
        go_roundw
        case rel => exact ⟨k + 1, by omega, by go_num, hbl.trans (hb1.mono hbl.size), HFN.out⟩
        case measure => simp [intOf]; omega
      · rw [hp] at Hk hq
        have HFN := Lib.hid ((HFI.out).trans (firstAt_yes hlt hq)); clear hp HFI hq
        go_wp2_with ((with_reducible refine (Hk.out).mono ?_); rintro e w1 ⟨rfl, hb1⟩)
        go_ret
        exact ⟨ret_int HFN.out.symm, hbl.trans (hb1.mono hbl.size)⟩
    · go_wp2
      go_ret
      exact ⟨ret_int (by rw [HFI.out, show k = n from by omega, firstAt_end]), hbl⟩

set_option maxHeartbeats 400000 in
theorem ContainsFunc_any (A : Option Addr) (n c : Nat) (g : Nat) (cap : Array Value) (w : World) (F : Nat → Prop) (l : List Reg) (p : Reg → Bool) (hn : n ≤ 9223372036854775807)
    (hg : ∀ args w, (callFunc g args).run Tryz.prog w = .ok (.enter g args) w) (hl : RegsAt w F (.slice A n c) l) (hF : ∀ k, F k → k < w.heap.size)
    (hf : ∀ r ∈ l, ∀ wr, Below w.heap.size w wr → ∀ A c, BytesAt w F (.slice A r.bytes.length c) r.bytes → Calls Tryz.prog g (#[regV r A c] ++ cap) wr fun e w' => e = .returned (.bool (p r)) ∧ Below wr.heap.size wr w') :
    Calls Tryz.prog 51 #[.slice A n c, .func (.func g) #[] cap] w fun e w' => e = .returned (.bool (l.any p)) ∧ Below w.heap.size w w' := by
  have HI := Lib.hid (IndexFunc_any A n c g cap w F l ⟨0, [], false⟩ p hn hg hl hF hf)
  have HA := Lib.hid (firstAt_any p l ⟨0, [], false⟩)
  obtain rfl := hl.len.1
  clear hf hl hF hg
  go_enter Tryz.func51, Tryz.ntmps51
  go_wp2_with ((with_reducible refine (HI.out).mono ?_); rintro e w1 ⟨rfl, hb1⟩)
  go_ret
  exact ⟨ret_bool HA.out, hb1⟩
end Go.Proofs.YtmanhikpccnfaaaGreat

/- memory.last, memory.Check and what Check hands to slices.ContainsFunc. -/
namespace Go.Proofs.YtmanhikpccnfaaaGreat
open Go.RowKit

theorem wrapU (x : Int) : IntKind.u64.wrap x = x % 18446744073709551616 := by simp [IntKind.wrap, IntKind.bits, IntKind.signed]

def lastOf (r : Reg) : Nat := (r.base + r.bytes.length + 18446744073709551615) % 18446744073709551616

theorem lastOf_wrap (r : Reg) : IntKind.u64.wrap (IntKind.u64.wrap ((r.base : Int) + IntKind.u64.wrap (r.bytes.length : Int)) - 1) = (lastOf r : Int) := by
  simp only [wrapU, lastOf]; omega

set_option maxHeartbeats 400000 in
theorem last_any (r : Reg) (w : World) (A : Option Addr) (c : Nat) :
    Calls Tryz.prog 53 #[.agg #[.int .u64 r.base, .slice A r.bytes.length c, .bool r.write]] w fun e w' => e = .returned (.int .u64 (lastOf r)) ∧ Below w.heap.size w w' := by
  go_enter Tryz.func53, Tryz.ntmps53
  go_wp2
  go_ret
  exact ⟨ret_int (lastOf_wrap r), (Below.refl _ _).alloc (Nat.le_refl _) _⟩

set_option maxHeartbeats 400000 in
theorem Check1_any (r : Reg) (w : World) (A : Option Addr) (c : Nat) :
    Calls Tryz.prog 52 #[.agg #[.int .u64 r.base, .slice A r.bytes.length c, .bool r.write]] w fun e w' => e = .returned (.bool (decide (1048576 < r.bytes.length))) ∧ Below w.heap.size w w' := by
  go_enter Tryz.func52, Tryz.ntmps52
  go_wp2
  go_ret
  exact ⟨ret_bool (by simp; omega), (Below.refl _ _).alloc (Nat.le_refl _) _⟩

/-- Two regions meet. -/
def meets (o r : Reg) : Bool := decide (o.base ≤ lastOf r ∧ r.base ≤ lastOf o)

set_option maxHeartbeats 400000 in
theorem Check2_any (o r : Reg) (w : World) (A A' : Option Addr) (c c' : Nat) (br : Nat) (hbr : br < w.heap.size)
    (h0 : w.cell? ⟨br, 0, none⟩ = some (.int .u64 r.base)) (h1 : w.cell? ⟨br, 1, none⟩ = some (.slice A' r.bytes.length c')) (h2 : w.cell? ⟨br, 2, none⟩ = some (.bool r.write)) :
    Calls Tryz.prog 54 #[.agg #[.int .u64 o.base, .slice A o.bytes.length c, .bool o.write], .pointer (some ⟨br, 0, none⟩)] w fun e w' => e = .returned (.bool (meets o r)) ∧ Below w.heap.size w w' := by
  have hd' : decide ((o.base : Int) ≤ (lastOf r : Int)) = decide (o.base ≤ lastOf r) := by simp
  have hm : meets o r = (decide (o.base ≤ lastOf r) && decide (r.base ≤ lastOf o)) := by simp [meets]
  have HM := Lib.hid hm; clear hm
  obtain ⟨W, hW, hbw, hsz, hnew, hold⟩ := boxed w #[.int .u64 o.base, .slice A o.bytes.length c, .bool o.write] 38
  have g0 := (hold br 0 hbr).trans h0
  have g1 := (hold br 1 hbr).trans h1
  have g2 := (hold br 2 hbr).trans h2
  have n0 := hnew 0
  have n1 := hnew 1
  have n2 := hnew 2
  have l0 : w.heap.size < W.heap.size := by omega
  have l1 : br < W.heap.size := by omega
  have HW := Lib.hid hW
  clear h0 h1 h2 hnew hold hsz hW
  by_cases hd : o.base ≤ lastOf r
  · rw [decide_eq_true hd] at hd'
    go_enter Tryz.func54, Tryz.ntmps54
    go_wp2
    rw [← HW.out]
    (refine wp_region_lines (Below W.heap.size W) (by kernel_rfl) (by kernel_rfl) (Below.refl _ _).drew ?_)
    have hS := (Below.refl W.heap.size W).drew
    (try simp only [])
    repeat (first | (refine runL_no (by rfl) ?_; (try simp only [Act.put, List.setIfInBounds_toArray, List.set_cons_zero, List.set_cons_succ])) | (refine runL_val (v := ?_) (by rfl) ?_ ?_; rotate_left; (focus (intro w_ hw_; have hc_ := bcell hw_; go_simp; (try with_reducible rfl); done)); (try simp only [Act.put, List.setIfInBounds_toArray, List.set_cons_zero, List.set_cons_succ])) | (refine runL_call (f := ?_) (args := ?_) (w1 := ?_) (by rfl) (by rfl) ?_ ?_; rotate_left 3; (focus (go_simp; refine ⟨⟨?_, ?_⟩, ?_⟩ <;> with_reducible rfl)); refine (last_any _ _ _ _).mono ?_; rintro e w1 ⟨rfl, hb1⟩; replace hS := hS.trans (hb1.mono hS.size); refine ⟨_, rfl, .inr hS, ?_⟩; clear hb1; (try simp only [Act.put, List.setIfInBounds_toArray, List.set_cons_zero, List.set_cons_succ])))
    (refine runL_nil ?_)
    go_wp2
    go_ret
    exact ⟨ret_bool (by rw [HM.out]; simp [hd]), hbw.trans (hS.mono hbw.size)⟩
  · rw [decide_eq_false hd] at hd'
    go_enter Tryz.func54, Tryz.ntmps54
    go_wp2
    rw [← HW.out]
    (refine wp_region_lines (Below W.heap.size W) (by kernel_rfl) (by kernel_rfl) (Below.refl _ _).drew ?_)
    have hS := (Below.refl W.heap.size W).drew
    (try simp only [])
    repeat (first | (refine runL_no (by rfl) ?_; (try simp only [Act.put, List.setIfInBounds_toArray, List.set_cons_zero, List.set_cons_succ])) | (refine runL_val (v := ?_) (by rfl) ?_ ?_; rotate_left; (focus (intro w_ hw_; have hc_ := bcell hw_; go_simp; (try with_reducible rfl); done)); (try simp only [Act.put, List.setIfInBounds_toArray, List.set_cons_zero, List.set_cons_succ])) | (refine runL_call (f := ?_) (args := ?_) (w1 := ?_) (by rfl) (by rfl) ?_ ?_; rotate_left 3; (focus (go_simp; refine ⟨⟨?_, ?_⟩, ?_⟩ <;> with_reducible rfl)); refine (last_any _ _ _ _).mono ?_; rintro e w1 ⟨rfl, hb1⟩; replace hS := hS.trans (hb1.mono hS.size); refine ⟨_, rfl, .inr hS, ?_⟩; clear hb1; (try simp only [Act.put, List.setIfInBounds_toArray, List.set_cons_zero, List.set_cons_succ])))
    (refine runL_nil ?_)
    go_wp2
    go_ret
    exact ⟨ret_bool (by rw [HM.out]; simp [hd]), hbw.trans (hS.mono hbw.size)⟩

/-- Region number k can not be. -/
def chkBad (l : List Reg) (k : Nat) : Bool := match l[k]? with
  | some r => r.bytes.isEmpty || decide (lastOf r < r.base) || (l.take k).any fun o => meets o r
  | none => false
/-- memory.Check. -/
def checkF (l : List Reg) : Int := if 8 < l.length ∨ (l.any fun r => decide (1048576 < r.bytes.length)) = true then 3 else if (List.range l.length).any (chkBad l) = true then 2 else 0

theorem checkF_long {l : List Reg} (h : 8 < l.length ∨ (l.any fun r => decide (1048576 < r.bytes.length)) = true) : checkF l = 3 := by rw [checkF, if_pos h]
theorem checkF_bad {l : List Reg} (h : ¬ (8 < l.length ∨ (l.any fun r => decide (1048576 < r.bytes.length)) = true)) {k : Nat} (hk : k < l.length) (hb : chkBad l k = true) : checkF l = 2 := by
  rw [checkF, if_neg h, if_pos (List.any_eq_true.2 ⟨k, by simpa using hk, hb⟩)]
theorem checkF_ok {l : List Reg} (h : ¬ (8 < l.length ∨ (l.any fun r => decide (1048576 < r.bytes.length)) = true)) (hb : ∀ k < l.length, chkBad l k = false) : checkF l = 0 := by
  rw [checkF, if_neg h, if_neg]
  intro he
  obtain ⟨k, hk, h1⟩ := List.any_eq_true.1 he
  rw [hb k (by simpa using hk)] at h1
  cases h1

set_option maxRecDepth 100000 in
set_option maxHeartbeats 800000 in
theorem Check_any (v : Value) (w : World) (F : Nat → Prop) (l : List Reg) (hn : l.length ≤ 9223372036854775807) (hl : RegsAt w F v l) (hF : ∀ k, F k → k < w.heap.size) :
    Calls Tryz.prog 34 #[v] w fun e w' => e = .returned (.int .i64 (checkF l)) ∧ Below w.heap.size w w' := by
  obtain ⟨A, c, rfl, hc⟩ := hl.form
  have HC := Lib.hid (ContainsFunc_any A l.length c 52 #[] w F l (fun r => decide (1048576 < r.bytes.length)) hn (fun _ _ => rfl) hl hF
    fun r _ wr _ A c _ => Check1_any r wr A c)
  have HL := Lib.hid hl; clear hl
  have HF := Lib.hid hF; clear hF
  have HLN := Lib.hid hc; clear hc
  generalize hln : l.length = n at *
  have HN := Lib.hid hln; clear hln
  by_cases h8 : 8 < n
  · go_enter Tryz.func34, Tryz.ntmps34
    go_wp2
    go_ret
    exact ⟨ret_int (checkF_long (.inl (by have := HN.out; omega))).symm, Below.refl _ _⟩
  · cases hany : l.any (fun r => decide (1048576 < r.bytes.length))
    · rw [hany] at HC
      have HLONG : Hid (¬ (8 < l.length ∨ (l.any fun r => decide (1048576 < r.bytes.length)) = true)) := by rw [hany, HN.out]; show ¬ _; simpa using h8
      have h8' : decide ((8 : Int) < (n : Int)) = false := by simp; omega
      go_enter Tryz.func34, Tryz.ntmps34
      go_wp2_with ((with_reducible refine (HC.out).mono ?_); rintro e w1 ⟨rfl, hb1⟩)
      go_loopw [14] (fun i wr => ∃ k : Nat, k ≤ n ∧ i = .int .i64 k ∧ Below w.heap.size w wr ∧ ∀ j < k, chkBad l j = false) (fun i _ => n - (intOf i).toNat)
      case atStart => exact ⟨0, by omega, rfl, hb1, fun j hj => absurd hj (by omega)⟩
      case round =>
        obtain ⟨k, hk, rfl, hbl, hall⟩ := hrel
        have HALL := Lib.hid hall; clear hall
        by_cases hlt : k < n
        · obtain ⟨r, hr⟩ : ∃ r, l[k]? = some r := ⟨_, List.getElem?_eq_getElem (by have := HN.out; omega)⟩
          obtain ⟨b, off, A', c', rfl, hFb, h0, h1, h2, hby, hb64, hlen⟩ := HL.out.at_ hr
          have hb := HF.out b hFb
          have g0 := (hbl.cell (p := ⟨b, off + k * 3, none⟩) hb).trans h0
          have g1 := (hbl.cell (p := ⟨b, off + k * 3 + 1, none⟩) hb).trans h1
          have g2 := (hbl.cell (p := ⟨b, off + k * 3 + 2, none⟩) hb).trans h2
          have HR := Lib.hid hr
          clear h0 h1 h2 hby hr
          obtain ⟨W, hW, hbw, hsz, hnew, hold⟩ := boxed wr #[.int .u64 r.base, .slice A' r.bytes.length c', .bool r.write] 38
          have n0 := hnew 0
          have n1 := hnew 1
          have n2 := hnew 2
          have m0 : wr.heap.size < W.heap.size := by omega
          have HW := Lib.hid hW
          have hbl2 := hbl.trans (hbw.mono hbl.size)
          clear hnew hold hsz hW
          have bad : ∀ v : Bool, v = (r.bytes.isEmpty || decide (lastOf r < r.base) || (l.take k).any fun o => meets o r) → chkBad l k = v := fun v hv => by rw [hv]; unfold chkBad; rw [HR.out]
          have HBAD := Lib.hid bad; clear bad
          have hemp : ∀ b, decide (r.bytes.length = 0) = b → (((r.bytes.length : Int)) == 0) = b := fun b h => by rw [← h, Bool.eq_iff_iff]; simp
          by_cases he : r.bytes.length = 0
          · have he' := hemp true (by simpa using he)
            clear hemp
            have hq : r.bytes.isEmpty = true := by simpa using List.eq_nil_of_length_eq_zero he
            have HB2 := Lib.hid (HBAD.out true (by rw [hq]; rfl)); clear HBAD hq
            have HE := Lib.hid he; clear he
            go_wp2
            rw [← HW.out]
            (refine wp_region_lines (Below W.heap.size W) (by kernel_rfl) (by kernel_rfl) (Below.refl _ _).drew ?_)
            have hS := (Below.refl W.heap.size W).drew
            (try simp only [])
            repeat (first | (refine runL_no (by rfl) ?_; (try simp only [Act.put, List.setIfInBounds_toArray, List.set_cons_zero, List.set_cons_succ])) | (refine runL_val (v := ?_) (by rfl) ?_ ?_; rotate_left; (focus (intro w_ hw_; have hc_ := bcell hw_; go_simp; (try with_reducible rfl); done)); (try simp only [Act.put, List.setIfInBounds_toArray, List.set_cons_zero, List.set_cons_succ])) | (refine runL_call (f := ?_) (args := ?_) (w1 := ?_) (by rfl) (by rfl) ?_ ?_; rotate_left 3; (focus (go_simp; refine ⟨⟨?_, ?_⟩, ?_⟩ <;> with_reducible rfl)); refine (last_any _ _ _ _).mono ?_; rintro e w1 ⟨rfl, hb1⟩; replace hS := hS.trans (hb1.mono hS.size); refine ⟨_, rfl, .inr hS, ?_⟩; clear hb1; (try simp only [Act.put, List.setIfInBounds_toArray, List.set_cons_zero, List.set_cons_succ])))
            (refine runL_nil ?_)
            go_wp2
            go_ret
            exact ⟨ret_int (checkF_bad HLONG.out (by have := HN.out; omega) HB2.out).symm, hbl2.trans (hS.mono hbl2.size)⟩
          · have he' := hemp false (by simpa using he)
            clear hemp
            have hq : r.bytes.isEmpty = false := by
              cases hx : r.bytes with
              | nil => rw [hx] at he; exact absurd rfl he
              | cons => rfl
            rw [hq] at HBAD
            clear hq
            have HE := Lib.hid he; clear he
            by_cases hlo : lastOf r < r.base
            · have hlo' : decide (lastOf r < r.base) = true := by simpa using hlo
              have HB2 := Lib.hid (HBAD.out true (by simp [hlo])); clear HBAD
              go_wp2
              rw [← HW.out]
              (refine wp_region_lines (Below W.heap.size W) (by kernel_rfl) (by kernel_rfl) (Below.refl _ _).drew ?_)
              have hS := (Below.refl W.heap.size W).drew
              (try simp only [])
              repeat (first | (refine runL_no (by rfl) ?_; (try simp only [Act.put, List.setIfInBounds_toArray, List.set_cons_zero, List.set_cons_succ])) | (refine runL_val (v := ?_) (by rfl) ?_ ?_; rotate_left; (focus (intro w_ hw_; have hc_ := bcell hw_; go_simp; (try with_reducible rfl); done)); (try simp only [Act.put, List.setIfInBounds_toArray, List.set_cons_zero, List.set_cons_succ])) | (refine runL_call (f := ?_) (args := ?_) (w1 := ?_) (by rfl) (by rfl) ?_ ?_; rotate_left 3; (focus (go_simp; refine ⟨⟨?_, ?_⟩, ?_⟩ <;> with_reducible rfl)); refine (last_any _ _ _ _).mono ?_; rintro e w1 ⟨rfl, hb1⟩; replace hS := hS.trans (hb1.mono hS.size); refine ⟨_, rfl, .inr hS, ?_⟩; clear hb1; (try simp only [Act.put, List.setIfInBounds_toArray, List.set_cons_zero, List.set_cons_succ])))
              (refine runL_nil ?_)
              go_wp2
              go_ret
              exact ⟨ret_int (checkF_bad HLONG.out (by have := HN.out; omega) HB2.out).symm, hbl2.trans (hS.mono hbl2.size)⟩
            · have hlo' : decide (lastOf r < r.base) = false := by simpa using hlo
              have HLO := Lib.hid hlo; clear hlo
              go_wp2
              rw [← HW.out]
              (refine wp_region_lines (Below W.heap.size W) (by kernel_rfl) (by kernel_rfl) (Below.refl _ _).drew ?_)
              have hS := (Below.refl W.heap.size W).drew
              (try simp only [])
              repeat (first | (refine runL_no (by rfl) ?_; (try simp only [Act.put, List.setIfInBounds_toArray, List.set_cons_zero, List.set_cons_succ])) | (refine runL_val (v := ?_) (by rfl) ?_ ?_; rotate_left; (focus (intro w_ hw_; have hc_ := bcell hw_; go_simp; (try with_reducible rfl); done)); (try simp only [Act.put, List.setIfInBounds_toArray, List.set_cons_zero, List.set_cons_succ])) | (refine runL_call (f := ?_) (args := ?_) (w1 := ?_) (by rfl) (by rfl) ?_ ?_; rotate_left 3; (focus (go_simp; refine ⟨⟨?_, ?_⟩, ?_⟩ <;> with_reducible rfl)); refine (last_any _ _ _ _).mono ?_; rintro e w1 ⟨rfl, hb1⟩; replace hS := hS.trans (hb1.mono hS.size); refine ⟨_, rfl, .inr hS, ?_⟩; clear hb1; (try simp only [Act.put, List.setIfInBounds_toArray, List.set_cons_zero, List.set_cons_succ])))
              (refine runL_nil ?_)
              have hb3 := hbl2.trans (hS.mono hbl2.size)
              have hkn : (k : Int) ≤ n := by omega
              have hnc := HLN.out
              have hlA : wr.heap.size < w1.heap.size := by have := hS.size; omega
              have c0 : ∀ wr', Below w1.heap.size w1 wr' → ∀ i u, W.cell? ⟨wr.heap.size, i, none⟩ = some u → wr'.cell? ⟨wr.heap.size, i, none⟩ = some u := fun wr' hb' i u hu =>
                (hb'.cell (p := ⟨wr.heap.size, i, none⟩) hlA).trans ((hS.cell (p := ⟨wr.heap.size, i, none⟩) m0).trans hu)
              have HCC := Lib.hid (ContainsFunc_any (some ⟨b, off, none⟩) k c 54 #[.pointer (some ⟨wr.heap.size, 0, none⟩)] w1 F (l.take k) (fun o => meets o r) (by omega) (fun _ _ => rfl)
                ((HL.out.take hk).below hb3 HF.out) (fun q hq => by have := HF.out q hq; have := hb3.size; omega)
                fun o _ wr' hb' A c _ => Check2_any o r wr' A A' c c' wr.heap.size (by have := hb'.size; omega) (c0 wr' hb' 0 _ n0) (c0 wr' hb' 1 _ n1) (c0 wr' hb' 2 _ n2))
              clear c0 hlA
              cases hm : (l.take k).any fun o => meets o r
              · rw [hm] at HCC
                have HB2 := Lib.hid (HBAD.out false (by simp [hm, HLO.out])); clear HBAD hm
                go_wp2_with ((with_reducible refine (HCC.out).mono ?_); rintro e w2 ⟨rfl, hb2⟩)
                go_roundw
                case rel => exact ⟨k + 1, by omega, by go_num, hb3.trans (hb2.mono hb3.size), fun j hj => by
                  rcases Nat.lt_or_ge j k with h | h
                  · exact HALL.out j h
                  · rw [show j = k from by omega]; exact HB2.out⟩
                case measure => simp [intOf]; omega
              · rw [hm] at HCC
                have HB2 := Lib.hid (HBAD.out true (by simp [hm])); clear HBAD hm
                go_wp2_with ((with_reducible refine (HCC.out).mono ?_); rintro e w2 ⟨rfl, hb2⟩)
                go_ret
                exact ⟨ret_int (checkF_bad HLONG.out (by have := HN.out; omega) HB2.out).symm, hb3.trans (hb2.mono hb3.size)⟩
        · go_wp2
          go_ret
          exact ⟨ret_int (checkF_ok HLONG.out (by have := HN.out; have := HALL.out; intro j hj; exact this j (by omega))).symm, hbl⟩
    · rw [hany] at HC
      go_enter Tryz.func34, Tryz.ntmps34
      go_wp2_with ((with_reducible refine (HC.out).mono ?_); rintro e w1 ⟨rfl, hb1⟩)
      go_ret
      exact ⟨ret_int (checkF_long (.inr hany)).symm, hb1⟩
end Go.Proofs.YtmanhikpccnfaaaGreat
