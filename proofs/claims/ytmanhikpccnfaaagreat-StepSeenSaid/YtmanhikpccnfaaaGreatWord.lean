/- word.Add, Sub, Mul, and the reference's. -/
import Derived.Test.YtmanhikpccnfaaaGreatWordsA
import Derived.Test.YtmanhikpccnfaaaGreatPlainStep
import Derived.Laws.Bits64
import Derived.Laws.Bits64b
import Derived.Outline
namespace Go.Proofs.YtmanhikpccnfaaaGreat
open Go.RowKit

theorem wrapU' (x : Int) : IntKind.u64.wrap x = x % 18446744073709551616 := by simp [IntKind.wrap, IntKind.bits, IntKind.signed]

set_option maxHeartbeats 400000 in
theorem Add_any (a b : Nat) (c : Bool) (w : World) (ha : a < 18446744073709551616) (hb : b < 18446744073709551616) :
    Calls Tryz.prog 121 #[.int .u64 a, .int .u64 b, .bool c] w fun e w' => e = .returned (.tuple #[.int .u64 ((addF a b c).1 : Nat), .bool (addF a b c).2]) ∧ w = w' := by
  obtain ⟨s, hs⟩ : ∃ s : Nat, s = (a + b) % 18446744073709551616 := ⟨_, rfl⟩
  have e1 : IntKind.u64.wrap ((a : Int) + (b : Int)) = (s : Int) := by rw [wrapU']; omega
  cases c with
  | false =>
    have h1 : addF a b false = (s, decide (s < a)) := by simp only [addF, Bool.toNat_false, Nat.add_zero, ← hs, Prod.mk.injEq, true_and, decide_eq_decide]; omega
    have H1 := Lib.hid h1
    clear h1 hs
    go_enter Tryz.func121, Tryz.ntmps121
    go_wp2
    go_ret2
    exact ⟨by rw [H1.out]; rfl, rfl⟩
  | true =>
    obtain ⟨s2, hs2⟩ : ∃ s2 : Nat, s2 = (s + 1) % 18446744073709551616 := ⟨_, rfl⟩
    have e2 : IntKind.u64.wrap ((s : Int) + 1) = (s2 : Int) := by rw [wrapU']; omega
    by_cases hlt : s < a
    · have h1 : addF a b true = (s2, true) := by simp only [addF, Bool.toNat_true, Prod.mk.injEq, decide_eq_true_eq]; omega
      have hd : decide (s < a) = true := by simpa using hlt
      have H1 := Lib.hid h1
      clear h1 hs hs2 hlt
      go_enter Tryz.func121, Tryz.ntmps121
      go_wp2
      go_ret2
      exact ⟨by rw [H1.out]; rfl, rfl⟩
    · have h1 : addF a b true = (s2, s2 == 0) := Prod.ext (by simp only [addF, Bool.toNat_true]; omega) (by simp only [addF, Bool.toNat_true]; rw [Bool.eq_iff_iff, decide_eq_true_eq, beq_iff_eq]; omega)
      have hd : decide (s < a) = false := by simpa using hlt
      have hz : ((s2 : Int) == 0) = (s2 == 0) := by rw [Bool.eq_iff_iff, beq_iff_eq, beq_iff_eq]; omega
      generalize (s2 == 0) = z at *
      have H1 := Lib.hid h1
      clear h1 hs hs2 hlt
      go_enter Tryz.func121, Tryz.ntmps121
      go_wp2
      go_ret2
      exact ⟨by rw [H1.out]; rfl, rfl⟩

set_option maxHeartbeats 400000 in
theorem RAdd_any (a b : Nat) (c : Bool) (w : World) (ha : a < 18446744073709551616) (hb : b < 18446744073709551616) :
    Calls Tryz.prog 75 #[.int .u64 a, .int .u64 b, .bool c] w fun e w' => e = .returned (.tuple #[.int .u64 ((addF a b c).1 : Nat), .bool (addF a b c).2]) ∧ w = w' := by
  obtain ⟨s, hs⟩ : ∃ s : Nat, s = (a + b) % 18446744073709551616 := ⟨_, rfl⟩
  have e1 : IntKind.u64.wrap ((a : Int) + (b : Int)) = (s : Int) := by rw [wrapU']; omega
  cases c with
  | false =>
    have h1 : addF a b false = (s, decide (s < a)) := by simp only [addF, Bool.toNat_false, Nat.add_zero, ← hs, Prod.mk.injEq, true_and, decide_eq_decide]; omega
    have H1 := Lib.hid h1
    clear h1 hs
    go_enter Tryz.func75, Tryz.ntmps75
    go_wp2
    go_ret2
    exact ⟨by rw [H1.out]; rfl, rfl⟩
  | true =>
    obtain ⟨s2, hs2⟩ : ∃ s2 : Nat, s2 = (s + 1) % 18446744073709551616 := ⟨_, rfl⟩
    have e2 : IntKind.u64.wrap ((s : Int) + 1) = (s2 : Int) := by rw [wrapU']; omega
    by_cases hlt : s < a
    · have h1 : addF a b true = (s2, true) := by simp only [addF, Bool.toNat_true, Prod.mk.injEq, decide_eq_true_eq]; omega
      have hd : decide (s < a) = true := by simpa using hlt
      have H1 := Lib.hid h1
      clear h1 hs hs2 hlt
      go_enter Tryz.func75, Tryz.ntmps75
      go_wp2
      go_ret2
      exact ⟨by rw [H1.out]; rfl, rfl⟩
    · have h1 : addF a b true = (s2, s2 == 0) := Prod.ext (by simp only [addF, Bool.toNat_true]; omega) (by simp only [addF, Bool.toNat_true]; rw [Bool.eq_iff_iff, decide_eq_true_eq, beq_iff_eq]; omega)
      have hd : decide (s < a) = false := by simpa using hlt
      have hz : ((s2 : Int) == 0) = (s2 == 0) := by rw [Bool.eq_iff_iff, beq_iff_eq, beq_iff_eq]; omega
      generalize (s2 == 0) = z at *
      have H1 := Lib.hid h1
      clear h1 hs hs2 hlt
      go_enter Tryz.func75, Tryz.ntmps75
      go_wp2
      go_ret2
      exact ⟨by rw [H1.out]; rfl, rfl⟩

set_option maxHeartbeats 400000 in
theorem Sub_any (a b : Nat) (c : Bool) (w : World) (ha : a < 18446744073709551616) (hb : b < 18446744073709551616) :
    Calls Tryz.prog 124 #[.int .u64 a, .int .u64 b, .bool c] w fun e w' => e = .returned (.tuple #[.int .u64 ((subF a b c).1 : Nat), .bool (subF a b c).2]) ∧ w = w' := by
  obtain ⟨s, hs⟩ : ∃ s : Nat, s = (18446744073709551616 + a - b) % 18446744073709551616 := ⟨_, rfl⟩
  have e1 : IntKind.u64.wrap ((a : Int) - (b : Int)) = (s : Int) := by rw [wrapU']; omega
  cases c with
  | false =>
    have h1 : subF a b false = (s, decide (a < b)) := by simp only [subF, Bool.toNat_false, Nat.add_zero, Nat.sub_zero, ← hs]
    have H1 := Lib.hid h1
    clear h1 hs
    go_enter Tryz.func124, Tryz.ntmps124
    go_wp2
    go_ret2
    exact ⟨by rw [H1.out]; rfl, rfl⟩
  | true =>
    obtain ⟨s2, hs2⟩ : ∃ s2 : Nat, s2 = (18446744073709551616 + s - 1) % 18446744073709551616 := ⟨_, rfl⟩
    have e2 : IntKind.u64.wrap ((s : Int) - 1) = (s2 : Int) := by rw [wrapU']; omega
    by_cases hlt : a < b
    · have h1 : subF a b true = (s2, true) := by simp only [subF, Bool.toNat_true, Prod.mk.injEq, decide_eq_true_eq]; omega
      have hd : decide (a < b) = true := by simpa using hlt
      have H1 := Lib.hid h1
      clear h1 hs hs2 hlt
      go_enter Tryz.func124, Tryz.ntmps124
      go_wp2
      go_ret2
      exact ⟨by rw [H1.out]; rfl, rfl⟩
    · have h1 : subF a b true = (s2, s == 0) := Prod.ext (by simp only [subF, Bool.toNat_true]; omega) (by simp only [subF, Bool.toNat_true]; rw [Bool.eq_iff_iff, decide_eq_true_eq, beq_iff_eq]; omega)
      have hd : decide (a < b) = false := by simpa using hlt
      have hz : ((s : Int) == 0) = (s == 0) := by rw [Bool.eq_iff_iff, beq_iff_eq, beq_iff_eq]; omega
      generalize (s == 0) = z at *
      have H1 := Lib.hid h1
      clear h1 hs hs2 hlt
      go_enter Tryz.func124, Tryz.ntmps124
      go_wp2
      go_ret2
      exact ⟨by rw [H1.out]; rfl, rfl⟩

set_option maxHeartbeats 400000 in
theorem RSub_any (a b : Nat) (c : Bool) (w : World) (ha : a < 18446744073709551616) (hb : b < 18446744073709551616) :
    Calls Tryz.prog 109 #[.int .u64 a, .int .u64 b, .bool c] w fun e w' => e = .returned (.tuple #[.int .u64 ((subF a b c).1 : Nat), .bool (subF a b c).2]) ∧ w = w' := by
  obtain ⟨s, hs⟩ : ∃ s : Nat, s = (18446744073709551616 + a - b) % 18446744073709551616 := ⟨_, rfl⟩
  have e1 : IntKind.u64.wrap ((a : Int) - (b : Int)) = (s : Int) := by rw [wrapU']; omega
  cases c with
  | false =>
    have h1 : subF a b false = (s, decide (a < b)) := by simp only [subF, Bool.toNat_false, Nat.add_zero, Nat.sub_zero, ← hs]
    have H1 := Lib.hid h1
    clear h1 hs
    go_enter Tryz.func109, Tryz.ntmps109
    go_wp2
    go_ret2
    exact ⟨by rw [H1.out]; rfl, rfl⟩
  | true =>
    obtain ⟨s2, hs2⟩ : ∃ s2 : Nat, s2 = (18446744073709551616 + s - 1) % 18446744073709551616 := ⟨_, rfl⟩
    have e2 : IntKind.u64.wrap ((s : Int) - 1) = (s2 : Int) := by rw [wrapU']; omega
    by_cases hlt : a < b
    · have h1 : subF a b true = (s2, true) := by simp only [subF, Bool.toNat_true, Prod.mk.injEq, decide_eq_true_eq]; omega
      have hd : decide (a < b) = true := by simpa using hlt
      have H1 := Lib.hid h1
      clear h1 hs hs2 hlt
      go_enter Tryz.func109, Tryz.ntmps109
      go_wp2
      go_ret2
      exact ⟨by rw [H1.out]; rfl, rfl⟩
    · have h1 : subF a b true = (s2, s == 0) := Prod.ext (by simp only [subF, Bool.toNat_true]; omega) (by simp only [subF, Bool.toNat_true]; rw [Bool.eq_iff_iff, decide_eq_true_eq, beq_iff_eq]; omega)
      have hd : decide (a < b) = false := by simpa using hlt
      have hz : ((s : Int) == 0) = (s == 0) := by rw [Bool.eq_iff_iff, beq_iff_eq, beq_iff_eq]; omega
      generalize (s == 0) = z at *
      have H1 := Lib.hid h1
      clear h1 hs hs2 hlt
      go_enter Tryz.func109, Tryz.ntmps109
      go_wp2
      go_ret2
      exact ⟨by rw [H1.out]; rfl, rfl⟩

theorem low_half (a : Nat) (h : a < 18446744073709551616) : Go.bits .and .u64 (a : Int) 4294967295 = ((a % 4294967296 : Nat) : Int) := by
  have := bits_and_u64_nat a 4294967295 h (by decide)
  rw [show ((4294967295 : Nat) : Int) = 4294967295 from rfl] at this
  rw [this, show (4294967295 : Nat) = 2 ^ 32 - 1 from rfl, Nat.and_two_pow_sub_one_eq_mod]

set_option maxHeartbeats 400000 in
theorem Mul_any (a b : Nat) (w : World) (ha : a < 18446744073709551616) (hb : b < 18446744073709551616) :
    Calls Tryz.prog 69 #[.int .u64 a, .int .u64 b] w fun e w' => e = .returned (.tuple #[.int .u64 ((mulF a b).1 : Nat), .int .u64 ((mulF a b).2 : Nat)]) ∧ w = w' := by
  obtain ⟨x, hx⟩ : ∃ x : Nat, x = a / 4294967296 := ⟨_, rfl⟩
  obtain ⟨y, hy⟩ : ∃ y : Nat, y = a % 4294967296 := ⟨_, rfl⟩
  obtain ⟨u, hu⟩ : ∃ u : Nat, u = b / 4294967296 := ⟨_, rfl⟩
  obtain ⟨v, hv⟩ : ∃ v : Nat, v = b % 4294967296 := ⟨_, rfl⟩
  have ea := low_half a ha
  have eb := low_half b hb
  rw [← hy] at ea
  rw [← hv] at eb
  have ax : (a : Int) / 4294967296 = (x : Int) := by omega
  have bu : (b : Int) / 4294967296 = (u : Int) := by omega
  have lim : ∀ p q : Nat, p ≤ 4294967295 → q ≤ 4294967295 → p * q ≤ 18446744065119617025 := fun p q h1 h2 => Nat.mul_le_mul h1 h2
  have l1 := lim y v (by omega) (by omega)
  have l2 := lim x v (by omega) (by omega)
  have l3 := lim y u (by omega) (by omega)
  have l4 := lim x u (by omega) (by omega)
  have hm := mul_halves ha hb x y u v _ _ hx hy hu hv rfl rfl
  have w5 : IntKind.u64.wrap ((a : Int) * (b : Int)) = ((mulF a b).2 : Int) := by rw [wrapU', ← Int.natCast_mul]; simp only [mulF]; omega
  have c1 : (y : Int) * (v : Int) = ((y * v : Nat) : Int) := by simp
  have c2 : (x : Int) * (v : Int) = ((x * v : Nat) : Int) := by simp
  have c3 : (y : Int) * (u : Int) = ((y * u : Nat) : Int) := by simp
  have c4 : (x : Int) * (u : Int) = ((x * u : Nat) : Int) := by simp
  have hbig : a * b / 18446744073709551616 ≤ 18446744073709551615 := by
    have := Nat.mul_le_mul (Nat.le_of_lt_succ ha) (Nat.le_of_lt_succ hb)
    omega
  generalize hf : y * v = f at *
  generalize hg : x * v = g at *
  generalize hh : y * u = h at *
  generalize hk : x * u = k at *
  have d1 : IntKind.u64.wrap (f : Int) = (f : Int) := by rw [wrapU']; omega
  have d2 : IntKind.u64.wrap (g : Int) = (g : Int) := by rw [wrapU']; omega
  have d3 : IntKind.u64.wrap (h : Int) = (h : Int) := by rw [wrapU']; omega
  have d4 : IntKind.u64.wrap (k : Int) = (k : Int) := by rw [wrapU']; omega
  obtain ⟨m, hmm⟩ : ∃ m : Nat, m = g + f / 4294967296 := ⟨_, rfl⟩
  rw [← hmm] at hm
  obtain ⟨n, hnn⟩ : ∃ n : Nat, n = h + m % 4294967296 := ⟨_, rfl⟩
  rw [← hnn] at hm
  have em := low_half m (by omega)
  obtain ⟨q, hq⟩ : ∃ q : Nat, q = m % 4294967296 := ⟨_, rfl⟩
  rw [← hq] at em
  have w1 : IntKind.u64.wrap ((g : Int) + (f : Int) / 4294967296) = (m : Int) := by rw [wrapU']; omega
  have w2 : IntKind.u64.wrap ((h : Int) + (q : Int)) = (n : Int) := by rw [wrapU']; omega
  obtain ⟨p, hp⟩ : ∃ p : Nat, p = k + m / 4294967296 := ⟨_, rfl⟩
  have w3 : IntKind.u64.wrap ((k : Int) + (m : Int) / 4294967296) = (p : Int) := by rw [wrapU']; omega
  obtain ⟨z, hz⟩ : ∃ z : Nat, z = (mulF a b).1 := ⟨_, rfl⟩
  have hz2 : z = p + n / 4294967296 := by rw [hz, hp]; exact hm.symm
  have w4 : IntKind.u64.wrap ((p : Int) + (n : Int) / 4294967296) = (z : Int) := by rw [wrapU']; omega
  obtain ⟨z', hz'⟩ : ∃ z' : Nat, z' = (mulF a b).2 := ⟨_, rfl⟩
  rw [← hz, ← hz']
  rw [← hz'] at w5
  clear hx hy hu hv hm hmm hnn hf hg hh hk l1 l2 l3 l4 lim hbig hp hq hz hz2 hz'
  go_enter Tryz.func69, Tryz.ntmps69
  go_wp2
  go_ret2
  exact ⟨rfl, rfl⟩

set_option maxHeartbeats 400000 in
theorem RMul_any (a b : Nat) (w : World) (ha : a < 18446744073709551616) (hb : b < 18446744073709551616) :
    Calls Tryz.prog 47 #[.int .u64 a, .int .u64 b] w fun e w' => e = .returned (.tuple #[.int .u64 ((mulF a b).1 : Nat), .int .u64 ((mulF a b).2 : Nat)]) ∧ w = w' := by
  obtain ⟨x, hx⟩ : ∃ x : Nat, x = a / 4294967296 := ⟨_, rfl⟩
  obtain ⟨y, hy⟩ : ∃ y : Nat, y = a % 4294967296 := ⟨_, rfl⟩
  obtain ⟨u, hu⟩ : ∃ u : Nat, u = b / 4294967296 := ⟨_, rfl⟩
  obtain ⟨v, hv⟩ : ∃ v : Nat, v = b % 4294967296 := ⟨_, rfl⟩
  have ea := low_half a ha
  have eb := low_half b hb
  rw [← hy] at ea
  rw [← hv] at eb
  have ax : (a : Int) / 4294967296 = (x : Int) := by omega
  have bu : (b : Int) / 4294967296 = (u : Int) := by omega
  have lim : ∀ p q : Nat, p ≤ 4294967295 → q ≤ 4294967295 → p * q ≤ 18446744065119617025 := fun p q h1 h2 => Nat.mul_le_mul h1 h2
  have l1 := lim y v (by omega) (by omega)
  have l2 := lim x v (by omega) (by omega)
  have l3 := lim y u (by omega) (by omega)
  have l4 := lim x u (by omega) (by omega)
  have hm := mul_halves ha hb x y u v _ _ hx hy hu hv rfl rfl
  have w5 : IntKind.u64.wrap ((a : Int) * (b : Int)) = ((mulF a b).2 : Int) := by rw [wrapU', ← Int.natCast_mul]; simp only [mulF]; omega
  have c1 : (y : Int) * (v : Int) = ((y * v : Nat) : Int) := by simp
  have c2 : (x : Int) * (v : Int) = ((x * v : Nat) : Int) := by simp
  have c3 : (y : Int) * (u : Int) = ((y * u : Nat) : Int) := by simp
  have c4 : (x : Int) * (u : Int) = ((x * u : Nat) : Int) := by simp
  have hbig : a * b / 18446744073709551616 ≤ 18446744073709551615 := by
    have := Nat.mul_le_mul (Nat.le_of_lt_succ ha) (Nat.le_of_lt_succ hb)
    omega
  generalize hf : y * v = f at *
  generalize hg : x * v = g at *
  generalize hh : y * u = h at *
  generalize hk : x * u = k at *
  have d1 : IntKind.u64.wrap (f : Int) = (f : Int) := by rw [wrapU']; omega
  have d2 : IntKind.u64.wrap (g : Int) = (g : Int) := by rw [wrapU']; omega
  have d3 : IntKind.u64.wrap (h : Int) = (h : Int) := by rw [wrapU']; omega
  have d4 : IntKind.u64.wrap (k : Int) = (k : Int) := by rw [wrapU']; omega
  obtain ⟨m, hmm⟩ : ∃ m : Nat, m = g + f / 4294967296 := ⟨_, rfl⟩
  rw [← hmm] at hm
  obtain ⟨n, hnn⟩ : ∃ n : Nat, n = h + m % 4294967296 := ⟨_, rfl⟩
  rw [← hnn] at hm
  have em := low_half m (by omega)
  obtain ⟨q, hq⟩ : ∃ q : Nat, q = m % 4294967296 := ⟨_, rfl⟩
  rw [← hq] at em
  have w1 : IntKind.u64.wrap ((g : Int) + (f : Int) / 4294967296) = (m : Int) := by rw [wrapU']; omega
  have w2 : IntKind.u64.wrap ((h : Int) + (q : Int)) = (n : Int) := by rw [wrapU']; omega
  obtain ⟨p, hp⟩ : ∃ p : Nat, p = k + m / 4294967296 := ⟨_, rfl⟩
  have w3 : IntKind.u64.wrap ((k : Int) + (m : Int) / 4294967296) = (p : Int) := by rw [wrapU']; omega
  obtain ⟨z, hz⟩ : ∃ z : Nat, z = (mulF a b).1 := ⟨_, rfl⟩
  have hz2 : z = p + n / 4294967296 := by rw [hz, hp]; exact hm.symm
  have w4 : IntKind.u64.wrap ((p : Int) + (n : Int) / 4294967296) = (z : Int) := by rw [wrapU']; omega
  obtain ⟨z', hz'⟩ : ∃ z' : Nat, z' = (mulF a b).2 := ⟨_, rfl⟩
  rw [← hz, ← hz']
  rw [← hz'] at w5
  clear hx hy hu hv hm hmm hnn hf hg hh hk l1 l2 l3 l4 lim hbig hp hq hz hz2 hz'
  go_enter Tryz.func47, Tryz.ntmps47
  go_wp2
  go_ret2
  exact ⟨rfl, rfl⟩

end Go.Proofs.YtmanhikpccnfaaaGreat
