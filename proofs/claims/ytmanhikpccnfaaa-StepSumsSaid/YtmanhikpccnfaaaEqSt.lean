/- '==' between states, and between registers. -/
import Derived.Test.YtmanhikpccnfaaaStepAt
import Derived.DeepKeys
namespace Go.Proofs.Ytmanhikpccnfaaa
open Go.RowKit

def regLits (l : List Nat) : List Lit := l.map fun r => Lit.int .u64 (r : Nat)
def stLits (s : St) : List Lit := regLits s.regs ++ [.int .u64 s.pc, .bool s.cf, .bool s.of_, .bool s.zf]
theorem regLits_inj {a b : List Nat} (h : regLits a = regLits b) : a = b := by
  unfold regLits at h
  exact (List.map_inj_right (fun x y h => by injection h with _ h; omega)).1 h
theorem stLits_inj {s t : St} (hl : s.regs.length = t.regs.length) (h : stLits s = stLits t) : s = t := by
  unfold stLits at h
  obtain ⟨h1, h2⟩ := List.append_inj h (by simpa [regLits] using hl)
  have h1 := regLits_inj h1
  rcases s with ⟨_, _, _, _, _⟩
  rcases t with ⟨_, _, _, _, _⟩
  simp at h1 h2
  simp only [St.mk.injEq]
  exact ⟨h1, by omega, h2.2.1, h2.2.2.1, h2.2.2.2⟩
theorem bool_of_iff {r q : Bool} {p : Prop} (h1 : r = true ↔ p) (h2 : q = true ↔ p) : r = q := by
  cases r <;> cases q <;> simp_all

theorem key_u64 (d r : Nat) (h : r < 18446744073709551616) : Try.prog.keyLits (d + 1) 22 [Value.int .u64 (r : Nat)] = some [Lit.int .u64 (r : Nat)] := by
  unfold Program.keyLits
  rw [Try.underlying22]
  have hw : (Lit.int IntKind.u64 (r : Nat)).wf = true := by simp [Lit.wf, IntKind.min, IntKind.max, IntKind.bits, IntKind.signed]; omega
  simp [hw]
theorem key_bool (d : Nat) (b : Bool) : Try.prog.keyLits (d + 1) 4 [Value.bool b] = some [Lit.bool b] := by
  unfold Program.keyLits
  rw [Try.underlying4]
theorem cells_u64 : Try.prog.cellsOf 22 = 1 := by kernel_rfl
theorem cells_bool : Try.prog.cellsOf 4 = 1 := by kernel_rfl
theorem cells_16 : Try.prog.cellsOf 28 = 16 := by kernel_rfl
theorem key_regs (d : Nat) (l : List Nat) (hl : l.length = 16) (hb : ∀ r ∈ l, r < 18446744073709551616) : Try.prog.keyLits (d + 2) 28 (l.map fun r => Value.int .u64 (r : Nat)) = some (regLits l) := by
  obtain ⟨a0, a1, a2, a3, a4, a5, a6, a7, a8, a9, a10, a11, a12, a13, a14, a15, rfl⟩ := sixteen l hl
  simp only [List.forall_mem_cons] at hb
  obtain ⟨b0, b1, b2, b3, b4, b5, b6, b7, b8, b9, b10, b11, b12, b13, b14, b15, _⟩ := hb
  unfold Program.keyLits
  rw [Try.underlying28]
  simp only [cells_16, cells_u64]
  rw [if_pos (by simp)]
  rw [show List.range 16 = [0, 1, 2, 3, 4, 5, 6, 7, 8, 9, 10, 11, 12, 13, 14, 15] from rfl]
  simp [key_u64 d, b0, b1, b2, b3, b4, b5, b6, b7, b8, b9, b10, b11, b12, b13, b14, b15, regLits]

theorem eq_regs (a b : List Nat) (ha : a.length = 16) (hb : b.length = 16) (ha' : ∀ r ∈ a, r < 18446744073709551616) (hb' : ∀ r ∈ b, r < 18446744073709551616) (w : World) {X Y : Array Value} (hX : X = (a.map fun r => Value.int .u64 (r : Nat)).toArray) (hY : Y = (b.map fun r => Value.int .u64 (r : Nat)).toArray) : (Op.equalIn 10000 28 (.agg X) (.agg Y)).run Try.prog w = .ok (a == b) w := by
  subst hX
  subst hY
  have hf : ∀ l : List Nat, l.length = 16 → (∀ r ∈ l, r < 18446744073709551616) → (Value.agg (l.map fun r => Value.int .u64 (r : Nat)).toArray).formed Try.prog 28 = true ∧ Try.prog.keyLits 20 28 (Value.agg (l.map fun r => Value.int .u64 (r : Nat)).toArray).cells.toList = some (regLits l) := fun l hl hb => by
    refine ⟨?_, key_regs 18 l hl hb⟩
    obtain ⟨a0, a1, a2, a3, a4, a5, a6, a7, a8, a9, a10, a11, a12, a13, a14, a15, rfl⟩ := sixteen l hl
    kernel_rfl
  obtain ⟨r, hr, hi⟩ := run_equalIn_deep (P := Try.prog) 9995 5 28 (by kernel_rfl) w 20 20 _ _ _ _ (hf a ha ha').1 (hf b hb hb').1 (hf a ha ha').2 (hf b hb hb').2
  have : r = (a == b) := bool_of_iff hi (by
    rw [beq_iff_eq]
    exact ⟨fun h => by rw [h], regLits_inj⟩)
  rw [← this]
  exact hr
def eqSt (s t : St) : Bool := s.regs == t.regs && (s.pc == t.pc && (s.cf == t.cf && (s.of_ == t.of_ && s.zf == t.zf)))
theorem eqSt_iff (s t : St) : eqSt s t = true ↔ s = t := by
  rcases s with ⟨_, _, _, _, _⟩
  rcases t with ⟨_, _, _, _, _⟩
  simp [eqSt]
theorem key_st (d : Nat) (s : St) (h : StOk s) : Try.prog.keyLits (d + 3) 30 (stRow s) = some (stLits s) := by
  have hr := key_regs d s.regs h.len h.regs
  have hl : (stRow s).length = 20 := by simp [stRow, h.len]
  have hd : ∀ k, (stRow s).drop (16 + k) = [Value.int .u64 s.pc, .bool s.cf, .bool s.of_, .bool s.zf].drop k := fun k => by
    rw [stRow, List.drop_append, List.drop_eq_nil_of_le (by simp [h.len]), List.nil_append]
    simp [h.len]
  have ht : (stRow s).take 16 = s.regs.map fun r => Value.int .u64 (r : Nat) := by rw [stRow, List.take_append_of_le_length (by simp [h.len]), List.take_of_length_le (by simp [h.len])]
  have e16 := hd 0
  have e17 := hd 1
  have e18 := hd 2
  have e19 := hd 3
  simp only [Nat.add_zero, Nat.reduceAdd, List.drop_zero, List.drop_succ_cons] at e16 e17 e18 e19
  unfold Program.keyLits
  rw [Try.underlying30]
  simp only [show Try.prog.cellsOf 30 = 20 by kernel_rfl]
  rw [if_pos ⟨hl, by kernel_rfl⟩]
  simp [cells_16, cells_u64, cells_bool, ht, e16, e17, e18, e19, hr, key_u64 (d + 1) s.pc h.pc, key_bool (d + 1), stLits]
theorem eq_st (s t : St) (hs : StOk s) (ht : StOk t) (w : World) : (Op.equalIn 10000 30 (.agg (stRow s).toArray) (.agg (stRow t).toArray)).run Try.prog w = .ok (eqSt s t) w := by
  have hf : ∀ l : St, StOk l → (Value.agg (stRow l).toArray).formed Try.prog 30 = true ∧ Try.prog.keyLits 20 30 (Value.agg (stRow l).toArray).cells.toList = some (stLits l) := fun l hl => by
    refine ⟨?_, key_st 17 l hl⟩
    rcases l with ⟨regs, pc, cf, of_, zf⟩
    obtain ⟨a0, a1, a2, a3, a4, a5, a6, a7, a8, a9, a10, a11, a12, a13, a14, a15, rfl⟩ := sixteen regs hl.len
    kernel_rfl
  obtain ⟨r, hr, hi⟩ := run_equalIn_deep (P := Try.prog) 9995 5 30 (by kernel_rfl) w 20 20 _ _ _ _ (hf s hs).1 (hf t ht).1 (hf s hs).2 (hf t ht).2
  have : r = eqSt s t := bool_of_iff hi (by
    rw [eqSt_iff]
    exact ⟨fun h => by rw [h], stLits_inj (by rw [hs.len, ht.len])⟩)
  rw [← this]
  exact hr
end Go.Proofs.Ytmanhikpccnfaaa
