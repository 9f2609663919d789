import Derived.Test.YtmanhikpccnfaaaGreatHeld
import Derived.Test.YtmanhikpccnfaaaGreatPlainSums
import Derived.Test.YtmanhikpccnfaaaGreatEvs
import Derived.Test.YtmanhikpccnfaaaGreatWordsA
import Derived.Outline
import Derived.Test.YtmanhikpccnfaaaGreatStepAt
import Derived.DeepKeys
import Derived.Test.YtmanhikpccnfaaaGreatKit
import Derived.Test.YtmanhikpccnfaaaGreatPlainOk
import Derived.Test.YtmanhikpccnfaaaGreatRef05e
import Derived.Test.YtmanhikpccnfaaaGreatRef05f
/- keysmithlaw08: lives. -/
namespace Go.Proofs.YtmanhikpccnfaaaGreat
open Go.RowKit

theorem New_none (w0 w : World) (hb : Below w0.heap.size w0 w) : Calls Tryz.prog 10 #[.slice none 0 0] w fun e w' => ∃ bm, e = .returned (.tuple #[.pointer (some ⟨bm, 0, none⟩), .int .i64 0]) ∧ Held w0 w' (seg w.heap.size w'.heap.size) (.pointer (some ⟨bm, 0, none⟩)) [] [] [] := by
  refine (New_any _ w (fun k => k < w.heap.size) [] (by simp) ⟨[], rfl, ⟨none, 0, rfl, by simp, by simp, fun h => absurd rfl h⟩, by simp⟩ (fun _ h => h)).mono ?_
  rintro e w' ⟨hb', ⟨h0, _⟩ | ⟨_, p, rfl, hm⟩⟩
  · exact absurd rfl h0
  · obtain ⟨bm, rfl⟩ : ∃ bm, p = .pointer (some ⟨bm, 0, none⟩) := by obtain ⟨bm, v, h, _⟩ := hm; exact ⟨bm, h⟩
    exact ⟨bm, rfl, hb.trans (hb'.mono hb.size), hm, fun k hk => hk.2, fun k hk => Nat.le_trans hb.size hk.1, by simp, by simp, by simp⟩

def stL0 : St := ⟨[0, 0, 0, 0, 0, 0, 0, 0, 0, 0, 0, 0, 0, 0, 0, 0], 0, true, false, false⟩
def stL1 : St := ⟨[18446744073709551615, 0, 0, 0, 0, 0, 0, 0, 0, 0, 0, 0, 0, 0, 0, 0], 0, true, false, false⟩
def stL2 : St := ⟨[0, 0, 0, 0, 0, 0, 0, 0, 0, 0, 0, 0, 0, 0, 0, 0], 3, true, false, true⟩
def insL : Ins := ⟨7, 0, 1, 0, 0, 0, 0, 0, 0⟩
theorem okL0 : StOk stL0 := ⟨rfl, by decide, by decide⟩
theorem okL1 : StOk stL1 := ⟨rfl, by decide, by decide⟩
theorem stepL : stepF stL1 insL 3 [] = ⟨0, stL2, [⟨1, 0⟩], []⟩ := by
  have h := stepF_over (s := stL1) (i := insL) (size := 3) (rs := []) (by decide +kernel) (by decide) (by decide) rfl
  rw [h]
  rfl
theorem insOk_lit {i : Ins} (h : (decide (-9223372036854775808 ≤ i.disp) && decide (i.disp ≤ 9223372036854775807) && (decide (-9223372036854775808 ≤ i.imm) && decide (i.imm ≤ 9223372036854775807))) = true) : InsOk i := by
  simp only [Bool.and_eq_true, decide_eq_true_eq] at h
  exact ⟨h.1, h.2⟩

set_option maxRecDepth 100000 in
set_option maxHeartbeats 1600000 in
theorem lives_any (w : World) : Calls Tryz.prog 6 #[] w fun e w' => e = .returned (.bool true) ∧ Below w.heap.size w w' := by
  have HN := Lib.hid (New_none w w (Below.refl _ _))
  go_enter Tryz.func6, Tryz.ntmps6
  go_wp2_with fail
  refine HN.out.mono ?_
  rintro e w1 ⟨bm, rfl, hH⟩
  have H := Lib.hid hH
  clear hH HN
  go_upto_region 3 with (refine H.out.store_fresh (s := stL0) okL0 rfl _ _ rfl _ rfl rfl rfl ?_; intro W hW; clear H; have H := Lib.hid hW; clear hW)
  have c0 : W.cell? ⟨w1.heap.size, 0, none⟩ = some (.int .u64 0) := H.out.cell 0 0 rfl rfl
  have f0 := H.out.frozen 0 0 rfl
  go_upto_region 4 with fail
  refine wp_name ?_
  intro W1 hW1
  have hH := (H.out.setCell (i := 0) rfl 0 (.int .u64 18446744073709551615) (s' := stL1) rfl okL1).cast hW1
  clear hW1 c0 f0 H
  have H := Lib.hid hH
  clear hH
  go_wp2_with (refine H.out.load_row 0 rfl rfl _ rfl rfl ?_)
  refine (H.out.Do 0 rfl insL (insOk_lit rfl) 3 stepL).mono ?_
  rintro e w3 ⟨A, c, rfl, hH⟩
  clear H
  have H := Lib.hid hH
  clear hH
  go_upto_region 5 with (refine H.out.store_fresh (s := stL2) ⟨rfl, by decide, by decide⟩ rfl _ _ rfl _ rfl rfl rfl ?_; intro W hW; clear H; have H := Lib.hid hW; clear hW)
  have d0 : W.cell? ⟨w3.heap.size, 0, none⟩ = some (.int .u64 0) := H.out.cell 0 0 rfl rfl
  have d1 : W.cell? ⟨w3.heap.size, 16, none⟩ = some (.int .u64 3) := H.out.cell 0 16 rfl rfl
  have d2 : W.cell? ⟨w3.heap.size, 17, none⟩ = some (.bool true) := H.out.cell 0 17 rfl rfl
  have d3 : W.cell? ⟨w3.heap.size, 18, none⟩ = some (.bool false) := H.out.cell 0 18 rfl rfl
  have d4 : W.cell? ⟨w3.heap.size, 19, none⟩ = some (.bool true) := H.out.cell 0 19 rfl rfl
  go_wp2_with fail
  refine (H.out.same_lit 0 rfl [⟨1, 0⟩] 1 rfl (by decide) _ rfl).mono ?_
  rintro e w4 ⟨rfl, hH⟩
  clear H
  have H := Lib.hid hH
  clear hH
  rw [sameE_self]
  go_wp2
  go_ret
  exact ⟨rfl, H.out.below⟩
end Go.Proofs.YtmanhikpccnfaaaGreat

/- keysmithkit.Pick. -/
namespace Go.Proofs.YtmanhikpccnfaaaGreat
open Go.RowKit

theorem tmod_neg (n : Int) (m : Nat) (h1 : 1 ≤ m) (h : n < 0) : -(m:Int) < n.tmod m ∧ n.tmod m ≤ 0 ∧ n % m = (n.tmod m) % m := by
  have h3 := Int.tmod_add_mul_tdiv n m
  refine ⟨?_, ?_, ?_⟩
  · have := Int.lt_tmod_of_pos n (show (0:Int) < m by omega); omega
  · have := Int.neg_tmod (-n) m
    rw [Int.neg_neg] at this
    rw [this]
    have h2 := Int.tmod_nonneg (m : Int) (show 0 ≤ -n by omega)
    omega
  · conv => lhs; rw [← h3]
    rw [Int.add_mul_emod_self_left]

set_option maxHeartbeats 400000 in
theorem Pick_any (n : Int) (m : Nat) (w : World) (h1 : 1 ≤ m) (h2 : m ≤ 1000000) (hn : -9223372036854775808 ≤ n ∧ n ≤ 9223372036854775807) :
    Calls Tryz.prog 20 #[.int .i64 n, .int .i64 m] w fun e w' => e = .returned (.int .i64 (n % (m : Int))) ∧ w = w' := by
  obtain ⟨q, hq⟩ : ∃ q : Int, q = n % (m : Int) := ⟨_, rfl⟩
  rw [← hq]
  have HQ := Lib.hid hq
  have d1 : decide ((m : Int) < 1) = false := by simp; omega
  have d2 : ((m : Int) == 0) = false := by simp; omega
  have d3 : ¬ ((m : Int) = 0) := by omega
  clear hq
  by_cases h0 : 0 ≤ n
  · have e1 : n.tmod (m : Int) = q := by rw [HQ.out, Int.tmod_eq_emod_of_nonneg h0]
    have e2 : decide (q < 0) = false := by have := Int.emod_nonneg n (show (m : Int) ≠ 0 by omega); rw [← HQ.out] at this; simp; omega
    have e3 : 0 ≤ q := by have := Int.emod_nonneg n (show (m : Int) ≠ 0 by omega); rw [← HQ.out] at this; exact this
    have e4 : q < 1000000 := by have := Int.emod_lt_of_pos n (show (0 : Int) < m by omega); rw [← HQ.out] at this; omega
    clear hn
    go_enter Tryz.func20, Tryz.ntmps20
    go_wp2
    go_ret
    exact ⟨rfl, rfl⟩
  · obtain ⟨b1, b2, b3⟩ := tmod_neg n m h1 (by omega)
    rw [← HQ.out] at b3
    obtain ⟨r, e0⟩ : ∃ r, n.tmod (m : Int) = r := ⟨_, rfl⟩
    rw [e0] at b1 b2 b3
    by_cases hr : r = 0
    · subst hr
      have e1 : q = 0 := by rw [b3, Int.zero_emod]
      subst e1
      clear b1 b2 b3 HQ hn
      go_enter Tryz.func20, Tryz.ntmps20
      go_wp2
      go_ret
      exact ⟨rfl, rfl⟩
    · have e1 : q = r + m := by
        rw [b3, ← Int.add_emod_right]
        exact Int.emod_eq_of_lt (by omega) (by omega)
      have e2 : decide (r < 0) = true := by simp; omega
      have e3 : 0 ≤ r + m := by omega
      have e4 : r + m ≤ 1000000 := by omega
      have E1 := Lib.hid e1
      clear b3 HQ hn e1
      go_enter Tryz.func20, Tryz.ntmps20
      go_wp2
      go_ret
      exact ⟨ret_int E1.out.symm, rfl⟩
end Go.Proofs.YtmanhikpccnfaaaGreat

/- '==' between states, and between registers. -/
namespace Go.Proofs.YtmanhikpccnfaaaGreat
open Go.RowKit

def regLits (l : List Nat) : List Lit := l.map fun r => Lit.int .u64 (r : Nat)
def stLits (s : St) : List Lit := regLits s.regs ++ [.int .u64 s.pc, .bool s.cf, .bool s.of_, .bool s.zf]
theorem regLits_inj {a b : List Nat} (h : regLits a = regLits b) : a = b := by
  unfold regLits at h
  exact (List.map_inj_right (fun x y h => by injection h with _ h; omega)).1 h
theorem stLits_inj {s t : St} (hl : s.regs.length = t.regs.length) (h : stLits s = stLits t) : s = t := by
  unfold stLits at h
  obtain ⟨h1, h2⟩ := List.append_inj h (by simpa [regLits] using hl)
  have h1 := regLits_inj h1
  rcases s with ⟨_, _, _, _, _⟩
  rcases t with ⟨_, _, _, _, _⟩
  simp at h1 h2
  simp only [St.mk.injEq]
  exact ⟨h1, by omega, h2.2.1, h2.2.2.1, h2.2.2.2⟩
theorem bool_of_iff {r q : Bool} {p : Prop} (h1 : r = true ↔ p) (h2 : q = true ↔ p) : r = q := by
  cases r <;> cases q <;> simp_all

theorem key_u64 (d r : Nat) (h : r < 18446744073709551616) : Tryz.prog.keyLits (d + 1) 22 [Value.int .u64 (r : Nat)] = some [Lit.int .u64 (r : Nat)] := by
  unfold Program.keyLits
  rw [Tryz.underlying22]
  have hw : (Lit.int IntKind.u64 (r : Nat)).wf = true := by simp [Lit.wf, IntKind.min, IntKind.max, IntKind.bits, IntKind.signed]; omega
  simp [hw]
theorem key_bool (d : Nat) (b : Bool) : Tryz.prog.keyLits (d + 1) 4 [Value.bool b] = some [Lit.bool b] := by
  unfold Program.keyLits
  rw [Tryz.underlying4]
theorem cells_u64 : Tryz.prog.cellsOf 22 = 1 := by kernel_rfl
theorem cells_bool : Tryz.prog.cellsOf 4 = 1 := by kernel_rfl
theorem cells_16 : Tryz.prog.cellsOf 23 = 16 := by kernel_rfl
theorem key_regs (d : Nat) (l : List Nat) (hl : l.length = 16) (hb : ∀ r ∈ l, r < 18446744073709551616) : Tryz.prog.keyLits (d + 2) 23 (l.map fun r => Value.int .u64 (r : Nat)) = some (regLits l) := by
  obtain ⟨a0, a1, a2, a3, a4, a5, a6, a7, a8, a9, a10, a11, a12, a13, a14, a15, rfl⟩ := sixteen l hl
  simp only [List.forall_mem_cons] at hb
  obtain ⟨b0, b1, b2, b3, b4, b5, b6, b7, b8, b9, b10, b11, b12, b13, b14, b15, _⟩ := hb
  unfold Program.keyLits
  rw [Tryz.underlying23]
  simp only [cells_16, cells_u64]
  rw [if_pos (by simp)]
  rw [show List.range 16 = [0, 1, 2, 3, 4, 5, 6, 7, 8, 9, 10, 11, 12, 13, 14, 15] from rfl]
  simp [key_u64 d, b0, b1, b2, b3, b4, b5, b6, b7, b8, b9, b10, b11, b12, b13, b14, b15, regLits]

theorem eq_regs (a b : List Nat) (ha : a.length = 16) (hb : b.length = 16) (ha' : ∀ r ∈ a, r < 18446744073709551616) (hb' : ∀ r ∈ b, r < 18446744073709551616) (w : World) {X Y : Array Value} (hX : X = (a.map fun r => Value.int .u64 (r : Nat)).toArray) (hY : Y = (b.map fun r => Value.int .u64 (r : Nat)).toArray) : (Op.equalIn 10000 23 (.agg X) (.agg Y)).run Tryz.prog w = .ok (a == b) w := by
  subst hX
  subst hY
  have hf : ∀ l : List Nat, l.length = 16 → (∀ r ∈ l, r < 18446744073709551616) → (Value.agg (l.map fun r => Value.int .u64 (r : Nat)).toArray).formed Tryz.prog 23 = true ∧ Tryz.prog.keyLits 20 23 (Value.agg (l.map fun r => Value.int .u64 (r : Nat)).toArray).cells.toList = some (regLits l) := fun l hl hb => by
    refine ⟨?_, key_regs 18 l hl hb⟩
    obtain ⟨a0, a1, a2, a3, a4, a5, a6, a7, a8, a9, a10, a11, a12, a13, a14, a15, rfl⟩ := sixteen l hl
    kernel_rfl
  obtain ⟨r, hr, hi⟩ := run_equalIn_deep (P := Tryz.prog) 9995 5 23 (by kernel_rfl) w 20 20 _ _ _ _ (hf a ha ha').1 (hf b hb hb').1 (hf a ha ha').2 (hf b hb hb').2
  have : r = (a == b) := bool_of_iff hi (by
    rw [beq_iff_eq]
    exact ⟨fun h => by rw [h], regLits_inj⟩)
  rw [← this]
  exact hr
def eqSt (s t : St) : Bool := s.regs == t.regs && (s.pc == t.pc && (s.cf == t.cf && (s.of_ == t.of_ && s.zf == t.zf)))
theorem eqSt_iff (s t : St) : eqSt s t = true ↔ s = t := by
  rcases s with ⟨_, _, _, _, _⟩
  rcases t with ⟨_, _, _, _, _⟩
  simp [eqSt]
theorem key_st (d : Nat) (s : St) (h : StOk s) : Tryz.prog.keyLits (d + 3) 25 (stRow s) = some (stLits s) := by
  have hr := key_regs d s.regs h.len h.regs
  have hl : (stRow s).length = 20 := by simp [stRow, h.len]
  have hd : ∀ k, (stRow s).drop (16 + k) = [Value.int .u64 s.pc, .bool s.cf, .bool s.of_, .bool s.zf].drop k := fun k => by
    rw [stRow, List.drop_append, List.drop_eq_nil_of_le (by simp [h.len]), List.nil_append]
    simp [h.len]
  have ht : (stRow s).take 16 = s.regs.map fun r => Value.int .u64 (r : Nat) := by rw [stRow, List.take_append_of_le_length (by simp [h.len]), List.take_of_length_le (by simp [h.len])]
  have e16 := hd 0
  have e17 := hd 1
  have e18 := hd 2
  have e19 := hd 3
  simp only [Nat.add_zero, Nat.reduceAdd, List.drop_zero, List.drop_succ_cons] at e16 e17 e18 e19
  unfold Program.keyLits
  rw [Tryz.underlying25]
  simp only [show Tryz.prog.cellsOf 25 = 20 by kernel_rfl]
  rw [if_pos ⟨hl, by kernel_rfl⟩]
  simp [cells_16, cells_u64, cells_bool, ht, e16, e17, e18, e19, hr, key_u64 (d + 1) s.pc h.pc, key_bool (d + 1), stLits]
theorem eq_st (s t : St) (hs : StOk s) (ht : StOk t) (w : World) : (Op.equalIn 10000 25 (.agg (stRow s).toArray) (.agg (stRow t).toArray)).run Tryz.prog w = .ok (eqSt s t) w := by
  have hf : ∀ l : St, StOk l → (Value.agg (stRow l).toArray).formed Tryz.prog 25 = true ∧ Tryz.prog.keyLits 20 25 (Value.agg (stRow l).toArray).cells.toList = some (stLits l) := fun l hl => by
    refine ⟨?_, key_st 17 l hl⟩
    rcases l with ⟨regs, pc, cf, of_, zf⟩
    obtain ⟨a0, a1, a2, a3, a4, a5, a6, a7, a8, a9, a10, a11, a12, a13, a14, a15, rfl⟩ := sixteen regs hl.len
    kernel_rfl
  obtain ⟨r, hr, hi⟩ := run_equalIn_deep (P := Tryz.prog) 9995 5 25 (by kernel_rfl) w 20 20 _ _ _ _ (hf s hs).1 (hf t ht).1 (hf s hs).2 (hf t ht).2
  have : r = eqSt s t := bool_of_iff hi (by
    rw [eqSt_iff]
    exact ⟨fun h => by rw [h], stLits_inj (by rw [hs.len, ht.len])⟩)
  rw [← this]
  exact hr
end Go.Proofs.YtmanhikpccnfaaaGreat

/- States in blocks beside a memory, and blocks that stand: what a statement over two memories holds on its way. -/
namespace Go.Proofs.YtmanhikpccnfaaaGreat
open Go.RowKit

/-- As Held; besides, the blocks of G stand as they stood in wf. -/
structure Held2 (w0 wf w : World) (F G : Nat → Prop) (m : Value) (rs : List Reg) (B : List (Nat × St)) (E : List (Value × List Ev)) : Prop where
  held : Held w0 w F m rs B E
  fix : ∀ k, G k → w.heap[k]? = wf.heap[k]? ∧ k < w.heap.size ∧ ¬ F k ∧ ∀ y ∈ B, y.1 ≠ k
  evg : ∀ x ∈ E, ∀ g, x.1.ownBlock = some g → ¬ G g

section
variable {w0 wf w w' : World} {F G : Nat → Prop} {m : Value} {rs rs' : List Reg} {B : List (Nat × St)} {E : List (Value × List Ev)}

theorem Held2.cast (h : Held2 w0 wf w F G m rs B E) (e : w' = w) : Held2 w0 wf w' F G m rs B E := e ▸ h
theorem Held2.same_ (h : Held2 w0 wf w F G m rs B E) : SameOn G wf w := fun k hk => (h.fix k hk).1
theorem Held2.next (h : Held2 w0 wf w F G m rs B E) (hb : Below w.heap.size w w') : Held2 w0 wf w' F G m rs B E :=
  ⟨h.held.next hb, fun k hk => ⟨(hb.block k (h.fix k hk).2.1).trans (h.fix k hk).1, Nat.lt_of_lt_of_le (h.fix k hk).2.1 hb.size, (h.fix k hk).2.2⟩, h.evg⟩
/-- What a call made stands from now on. -/
theorem Held2.grow (h : Held2 w0 wf w F G m rs B E) (hb : Below w.heap.size w w') : Held2 w0 w' w' F (fun k => G k ∨ (w.heap.size ≤ k ∧ k < w'.heap.size)) m rs B E :=
  ⟨h.held.next hb, fun k hk => ⟨rfl, by
    rcases hk with hk | hk
    · exact Nat.lt_of_lt_of_le (h.fix k hk).2.1 hb.size
    · exact hk.2, fun hF => by
    rcases hk with hk | hk
    · exact (h.fix k hk).2.2.1 hF
    · have := h.held.lt k hF; omega, fun y hy e => by
    rcases hk with hk | hk
    · exact (h.fix k hk).2.2.2 y hy e
    · have := h.held.lt_box hy; omega⟩, fun x hx g hg hk => by
    rcases hk with hk | hk
    · exact h.evg x hx g hg hk
    · have := (own_lt (h.held.ev x hx).1 g hg).1; omega⟩
/-- The other memory takes the part of the first, which stands. -/
theorem Held2.swap (h : Held2 w0 wf w F G m rs B E) {F' : Nat → Prop} {m' : Value} {rs' : List Reg} (hm : MemAt wf F' m' rs') (hF : ∀ k, F' k → G k) (hge : ∀ k, F' k → w0.heap.size ≤ k) : Held2 w0 w w F' (fun k => (G k ∧ ¬ F' k) ∨ F k) m' rs' B E := by
  refine ⟨⟨h.held.below, hm.keep (h.same_.mono hF), fun k hk => (h.fix k (hF k hk)).2.1, hge, h.held.nd, fun x hx => ⟨(h.held.box x hx).1, (h.held.box x hx).2.1, fun hk => (h.fix _ (hF _ hk)).2.2.2 x hx rfl, (h.held.box x hx).2.2.2⟩,
    fun x hx => ⟨(h.held.ev x hx).1, fun g hg => ⟨fun hk => h.evg x hx g hg (hF g hk), ((h.held.ev x hx).2 g hg).2⟩⟩⟩, fun k hk => ?_, fun x hx g hg hk => ?_⟩
  · rcases hk with ⟨hk, hn⟩ | hk
    · exact ⟨rfl, (h.fix k hk).2.1, hn, (h.fix k hk).2.2.2⟩
    · exact ⟨rfl, h.held.lt k hk, fun hk' => (h.fix k (hF k hk')).2.2.1 hk, fun y hy e => (h.held.box y hy).2.2.1 (e ▸ hk)⟩
  · rcases hk with ⟨hk, _⟩ | hk
    · exact h.evg x hx g hg hk
    · exact ((h.held.ev x hx).2 g hg).1 hk
theorem Held2.put_ (h : Held2 w0 wf w F G m rs B E) {i g : Nat} {s s' : St} (hi : B[i]? = some (g, s)) (hh : Held w0 w' F m rs (B.set i (g, s')) E) (hz : w'.heap.size = w.heap.size) (ho : ∀ k, k ≠ g → w'.heap[k]? = w.heap[k]?) : Held2 w0 wf w' F G m rs (B.set i (g, s')) E := by
  have hgm := List.mem_of_getElem? hi
  refine ⟨hh, fun k hk => ?_, h.evg⟩
  obtain ⟨h1, h2, h3, h4⟩ := h.fix k hk
  refine ⟨(ho k fun e => h4 _ hgm e.symm).trans h1, by rw [hz]; exact h2, h3, fun y hy => ?_⟩
  rcases List.mem_or_eq_of_mem_set hy with hy | rfl
  · exact h4 y hy
  · exact h4 (g, s) hgm
theorem Held2.setRow (h : Held2 w0 wf w F G m rs B E) {i g : Nat} {s s' : St} (hi : B[i]? = some (g, s)) (hs : StOk s') : Held2 w0 wf (w.setRow g (stRow s').toArray) F G m rs (B.set i (g, s')) E :=
  h.put_ hi (h.held.setRow hi hs) (by simp [World.setRow]) fun k hk => setRow_other _ _ _ _ hk
theorem Held2.setCell (h : Held2 w0 wf w F G m rs B E) {i g : Nat} {s s' : St} (hi : B[i]? = some (g, s)) (k : Nat) (v : Value) (hv : (stRow s).set k v = stRow s') (hs : StOk s') : Held2 w0 wf (w.setCell ⟨g, k, none⟩ v) F G m rs (B.set i (g, s')) E :=
  h.put_ hi (h.held.setCell hi k v hv hs) (by simp [World.setCell]) fun k hk => Below.heap_setCell _ _ _ _ hk
theorem Held2.fresh (h : Held2 w0 wf w F G m rs B E) (zs : Array Value) {s : St} (hs : StOk s) : Held2 w0 wf ((w.alloc (.cells zs 25)).setRow w.heap.size (stRow s).toArray) F G m rs ((w.heap.size, s) :: B) E := by
  refine ⟨h.held.fresh zs hs, fun k hk => ?_, h.evg⟩
  obtain ⟨h1, h2, h3, h4⟩ := h.fix k hk
  refine ⟨((setRow_other _ _ _ _ (by omega)).trans (heap_alloc_old w _ h2)).trans h1, by simp [World.setRow]; omega, h3, fun y hy => ?_⟩
  rcases List.mem_cons.1 hy with rfl | hy
  · show w.heap.size ≠ k; omega
  · exact h4 y hy
theorem Held2.Do (h : Held2 w0 wf w F G m rs B E) (i : Nat) {g : Nat} {s : St} (hi : B[i]? = some (g, s)) (ins : Ins) (hio : InsOk ins) (size : Int) {r : StepR} (hr : r = stepF s ins size rs) :
    Calls Tryz.prog 11 #[.agg (stRow s).toArray, .agg (insRow ins).toArray, .int .i64 size, m] w fun e w' => ∃ A c, e = .returned (.tuple #[.agg (stRow r.st).toArray, .slice A r.evs.length c, .int .i64 r.code]) ∧ Held2 w0 wf w' F G m r.rs B ((.slice A r.evs.length c, r.evs) :: E) := by
  refine (Do_any s ins size m w F rs (h.held.ok i hi) hio h.held.mem h.held.lt).mono ?_
  rintro e w' ⟨v, rfl, hc, hm, hrow⟩
  rw [← hr] at hm hrow ⊢
  obtain ⟨A, c, rfl⟩ : ∃ A c, v = .slice A r.evs.length c := by
    rcases hrow.2 with ⟨h1, h2⟩ | ⟨g', cap', cur, hv, _⟩
    · exact ⟨none, 0, by rw [h1, h2]⟩
    · exact ⟨_, _, hv⟩
  refine ⟨A, c, rfl, ⟨(h.held.step hc hm).seen hrow h.held, fun k hk => ?_, fun x hx g hg hk => ?_⟩⟩
  · obtain ⟨h1, h2, h3, h4⟩ := h.fix k hk
    exact ⟨(hc.far h2 h2 h3).trans h1, Nat.lt_of_lt_of_le h2 hc.size, h3, h4⟩
  · rcases List.mem_cons.1 hx with rfl | hx
    · have := (own_lt hrow g hg).2
      have := (h.fix g hk).2.1
      omega
    · exact h.evg x hx g hg hk

variable {ops : Array Oper} {rest : List Oper} {o : Oper} {a : Act} {Q : Exit → Act → World → Prop}
theorem Held2.load_row (h : Held2 w0 wf w F G m rs B E) (i : Nat) {g : Nat} {s : St} (hi : B[i]? = some (g, s)) (hg : o.guard = none) (y : Operand) (ho : o.op = .load 25 y) (hx : a.eval y = .pointer (some ⟨g, 0, none⟩)) (k : wpList Tryz.prog ops Q rest (a.put o.dst (.agg (stRow s).toArray)) w) : wpList Tryz.prog ops Q (o :: rest) a w :=
  h.held.load_row i hi hg y ho hx k
/-- An instruction that stands is loaded. -/
theorem Held2.load_ins (h : Held2 w0 wf w F G m rs B E) {g : Nat} {i : Ins} (hG : G g) (hf : wf.heap[g]? = some (.cells (insRow i).toArray 29 (0, 0))) (hg : o.guard = none) (y : Operand) (ho : o.op = .load 29 y) (hx : a.eval y = .pointer (some ⟨g, 0, none⟩)) (k : wpList Tryz.prog ops Q rest (a.put o.dst (.agg (insRow i).toArray)) w) : wpList Tryz.prog ops Q (o :: rest) a w :=
  wpList_val_ex hg (exec_load_row 29 y ho g hx _ _ _ ((h.fix g hG).1.trans hf) _ Tryz.underlying29 rfl infoIns) k
theorem Held2.store_fresh (h : Held2 w0 wf w F G m rs B E) {s : St} (hs : StOk s) (hg : o.guard = none) (x y : Operand) (ho : o.op = .store 25 x y) (zs : Array Value) (hz : zs.size = 20) (hx : a.eval x = .pointer (some ⟨w.heap.size, 0, none⟩)) (hy : a.eval y = .agg (stRow s).toArray)
    (k : ∀ W, Held2 w0 wf W F G m rs ((w.heap.size, s) :: B) E → wpList Tryz.prog ops Q rest (a.put o.dst undef) W) : wpList Tryz.prog ops Q (o :: rest) a (w.alloc (.cells zs 25)) :=
  wpList_skip_ex hg (exec_store_row 25 x y ho w.heap.size _ hx hy 25 zs (heap_alloc_new w _) (by rw [stRow_size hs]; exact infoSt) (by rw [stRow_size hs, hz]) (stRow_one _)) (k _ (h.fresh zs hs))
end
end Go.Proofs.YtmanhikpccnfaaaGreat

/- keysmithlaw08.StepStays: the walk. -/
namespace Go.Proofs.YtmanhikpccnfaaaGreat

open Go.RowKit

theorem regs_next {w w' : World} {v : Value} {rs : List Reg} (h : RegsAt w (fun k => k < w.heap.size) v rs) (hb : Below w.heap.size w w') : RegsAt w' (fun k => k < w'.heap.size) v rs :=
  (h.below hb fun _ hk => hk).mono fun _ hk => Nat.lt_of_lt_of_le hk hb.size
theorem two_boxes (w : World) (s : St) (i : Ins) : ∃ W, W = (w.alloc (.cells (stRow s).toArray 25)).alloc (.cells (insRow i).toArray 29) ∧ Below w.heap.size w W ∧ W.heap.size = w.heap.size + 1 + 1 ∧
    W.heap[w.heap.size]? = some (.cells (stRow s).toArray 25 (0, 0)) ∧ W.heap[w.heap.size + 1]? = some (.cells (insRow i).toArray 29 (0, 0)) := by
  have z1 : (w.alloc (.cells (stRow s).toArray 25)).heap.size = w.heap.size + 1 := by simp
  refine ⟨_, rfl, ((Below.refl _ _).alloc (Nat.le_refl _) _).alloc (by simp) _, by simp, ?_, ?_⟩
  · exact (Below.heap_alloc _ _ _ (by omega)).trans (heap_alloc_new w _)
  · rw [← z1]; exact heap_alloc_new _ _

section
variable {ops : Array Oper} {rest : List Oper} {o : Oper} {a : Act} {w : World} {Q : Exit → Act → World → Prop}
theorem Held2.load_row_w {w0 wf : World} {F G : Nat → Prop} {m : Value} {rs : List Reg} {B : List (Nat × St)} {E : List (Value × List Ev)} (h : Held2 w0 wf w F G m rs B E) (i : Nat) {g : Nat} {s : St} (hi : B[i]? = some (g, s)) (y : Operand) (ho : o.op = .load 25 y) (hx : a.eval y = .pointer (some ⟨g, 0, none⟩)) (hw : Region.wanted o (yielded ops a.tmps) = true) (k : wpList Tryz.prog ops Q rest (a.put o.dst (.agg (stRow s).toArray)) w) : wpList Tryz.prog ops Q (o :: rest) a w :=
  wpList_val_w hw (exec_load_row 25 y ho g hx _ _ _ (h.held.get hi).1 _ Tryz.underlying25 rfl (by rw [stRow_size (h.held.ok i hi)]; exact infoSt)) k
theorem exec_eq_st (x y : Operand) (ho : o.op = .binOp .eql 25 x y 25) {s t : St} (hs : StOk s) (ht : StOk t) (hx : a.eval x = .agg (stRow s).toArray) (hy : a.eval y = .agg (stRow t).toArray) : (execOp a.eval o).run Tryz.prog w = .ok (.value (.bool (eqSt s t))) w := by
  unfold execOp
  simp only [ho, hx, hy, Sem.run_bind, run_eqGuard_agg _ _ _ _ _ _ _ Tryz.eqGuardType25, Result.andThen_ok, run_eql_struct, eq_st s t hs ht, Sem.run_pure]
theorem wl_eq_st (x y : Operand) (ho : o.op = .binOp .eql 25 x y 25) {s t : St} (hs : StOk s) (ht : StOk t) (hx : a.eval x = .agg (stRow s).toArray) (hy : a.eval y = .agg (stRow t).toArray) (hw : Region.wanted o (yielded ops a.tmps) = true) {q : Bool} (hq : eqSt s t = q)
    (k : wpList Tryz.prog ops Q rest (a.put o.dst (.bool q)) w) : wpList Tryz.prog ops Q (o :: rest) a w :=
  wpList_val_w hw (exec_eq_st x y ho hs ht hx hy) (hq.symm ▸ k)
end

theorem rising_len (L : List Bool) : (risingF L).length ≤ 16 := Nat.le_trans (List.length_filter_le _ _) (by simp)
theorem stRow_get {s : St} {k r : Nat} (h : s.regs[k]? = some r) : (stRow s)[k]? = some (.int .u64 r) := by
  have hk := (List.getElem?_eq_some_iff.1 h).1
  simp only [stRow]
  rw [List.getElem?_append_left (by simpa using hk), List.getElem?_map, h]
  rfl
theorem stRow_cf {s : St} (h : StOk s) : (stRow s)[17]? = some (.bool s.cf) := by
  rw [stRow, List.getElem?_append_right (by simp [h.len])]; simp [h.len]
theorem stRow_of {s : St} (h : StOk s) : (stRow s)[18]? = some (.bool s.of_) := by
  rw [stRow, List.getElem?_append_right (by simp [h.len])]; simp [h.len]
theorem stRow_zf {s : St} (h : StOk s) : (stRow s)[19]? = some (.bool s.zf) := by
  rw [stRow, List.getElem?_append_right (by simp [h.len])]; simp [h.len]
theorem stRow_reg (s : St) (k : Nat) (hk : k < s.regs.length) (n : Nat) : (stRow s).set k (.int .u64 n) = stRow { s with regs := s.regs.set k n } := by
  rw [stRow, List.set_append_left _ _ (by simpa using hk), stRow, List.map_set]
theorem pick16 (x : Int) : ∃ X : Nat, x % ((16 : Nat) : Int) = X ∧ X < 16 := ⟨(x % 16).toNat, by omega, by omega⟩
theorem flagsW_is (op : Int) : flagsW op = 7 ∨ flagsW op = 5 ∨ flagsW op = 1 ∨ flagsW op = 2 ∨ flagsW op = 0 := by
  unfold flagsW
  split
  · exact .inl rfl
  · split
    · exact .inr (.inl rfl)
    · split
      · exact .inr (.inr (.inl rfl))
      · split
        · exact .inr (.inr (.inr (.inl rfl)))
        · exact .inr (.inr (.inr (.inr rfl)))
theorem step_evs (s : St) (i : Ins) (size : Int) (rs : List Reg) : (stepF s i size rs).evs.length ≤ 100 := by
  have h : ∀ (s : St) (rs : List Reg) (e : Int), (doF s i rs e).2.1.length ≤ 90 := fun s rs e => by
    unfold doF
    repeat' split
    all_goals simp
  unfold stepF
  split
  · split
    · simp
    · simp only []
      split
      · have := h { s with pc := (s.pc + u64 size) % 18446744073709551616 } rs 0
        simp only [List.length_cons]
        omega
      · simp
  · simp
theorem set_lt16 {L : List Nat} (h : ∀ r ∈ L, r < 18446744073709551616) (k : Nat) {v : Nat} (hv : v < 18446744073709551616) : ∀ r ∈ L.set k v, r < 18446744073709551616 := fun r hr => by
  rcases List.mem_or_eq_of_mem_set hr with hr | rfl
  · exact h r hr
  · exact hv
theorem mem_good {w : World} {F : Nat → Prop} {p : Value} {rs : List Reg} (h : MemAt w F p rs) : Good rs := by
  obtain ⟨_, _, _, _, _, _, h⟩ := h
  exact h
theorem Regions_at {p : Value} {w : World} {F : Nat → Prop} {rs : List Reg} (hm : MemAt w F p rs) (hF : ∀ k, F k → k < w.heap.size) :
    Calls Tryz.prog 15 #[p] w fun e w' => ∃ A c, e = .returned (.slice A rs.length c) ∧ RegsAt w' (fun k => k < w'.heap.size) (.slice A rs.length c) rs ∧ Below w.heap.size w w' := by
  refine (Regions_any p w F rs hm hF).mono ?_
  rintro e w' ⟨v, rfl, ho, hb⟩
  have h := (ho.at_ (mem_good hm).base).mono (G := fun k => k < w'.heap.size) fun k hk => hk.2
  obtain ⟨A, c, rfl, _⟩ := h.form
  exact ⟨A, c, rfl, h, hb⟩
theorem Same_true {v u : Value} {w : World} {l : List Reg} (hn : l.length ≤ 9223372036854775807) (ha : RegsAt w (fun k => k < w.heap.size) v l) (hb : RegsAt w (fun k => k < w.heap.size) u l) :
    Calls Tryz.prog 14 #[v, u] w fun e w' => e = .returned (.bool true) ∧ Below w.heap.size w w' :=
  (Same_any v u w _ l l hn ha hb fun _ h => h).mono fun e w' ⟨h1, h2⟩ => ⟨by rw [h1, (sameR_iff l l).2 rfl], h2⟩

set_option maxRecDepth 100000 in
set_option maxHeartbeats 40000000 in
theorem stays_walk (s : St) (i : Ins) (v : Value) (l : List Reg) (r : Int) (x : Nat) (w : World) (hs : StOk s) (hi : InsOk i) (hl : RegsAt w (fun k => k < w.heap.size) v l) (hn : l.length ≤ 9223372036854775807) (hr : -9223372036854775808 ≤ r ∧ r ≤ 9223372036854775807) (hx : x < 18446744073709551616) :
    Calls Tryz.prog 4 #[.agg (stRow s).toArray, .agg (insRow i).toArray, v, .int .i64 r, .int .u64 x] w fun e w' => e = .returned (.bool true) ∧ Below w.heap.size w w' := by
  obtain ⟨A, c, rfl, hlc⟩ := hl.form
  obtain ⟨W, hW, hbW, hzW, kb0, kb1⟩ := two_boxes w s i
  have HP := Lib.hid (fun w => Pick_any r 16 w (by decide) (by decide) hr)
  have HL0 := Lib.hid (lives_any W)
  have HS := Lib.hid hs
  have HI := Lib.hid hi
  have HX := Lib.hid hx
  have HL := Lib.hid (regs_next hl hbW)
  have HN := Lib.hid hn
  have HW := Lib.hid hW
  have HBW := Lib.hid hbW
  have HZW := Lib.hid hzW
  have KB0 := Lib.hid kb0
  have KB1 := Lib.hid kb1
  clear hl hlc hW hbW hzW kb0 kb1 hr hs hi hx hn
  generalize hln : l.length = n at *
  have HLN := Lib.hid hln
  clear hln
  go_enter Tryz.func4, Tryz.ntmps4
  go_wp2_with fail
  rw [← HW.out]
  refine HL0.out.mono ?_
  rintro e w1 ⟨rfl, hb1⟩
  have HL1 := Lib.hid (regs_next HL.out hb1)
  have HB1 := Lib.hid hb1
  have H1 := Lib.hid (Light_any _ w1 _ l (by rw [HLN.out]; exact HN.out) HL1.out)
  clear hb1 HL0 HL
  cases hlight : lightR l
  · rw [hlight] at H1
    go_wp2_with ((with_reducible refine (H1.out).mono ?_); rintro e w2 ⟨rfl, hb2⟩)
    go_ret
    exact ⟨rfl, HBW.out.trans ((HB1.out.trans (hb2.mono HB1.out.size)).mono HBW.out.size)⟩
  rw [hlight] at H1
  clear hlight
  go_wp2_with fail
  refine H1.out.mono ?_
  rintro e w2 ⟨rfl, hb2⟩
  have HB2 := Lib.hid (HB1.out.trans (hb2.mono HB1.out.size))
  have hl2 := regs_next HL1.out hb2
  have HL2 := Lib.hid hl2
  have HN2 := Lib.hid (New_any _ w2 _ l (by rw [HLN.out]; exact HN.out) hl2 (fun _ h => h))
  clear hb2 hl2 H1 HL1 HB1
  go_wp2_with fail
  refine HN2.out.mono ?_
  rintro e w3 ⟨hb3, hres⟩
  obtain ⟨p, ce, rfl, hce⟩ : ∃ (p : Value) (ce : Int), e = .returned (.tuple #[p, .int .i64 ce]) ∧ ce = checkF l ∧ (ce = 0 → MemAt w3 (seg w2.heap.size w3.heap.size) p (sortBy Reg.base l)) := by
    rcases hres with ⟨h0, rfl⟩ | ⟨h0, p, rfl, hm⟩
    · exact ⟨_, _, rfl, rfl, fun h => absurd h h0⟩
    · exact ⟨_, _, rfl, h0.symm, fun _ => hm⟩
  have HCE := Lib.hid hce
  have HB3 := Lib.hid hb3
  have hl3 := regs_next HL2.out hb3
  have HN3 := Lib.hid (New_any _ w3 _ l (by rw [HLN.out]; exact HN.out) hl3 (fun _ h => h))
  clear hres hce hb3 hl3 HN2 HL2
  go_wp2_with fail
  refine HN3.out.mono ?_
  rintro e w4 ⟨hb4, hres⟩
  obtain ⟨p2, rfl, hce2⟩ : ∃ (p2 : Value), e = .returned (.tuple #[p2, .int .i64 ce]) ∧ (ce = 0 → MemAt w4 (seg w3.heap.size w4.heap.size) p2 (sortBy Reg.base l)) := by
    rcases hres with ⟨h0, rfl⟩ | ⟨h0, p, rfl, hm⟩
    · exact ⟨_, by rw [HCE.out.1], fun h => absurd (HCE.out.1 ▸ h) h0⟩
    · exact ⟨_, by rw [HCE.out.1, h0], fun _ => hm⟩
  have HCE2 := Lib.hid hce2
  have HB4 := Lib.hid hb4
  have hbA : Below W.heap.size W w4 := (HB2.out.trans (HB3.out.mono HB2.out.size)).trans (hb4.mono (Nat.le_trans HB2.out.size HB3.out.size))
  have HBA := Lib.hid hbA
  clear hres hce2 hb4 hbA HN3
  by_cases hc0 : ce = 0
  · subst hc0
    have hm1 := HCE.out.2 rfl
    have hm2 := HCE2.out rfl
    obtain ⟨bm1, rfl⟩ : ∃ bm, p = .pointer (some ⟨bm, 0, none⟩) := by obtain ⟨bm, v, h, _⟩ := hm1; exact ⟨bm, h⟩
    obtain ⟨bm2, rfl⟩ : ∃ bm, p2 = .pointer (some ⟨bm, 0, none⟩) := by obtain ⟨bm, v, h, _⟩ := hm2; exact ⟨bm, h⟩
    generalize sortBy Reg.base l = rs at *
    have hsz : W.heap.size ≤ w2.heap.size ∧ w2.heap.size ≤ w3.heap.size ∧ w3.heap.size ≤ w4.heap.size := ⟨HB2.out.size, HB3.out.size, HB4.out.size⟩
    have HSZ := Lib.hid hsz
    have hH : Held2 w w4 w4 (seg w2.heap.size w3.heap.size) (fun k => k = w.heap.size + 1 ∨ seg w3.heap.size w4.heap.size k) (.pointer (some ⟨bm1, 0, none⟩)) rs [(w.heap.size, s)] [] := by
      obtain ⟨z1, z2, z3⟩ := hsz
      have zW := HZW.out
      refine ⟨⟨HBW.out.trans (HBA.out.mono HBW.out.size), hm1.keep (SameOn.of_below HB4.out fun k hk => hk.2), fun k hk => by have := hk.2; omega, fun k hk => by have := hk.1; omega, by simp, fun y hy => ?_, by simp⟩, fun k hk => ⟨rfl, ?_, ?_, ?_⟩, by simp⟩
      · simp only [List.mem_singleton] at hy
        subst hy
        exact ⟨(HBA.out.block _ (by simp only; omega)).trans KB0.out, HS.out, fun h => by have := h.1; simp only at this; omega, Nat.le_refl _⟩
      · rcases hk with rfl | hk
        · omega
        · exact hk.2
      · intro hF
        have h1 := hF.1
        have h2 := hF.2
        rcases hk with rfl | hk
        · omega
        · have := hk.1; omega
      · intro y hy
        simp only [List.mem_singleton] at hy
        subst hy
        rcases hk with rfl | hk
        · simp only; omega
        · have := hk.1; simp only; omega
    have H := Lib.hid hH
    have KI := Lib.hid ((HBA.out.block _ (by have := HZW.out; omega)).trans KB1.out)
    have HM2 := Lib.hid hm2
    clear hm1 hm2 hsz hH HCE HCE2 HB4 HBA HB3 HB2 HBW KB0 KB1 HW
    obtain ⟨R, hR⟩ : ∃ R, R = stepF s i 3 rs := ⟨_, rfl⟩
    have HR := Lib.hid hR
    clear hR
    go_wp2_with (first | ((with_reducible refine wl_id ?_); refine H.out.load_row 0 rfl rfl _ rfl rfl ?_) | ((with_reducible refine wl_id ?_); refine H.out.load_ins (.inl rfl) KI.out rfl _ rfl rfl ?_))
    refine (H.out.Do 0 rfl i HI.out 3 HR.out).mono ?_
    rintro e w5 ⟨A5, n5, rfl, hH⟩
    clear H
    have H := Lib.hid hH
    have HOR := Lib.hid (show StOk R.st from by rw [HR.out]; exact step_ok HS.out i 3 rs)
    clear hH
    go_upto_region 10 with ((with_reducible refine wl_id ?_); refine H.out.store_fresh (s := R.st) HOR.out rfl _ _ rfl _ rfl rfl rfl ?_; intro W6 hW; clear H; have H := Lib.hid hW; clear hW)
    by_cases hcR : R.code = 0
    · have hst := step_stays (show (stepF s i 3 rs).code = 0 by rw [← HR.out]; exact hcR)
      rw [← HR.out] at hst
      have HK := Lib.hid hst.1
      have HRG := Lib.hid hst.2.1
      have HFL := Lib.hid hst.2.2.1
      have HDO := Lib.hid hst.2.2.2
      clear hst
      have e1 : (R.code != 0) = false := by simpa using hcR
      go_wp2_with fail
      clear e1
      have hS := (Below.refl W6.heap.size W6).drew
      (refine wp_region_lines (Below W6.heap.size W6) (by kernel_rfl) (by kernel_rfl) (Below.refl W6.heap.size W6).drew ?_)
      (try simp only [])
      repeat (first | (refine runL_no (by rfl) ?_; (try simp only [Act.put, List.setIfInBounds_toArray, List.set_cons_zero, List.set_cons_succ])) | (refine runL_val (v := ?_) (by rfl) ?_ ?_; rotate_left; (focus (intro w_ hw_; have hc_ := hw_; go_simp; (try with_reducible rfl); done)); (try simp only [Act.put, List.setIfInBounds_toArray, List.set_cons_zero, List.set_cons_succ])) | (refine runL_call (f := ?_) (args := ?_) (w1 := ?_) (by rfl) (by rfl) ?_ ?_; rotate_left 3; (focus (go_simp; refine ⟨⟨?_, ?_⟩, ?_⟩ <;> with_reducible rfl)); refine (Writes_any i _).mono ?_; rintro e wA ⟨vw, rfl, hr, hb1⟩; obtain ⟨Aw, cw, rfl, _⟩ := hr.form; have HWI := Lib.hid hr; have HZA := Lib.hid hS.size; replace hS := hS.trans (hb1.mono hS.size); clear hr hb1; refine ⟨_, rfl, .inr hS, ?_⟩; (try simp only [Act.put, List.setIfInBounds_toArray, List.set_cons_zero, List.set_cons_succ])) | (refine runL_call (f := ?_) (args := ?_) (w1 := ?_) (by rfl) (by rfl) ?_ ?_; rotate_left 3; (focus (go_simp; refine ⟨⟨?_, ?_⟩, ?_⟩ <;> with_reducible rfl)); refine (Reads_any i _).mono ?_; rintro e wB ⟨vr, rfl, hr, hb1⟩; obtain ⟨Ar, cr, rfl, _⟩ := hr.form; have HRI := Lib.hid hr; have HZB := Lib.hid hS.size; have HBB := Lib.hid hb1; replace hS := hS.trans (hb1.mono hS.size); clear hr hb1; refine ⟨_, rfl, .inr hS, ?_⟩; (try simp only [Act.put, List.setIfInBounds_toArray, List.set_cons_zero, List.set_cons_succ])) | (refine runL_val (v := .agg (insRow i).toArray) (by rfl) (fun w_ hw_ => exec_load_row 29 _ rfl (w.heap.size + 1) rfl _ _ _ (((H.out.next hw_).fix _ (.inl rfl)).1.trans KI.out) _ Tryz.underlying29 rfl infoIns) ?_; (try simp only [Act.put, List.setIfInBounds_toArray, List.set_cons_zero, List.set_cons_succ])))
      (refine runL_nil ?_)
      have hW' : IntsAt wB (fun k => W6.heap.size ≤ k ∧ k < wB.heap.size) (.slice Aw (writesI i).length cw) (writesI i) := Rows.mono (HWI.out.keep (SameOn.of_below HBB.out fun k hk => hk.2)) fun k hk => ⟨Nat.le_trans HZA.out hk.1, Nat.lt_of_lt_of_le hk.2 HBB.out.size⟩
      have hR' : IntsAt wB (fun k => W6.heap.size ≤ k ∧ k < wB.heap.size) (.slice Ar (readsI i).length cr) (readsI i) := Rows.mono HRI.out fun k hk => ⟨Nat.le_trans HZB.out hk.1, hk.2⟩
      have hH2 := H.out.grow hS
      have hki := ((H.out.next hS).fix _ (.inl rfl)).1.trans KI.out
      have hm2 := HM2.out.keep ((H.out.next hS).same_.mono fun k hk => .inr hk)
      have HSE := Lib.hid (fun k hk => (H.out.fix k (.inr hk)).2.1 : ∀ k, seg w3.heap.size w4.heap.size k → k < W6.heap.size)
      clear H KI HM2 HWI HRI HZA HZB HBB hS
      have H := Lib.hid hH2
      have KI := Lib.hid hki
      have HM2 := Lib.hid hm2
      have HWR := Lib.hid hW'
      have HRD := Lib.hid hR'
      clear hH2 hki hm2 hW' hR'
      generalize hlw : (writesI i).length = nw at *
      generalize hlr : (readsI i).length = nr at *
      have HLW := Lib.hid (show (writesI i).length ≤ 1000 by unfold writesI; split; exact Nat.le_trans (rising_len _) (by decide); simp)
      have HLR := Lib.hid (show (readsI i).length ≤ 1000 by unfold readsI; split; exact Nat.le_trans (rising_len _) (by decide); simp)
      clear hlw hlr
      have hf := Flags_any i wB
      simp only [HK.out, if_true, eq_self] at hf
      obtain ⟨fw, hfw⟩ : ∃ fw, fw = flagsW i.op := ⟨_, rfl⟩
      rw [← hfw] at hf
      have HFW := Lib.hid hfw
      have HF := Lib.hid hf
      clear hfw hf
      go_wp2_with (first | ((with_reducible refine wl_id ?_); refine H.out.load_ins (.inl (.inl rfl)) KI.out rfl _ rfl rfl ?_))
      refine HF.out.mono ?_
      rintro e wC ⟨rfl, hb⟩
      have hH := H.out.next hb
      clear hb H HF
      have H := Lib.hid hH
      clear hH
      go_wp2_with fail
      go_loopw [22] (fun i wr => ∃ k : Nat, k ≤ 16 ∧ i = .int .i64 k ∧ Below wC.heap.size wC wr) (fun i _ => 16 - (intOf i).toNat)
      case atStart => exact ⟨0, by decide, rfl, Below.refl _ _⟩
      case round =>
        obtain ⟨k, hk, rfl, hbl⟩ := hrel
        have hH := H.out.next hbl
        have HBL := Lib.hid hbl
        have HC := Lib.hid hH
        clear hbl hH
        by_cases hlt : k < 16
        · have hq0 : inF (writesI i) k = (writesL (formR i.op) i).getD k false := by unfold writesI; rw [if_pos HK.out]; exact inF_rising hlt
          have HKK := Lib.hid hlt
          have i0 : (0 : Int) ≤ (k : Int) := by omega
          have i1 : (k : Int) < 16 := by omega
          cases hq : inF (writesI i) k
          · obtain ⟨q, hq1, hq2⟩ : ∃ q, R.st.regs[k]? = some q ∧ s.regs[k]? = some q := by
              have h := HRG.out k (hq0.symm.trans hq)
              have l1 := HOR.out.len
              have l2 := HS.out.len
              have g1 : k < R.st.regs.length := by omega
              have g2 : k < s.regs.length := by omega
              refine ⟨s.regs[k], ?_, List.getElem?_eq_getElem g2⟩
              rw [List.getD_eq_getElem?_getD, List.getD_eq_getElem?_getD, List.getElem?_eq_getElem g1, List.getElem?_eq_getElem g2] at h
              rw [List.getElem?_eq_getElem g1]
              exact congrArg some h
            have HQ := Lib.hid hq
            have Q1 := Lib.hid hq1
            have Q2 := Lib.hid hq2
            have e1 : ((q : Int) != (q : Int)) = false := by simp
            clear hq hq0 hq1 hq2
            go_wp2_with fail
            have hS := (Below.refl wr.heap.size wr).drew
            (refine wp_region_lines (Below wr.heap.size wr) (by kernel_rfl) (by kernel_rfl) (Below.refl wr.heap.size wr).drew ?_)
            (try simp only [])
            repeat (first | (refine runL_no (by rfl) ?_; (try simp only [Act.put, List.setIfInBounds_toArray, List.set_cons_zero, List.set_cons_succ])) | (refine runL_val (v := ?_) (by rfl) ?_ ?_; rotate_left; (focus (intro w_ hw_; have hH_ := HC.out.next hw_; have y0 := hH_.held.cell 0 k rfl (stRow_get Q1.out); have y1 := hH_.held.cell 1 k rfl (stRow_get Q2.out); go_simp; (try with_reducible rfl); done)); (try simp only [Act.put, List.setIfInBounds_toArray, List.set_cons_zero, List.set_cons_succ])) | (refine runL_call (f := ?_) (args := ?_) (w1 := ?_) (by rfl) (by rfl) ?_ ?_; rotate_left 3; (focus (go_simp; refine ⟨⟨?_, ?_⟩, ?_⟩ <;> with_reducible rfl)); refine (in_any (writesI i) _ k _ _ (HWR.out.keep ((HC.out.next hS).same_.mono fun _ h => .inr h)) (fun j hj => ((HC.out.next hS).fix j (.inr hj)).2.1) HLW.out).mono ?_; rintro e wA ⟨rfl, rfl⟩; rw [HQ.out]; refine ⟨_, rfl, .inr hS, ?_⟩; (try simp only [Act.put, List.setIfInBounds_toArray, List.set_cons_zero, List.set_cons_succ])))
            (refine runL_nil ?_)
            go_wp2_with fail
            go_roundw
            case rel => exact ⟨k + 1, by have := HKK.out; omega, by go_num, HBL.out.trans (hS.mono HBL.out.size)⟩
            case measure => simp [intOf]; have := HKK.out; omega
          · have HQ := Lib.hid hq
            clear hq hq0
            go_wp2_with fail
            have hS := (Below.refl wr.heap.size wr).drew
            (refine wp_region_lines (Below wr.heap.size wr) (by kernel_rfl) (by kernel_rfl) (Below.refl wr.heap.size wr).drew ?_)
            (try simp only [])
            repeat (first | (refine runL_no (by rfl) ?_; (try simp only [Act.put, List.setIfInBounds_toArray, List.set_cons_zero, List.set_cons_succ])) | (refine runL_val (v := ?_) (by rfl) ?_ ?_; rotate_left; (focus (intro w_ hw_; have hH_ := hw_; go_simp; (try with_reducible rfl); done)); (try simp only [Act.put, List.setIfInBounds_toArray, List.set_cons_zero, List.set_cons_succ])) | (refine runL_call (f := ?_) (args := ?_) (w1 := ?_) (by rfl) (by rfl) ?_ ?_; rotate_left 3; (focus (go_simp; refine ⟨⟨?_, ?_⟩, ?_⟩ <;> with_reducible rfl)); refine (in_any (writesI i) _ k _ _ (HWR.out.keep ((HC.out.next hS).same_.mono fun _ h => .inr h)) (fun j hj => ((HC.out.next hS).fix j (.inr hj)).2.1) HLW.out).mono ?_; rintro e wA ⟨rfl, rfl⟩; rw [HQ.out]; refine ⟨_, rfl, .inr hS, ?_⟩; (try simp only [Act.put, List.setIfInBounds_toArray, List.set_cons_zero, List.set_cons_succ])))
            (refine runL_nil ?_)
            go_wp2_with fail
            go_roundw
            case rel => exact ⟨k + 1, by have := HKK.out; omega, by go_num, HBL.out.trans (hS.mono HBL.out.size)⟩
            case measure => simp [intOf]; have := HKK.out; omega
        · obtain rfl : k = 16 := by omega
          clear H
          have H := Lib.hid HC.out
          clear HC HBL hk hlt
          have HSQ := Lib.hid (⟨HS.out, HOR.out⟩ : StOk s ∧ StOk R.st)
          obtain ⟨rho, hrho, hr16⟩ := pick16 r
          have HP2 := Lib.hid (show ∀ w, Calls Tryz.prog 20 #[.int .i64 r, .int .i64 16] w fun e w' => e = .returned (.int .i64 (rho : Nat)) ∧ w = w' from fun w => by have h := HP.out w; rw [hrho] at h; exact h)
          have HR16 := Lib.hid hr16
          clear hrho hr16 HP
          have F17 := Lib.hid (fun h : fw &&& 1 = 0 => (H.out.held.cell 0 17 rfl (stRow_cf HOR.out)).trans (by rw [HFL.out.1 (by rw [← HFW.out]; exact h)]))
          have F18 := Lib.hid (fun h : fw &&& 2 = 0 => (H.out.held.cell 0 18 rfl (stRow_of HOR.out)).trans (by rw [HFL.out.2.1 (by rw [← HFW.out]; exact h)]))
          have F19 := Lib.hid (fun h : fw &&& 4 = 0 => (H.out.held.cell 0 19 rfl (stRow_zf HOR.out)).trans (by rw [HFL.out.2.2 (by rw [← HFW.out]; exact h)]))
          have G17 := Lib.hid (H.out.held.cell 1 17 rfl (stRow_cf HS.out))
          have G18 := Lib.hid (H.out.held.cell 1 18 rfl (stRow_of HS.out))
          have G19 := Lib.hid (H.out.held.cell 1 19 rfl (stRow_zf HS.out))
          have hfc := flagsW_is i.op
          rw [← HFW.out] at hfc
          rcases hfc with rfl | rfl | rfl | rfl | rfl
          · have b1 : Go.bits .and .i64 7 1 = 1 := by decide
            have b2 : Go.bits .and .i64 7 2 = 2 := by decide
            have b4 : Go.bits .and .i64 7 4 = 4 := by decide
            skip
            clear F17 F18 F19 G17 G18 G19 HFW
            go_wp2_with fail
            refine (HP2.out _).mono ?_
            rintro e wP ⟨rfl, rfl⟩
            go_wp2_with fail
            have hin := in_any (readsI i) (.slice Ar nr cr) rho wr _ (HRD.out.keep (H.out.same_.mono fun _ h => .inr h)) (fun j hj => (H.out.fix j (.inr hj)).2.1) HLR.out
            cases hq : inF (readsI i) rho
            · rw [hq] at hin
              refine hin.mono ?_
              rintro e wQ ⟨rfl, rfl⟩
              have hnr : (readsL (formR i.op) i).getD rho false = false := by
                have h : inF (readsI i) rho = (readsL (formR i.op) i).getD rho false := by unfold readsI; rw [if_pos HK.out]; exact inF_rising HR16.out
                exact h.symm.trans hq
              have HNR := Lib.hid hnr
              clear hq hin hnr
              go_upto_region 25 with (first | ((with_reducible refine wl_id ?_); refine H.out.load_row 1 rfl rfl _ rfl rfl ?_) | ((with_reducible refine wl_id ?_); refine H.out.store_fresh (s := s) HS.out rfl _ _ rfl _ rfl rfl rfl ?_; intro Wt hW; clear H; have H := Lib.hid hW; clear hW))
              have l1 := HSQ.out.1.len
              obtain ⟨q0, hq0⟩ : ∃ q0, s.regs[rho]? = some q0 := ⟨_, List.getElem?_eq_getElem (by have := HR16.out; omega)⟩
              have c0 := H.out.held.cell 0 rho rfl (stRow_get hq0)
              have f0 := H.out.held.frozen 0 rho rfl
              have i0 : (0 : Int) ≤ (rho : Int) := by omega
              have i1 : (rho : Int) < 16 := by have := HR16.out; omega
              clear hq0 l1
              go_upto_region 26 with fail
              refine wp_name ?_
              intro W1 hW1
              have okT : StOk (sv s (s.regs.set rho x)) := ⟨by simp [sv, HSQ.out.1.len], set_lt16 HSQ.out.1.regs rho HX.out, HSQ.out.1.pc⟩
              have hH := (H.out.setCell (i := 0) rfl rho (.int .u64 x) (s' := sv s (s.regs.set rho x)) (stRow_reg s rho (by rw [HSQ.out.1.len]; exact HR16.out) x) okT).cast hW1
              have hge : ∀ k, seg w3.heap.size w4.heap.size k → w.heap.size ≤ k := fun k hk => by have h1 := HSZ.out; have h2 := HZW.out; have h3 := hk.1; omega
              have hsw := hH.swap HM2.out (fun k hk => .inl (.inr hk)) hge
              have hki := (hH.fix _ (.inl (.inl rfl))).1.trans KI.out
              have hwr := HWR.out.keep (hH.same_.mono fun _ h => .inr h)
              have HM1 := Lib.hid hH.held.mem
              clear H KI HM2 HWR HRD c0 f0 i0 i1 hW1 hge
              have H := Lib.hid hsw
              have KI := Lib.hid hki
              have HWR := Lib.hid hwr
              have HOT := Lib.hid okT
              clear hH hsw hki hwr okT
              obtain ⟨R2, hR2⟩ : ∃ R2, R2 = stepF (sv s (s.regs.set rho x)) i 3 rs := ⟨_, rfl⟩
              have hdo := HDO.out rho x HNR.out
              rw [← hR2] at hdo
              have HO2 := Lib.hid (show StOk R2.st from by rw [hR2]; exact step_ok HOT.out i 3 rs)
              have HR2 := Lib.hid hR2
              have HST := Lib.hid (show R2.st = if (writesL (formR i.op) i).getD rho false then R.st else sv R.st (R.st.regs.set rho x) by rw [hdo])
              have q1 : R2.code = 0 := by rw [hdo]
              have q2 : R2.evs = R.evs := by rw [hdo]
              have q3 : R2.rs = R.rs := by rw [hdo]
              have HQ3 := Lib.hid (And.intro q1 (And.intro q2 q3))
              have HNS := Lib.hid (show ¬ seg w3.heap.size w4.heap.size (w.heap.size + 1) from fun hk => by have h1 := HSZ.out; have h2 := HZW.out; have h3 := hk.1; omega)
              have HLE := Lib.hid (show R.evs.length ≤ 9223372036854775807 by have := step_evs s i 3 rs; rw [← HR.out] at this; omega)
              clear hR2 hdo q1 q2 q3 HNR HDO HSZ HZW
              go_wp2_with (first | ((with_reducible refine wl_id ?_); refine H.out.load_row 0 rfl rfl _ rfl rfl ?_) | ((with_reducible refine wl_id ?_); refine H.out.load_ins (.inl ⟨.inl (.inl rfl), HNS.out⟩) KI.out rfl _ rfl rfl ?_))
              refine (H.out.Do 0 rfl i HI.out 3 HR2.out).mono ?_
              rintro e w7 ⟨A7, n7, rfl, hH⟩
              rw [HQ3.out.2.1, HQ3.out.2.2] at hH
              rw [HQ3.out.1, HQ3.out.2.1]
              clear H KI
              have H := Lib.hid hH
              clear hH
              go_upto_region 27 with ((with_reducible refine wl_id ?_); refine H.out.store_fresh (s := R2.st) HO2.out rfl _ _ rfl _ rfl rfl rfl ?_; intro Wu hW; clear H; have H := Lib.hid hW; clear hW)
              go_wp2_with fail
              have hGW : ∀ k, (W6.heap.size ≤ k ∧ k < wB.heap.size) → ((((k = w.heap.size + 1 ∨ seg w3.heap.size w4.heap.size k) ∨ (W6.heap.size ≤ k ∧ k < wB.heap.size)) ∧ ¬ seg w3.heap.size w4.heap.size k) ∨ seg w2.heap.size w3.heap.size k) := fun k hk => .inl ⟨.inr hk, fun h => by have h1 := HSE.out k h; have h2 := hk.1; omega⟩
              have hin := in_any (writesI i) (.slice Aw nw cw) rho Wu _ (HWR.out.keep (H.out.same_.mono hGW)) (fun j hj => (H.out.fix j (hGW j hj)).2.1) HLW.out
              cases hq : inF (writesI i) rho
              · rw [hq] at hin
                refine hin.mono ?_
                rintro e wQ ⟨rfl, rfl⟩
                have hnw : (writesL (formR i.op) i).getD rho false = false := by
                  have h : inF (writesI i) rho = (writesL (formR i.op) i).getD rho false := by unfold writesI; rw [if_pos HK.out]; exact inF_rising HR16.out
                  exact h.symm.trans hq
                have hst : R2.st = sv R.st (R.st.regs.set rho x) := by rw [HST.out, hnw]; rfl
                have HSV := Lib.hid hst
                clear hq hin hGW hnw hst HST
                have l1 := HSQ.out.2.len
                obtain ⟨q0, hq0⟩ : ∃ q0, R.st.regs[rho]? = some q0 := ⟨_, List.getElem?_eq_getElem (by have := HR16.out; omega)⟩
                have c0 := H.out.held.cell 2 rho rfl (stRow_get hq0)
                have f0 := H.out.held.frozen 2 rho rfl
                have i0 : (0 : Int) ≤ (rho : Int) := by omega
                have i1 : (rho : Int) < 16 := by have := HR16.out; omega
                clear hq0 l1
                go_upto_region 29 with fail
                refine wp_name ?_
                intro W2 hW2
                have hH := (H.out.setCell (i := 2) rfl rho (.int .u64 x) (s' := sv R.st (R.st.regs.set rho x)) (stRow_reg R.st rho (by rw [HSQ.out.2.len]; exact HR16.out) x) (HSV.out ▸ HO2.out)).cast hW2
                rw [← HSV.out] at hH
                clear c0 f0 i0 i1 hW2
                clear H
                have H := Lib.hid hH
                clear hH
                go_wp2_with (first | ((with_reducible refine wl_id ?_); refine H.out.load_row_w 0 rfl _ rfl rfl rfl ?_) | ((with_reducible refine wl_id ?_); refine H.out.load_row_w 2 rfl _ rfl rfl rfl ?_) | ((with_reducible refine wl_id ?_); refine wl_eq_st _ _ rfl HO2.out HO2.out rfl rfl rfl ((eqSt_iff _ _).2 rfl) ?_))
                refine (SameEv_any _ _ _ _ R.evs R.evs HLE.out (H.out.held.evs 1 rfl) (H.out.held.evs 0 rfl) (fun _ hk => hk)).mono ?_
                rintro e w9 ⟨rfl, hb⟩
                rw [sameE_self]
                have hH := H.out.next hb
                clear H hb
                have H := Lib.hid hH
                clear hH
                go_wp2_with fail
                refine (Regions_at (HM1.out.keep (H.out.same_.mono fun k hk => .inr hk)) (fun k hk => (H.out.fix k (.inr hk)).2.1)).mono ?_
                rintro e wF ⟨AF, nF, rfl, hr, hb⟩
                have hH := H.out.next hb
                have HRF := Lib.hid hr
                clear hr hb H
                have H := Lib.hid hH
                clear hH
                go_wp2_with fail
                refine (Regions_at H.out.held.mem H.out.held.lt).mono ?_
                rintro e wG ⟨AG, nG, rfl, hr, hb⟩
                have HRG2 := Lib.hid hr
                have HRF2 := Lib.hid (regs_next HRF.out hb)
                have HLR2 := Lib.hid (show R.rs.length ≤ 9223372036854775807 by have := (mem_good H.out.held.mem).len; omega)
                have hH := H.out.next hb
                clear hr hb H
                have H := Lib.hid hH
                clear hH
                go_wp2_with fail
                refine (Same_true HLR2.out HRF2.out HRG2.out).mono ?_
                rintro e wH ⟨rfl, hb⟩
                have HEND := Lib.hid (H.out.held.below.trans (hb.mono H.out.held.below.size))
                clear hb
                go_wp2
                go_ret
                exact ⟨rfl, HEND.out⟩
              · rw [hq] at hin
                refine hin.mono ?_
                rintro e wQ ⟨rfl, rfl⟩
                have hnw : (writesL (formR i.op) i).getD rho false = true := by
                  have h : inF (writesI i) rho = (writesL (formR i.op) i).getD rho false := by unfold writesI; rw [if_pos HK.out]; exact inF_rising HR16.out
                  exact h.symm.trans hq
                have hst : R2.st = R.st := by rw [HST.out, hnw]; rfl
                have hH := H.out
                rw [← hst] at hH
                clear hq hin hGW hnw hst HST
                go_upto_region 29 with fail
                clear H
                have H := Lib.hid hH
                clear hH
                go_wp2_with (first | ((with_reducible refine wl_id ?_); refine H.out.load_row_w 0 rfl _ rfl rfl rfl ?_) | ((with_reducible refine wl_id ?_); refine H.out.load_row_w 2 rfl _ rfl rfl rfl ?_) | ((with_reducible refine wl_id ?_); refine wl_eq_st _ _ rfl HO2.out HO2.out rfl rfl rfl ((eqSt_iff _ _).2 rfl) ?_))
                refine (SameEv_any _ _ _ _ R.evs R.evs HLE.out (H.out.held.evs 1 rfl) (H.out.held.evs 0 rfl) (fun _ hk => hk)).mono ?_
                rintro e w9 ⟨rfl, hb⟩
                rw [sameE_self]
                have hH := H.out.next hb
                clear H hb
                have H := Lib.hid hH
                clear hH
                go_wp2_with fail
                refine (Regions_at (HM1.out.keep (H.out.same_.mono fun k hk => .inr hk)) (fun k hk => (H.out.fix k (.inr hk)).2.1)).mono ?_
                rintro e wF ⟨AF, nF, rfl, hr, hb⟩
                have hH := H.out.next hb
                have HRF := Lib.hid hr
                clear hr hb H
                have H := Lib.hid hH
                clear hH
                go_wp2_with fail
                refine (Regions_at H.out.held.mem H.out.held.lt).mono ?_
                rintro e wG ⟨AG, nG, rfl, hr, hb⟩
                have HRG2 := Lib.hid hr
                have HRF2 := Lib.hid (regs_next HRF.out hb)
                have HLR2 := Lib.hid (show R.rs.length ≤ 9223372036854775807 by have := (mem_good H.out.held.mem).len; omega)
                have hH := H.out.next hb
                clear hr hb H
                have H := Lib.hid hH
                clear hH
                go_wp2_with fail
                refine (Same_true HLR2.out HRF2.out HRG2.out).mono ?_
                rintro e wH ⟨rfl, hb⟩
                have HEND := Lib.hid (H.out.held.below.trans (hb.mono H.out.held.below.size))
                clear hb
                go_wp2
                go_ret
                exact ⟨rfl, HEND.out⟩
            · rw [hq] at hin
              refine hin.mono ?_
              rintro e wQ ⟨rfl, rfl⟩
              clear hq hin
              go_wp2_with fail
              go_ret
              exact ⟨rfl, H.out.held.below⟩
          · have b1 : Go.bits .and .i64 5 1 = 1 := by decide
            have b2 : Go.bits .and .i64 5 2 = 0 := by decide
            have b4 : Go.bits .and .i64 5 4 = 4 := by decide
            (have y1 := F18.out rfl; have y2 := G18.out)
            clear F17 F18 F19 G17 G18 G19 HFW
            go_wp2_with fail
            refine (HP2.out _).mono ?_
            rintro e wP ⟨rfl, rfl⟩
            go_wp2_with fail
            have hin := in_any (readsI i) (.slice Ar nr cr) rho wr _ (HRD.out.keep (H.out.same_.mono fun _ h => .inr h)) (fun j hj => (H.out.fix j (.inr hj)).2.1) HLR.out
            cases hq : inF (readsI i) rho
            · rw [hq] at hin
              refine hin.mono ?_
              rintro e wQ ⟨rfl, rfl⟩
              have hnr : (readsL (formR i.op) i).getD rho false = false := by
                have h : inF (readsI i) rho = (readsL (formR i.op) i).getD rho false := by unfold readsI; rw [if_pos HK.out]; exact inF_rising HR16.out
                exact h.symm.trans hq
              have HNR := Lib.hid hnr
              clear hq hin hnr
              go_upto_region 25 with (first | ((with_reducible refine wl_id ?_); refine H.out.load_row 1 rfl rfl _ rfl rfl ?_) | ((with_reducible refine wl_id ?_); refine H.out.store_fresh (s := s) HS.out rfl _ _ rfl _ rfl rfl rfl ?_; intro Wt hW; clear H; have H := Lib.hid hW; clear hW))
              have l1 := HSQ.out.1.len
              obtain ⟨q0, hq0⟩ : ∃ q0, s.regs[rho]? = some q0 := ⟨_, List.getElem?_eq_getElem (by have := HR16.out; omega)⟩
              have c0 := H.out.held.cell 0 rho rfl (stRow_get hq0)
              have f0 := H.out.held.frozen 0 rho rfl
              have i0 : (0 : Int) ≤ (rho : Int) := by omega
              have i1 : (rho : Int) < 16 := by have := HR16.out; omega
              clear hq0 l1
              go_upto_region 26 with fail
              refine wp_name ?_
              intro W1 hW1
              have okT : StOk (sv s (s.regs.set rho x)) := ⟨by simp [sv, HSQ.out.1.len], set_lt16 HSQ.out.1.regs rho HX.out, HSQ.out.1.pc⟩
              have hH := (H.out.setCell (i := 0) rfl rho (.int .u64 x) (s' := sv s (s.regs.set rho x)) (stRow_reg s rho (by rw [HSQ.out.1.len]; exact HR16.out) x) okT).cast hW1
              have hge : ∀ k, seg w3.heap.size w4.heap.size k → w.heap.size ≤ k := fun k hk => by have h1 := HSZ.out; have h2 := HZW.out; have h3 := hk.1; omega
              have hsw := hH.swap HM2.out (fun k hk => .inl (.inr hk)) hge
              have hki := (hH.fix _ (.inl (.inl rfl))).1.trans KI.out
              have hwr := HWR.out.keep (hH.same_.mono fun _ h => .inr h)
              have HM1 := Lib.hid hH.held.mem
              clear H KI HM2 HWR HRD c0 f0 i0 i1 hW1 hge
              have H := Lib.hid hsw
              have KI := Lib.hid hki
              have HWR := Lib.hid hwr
              have HOT := Lib.hid okT
              clear hH hsw hki hwr okT
              obtain ⟨R2, hR2⟩ : ∃ R2, R2 = stepF (sv s (s.regs.set rho x)) i 3 rs := ⟨_, rfl⟩
              have hdo := HDO.out rho x HNR.out
              rw [← hR2] at hdo
              have HO2 := Lib.hid (show StOk R2.st from by rw [hR2]; exact step_ok HOT.out i 3 rs)
              have HR2 := Lib.hid hR2
              have HST := Lib.hid (show R2.st = if (writesL (formR i.op) i).getD rho false then R.st else sv R.st (R.st.regs.set rho x) by rw [hdo])
              have q1 : R2.code = 0 := by rw [hdo]
              have q2 : R2.evs = R.evs := by rw [hdo]
              have q3 : R2.rs = R.rs := by rw [hdo]
              have HQ3 := Lib.hid (And.intro q1 (And.intro q2 q3))
              have HNS := Lib.hid (show ¬ seg w3.heap.size w4.heap.size (w.heap.size + 1) from fun hk => by have h1 := HSZ.out; have h2 := HZW.out; have h3 := hk.1; omega)
              have HLE := Lib.hid (show R.evs.length ≤ 9223372036854775807 by have := step_evs s i 3 rs; rw [← HR.out] at this; omega)
              clear hR2 hdo q1 q2 q3 HNR HDO HSZ HZW
              go_wp2_with (first | ((with_reducible refine wl_id ?_); refine H.out.load_row 0 rfl rfl _ rfl rfl ?_) | ((with_reducible refine wl_id ?_); refine H.out.load_ins (.inl ⟨.inl (.inl rfl), HNS.out⟩) KI.out rfl _ rfl rfl ?_))
              refine (H.out.Do 0 rfl i HI.out 3 HR2.out).mono ?_
              rintro e w7 ⟨A7, n7, rfl, hH⟩
              rw [HQ3.out.2.1, HQ3.out.2.2] at hH
              rw [HQ3.out.1, HQ3.out.2.1]
              clear H KI
              have H := Lib.hid hH
              clear hH
              go_upto_region 27 with ((with_reducible refine wl_id ?_); refine H.out.store_fresh (s := R2.st) HO2.out rfl _ _ rfl _ rfl rfl rfl ?_; intro Wu hW; clear H; have H := Lib.hid hW; clear hW)
              go_wp2_with fail
              have hGW : ∀ k, (W6.heap.size ≤ k ∧ k < wB.heap.size) → ((((k = w.heap.size + 1 ∨ seg w3.heap.size w4.heap.size k) ∨ (W6.heap.size ≤ k ∧ k < wB.heap.size)) ∧ ¬ seg w3.heap.size w4.heap.size k) ∨ seg w2.heap.size w3.heap.size k) := fun k hk => .inl ⟨.inr hk, fun h => by have h1 := HSE.out k h; have h2 := hk.1; omega⟩
              have hin := in_any (writesI i) (.slice Aw nw cw) rho Wu _ (HWR.out.keep (H.out.same_.mono hGW)) (fun j hj => (H.out.fix j (hGW j hj)).2.1) HLW.out
              cases hq : inF (writesI i) rho
              · rw [hq] at hin
                refine hin.mono ?_
                rintro e wQ ⟨rfl, rfl⟩
                have hnw : (writesL (formR i.op) i).getD rho false = false := by
                  have h : inF (writesI i) rho = (writesL (formR i.op) i).getD rho false := by unfold writesI; rw [if_pos HK.out]; exact inF_rising HR16.out
                  exact h.symm.trans hq
                have hst : R2.st = sv R.st (R.st.regs.set rho x) := by rw [HST.out, hnw]; rfl
                have HSV := Lib.hid hst
                clear hq hin hGW hnw hst HST
                have l1 := HSQ.out.2.len
                obtain ⟨q0, hq0⟩ : ∃ q0, R.st.regs[rho]? = some q0 := ⟨_, List.getElem?_eq_getElem (by have := HR16.out; omega)⟩
                have c0 := H.out.held.cell 2 rho rfl (stRow_get hq0)
                have f0 := H.out.held.frozen 2 rho rfl
                have i0 : (0 : Int) ≤ (rho : Int) := by omega
                have i1 : (rho : Int) < 16 := by have := HR16.out; omega
                clear hq0 l1
                go_upto_region 29 with fail
                refine wp_name ?_
                intro W2 hW2
                have hH := (H.out.setCell (i := 2) rfl rho (.int .u64 x) (s' := sv R.st (R.st.regs.set rho x)) (stRow_reg R.st rho (by rw [HSQ.out.2.len]; exact HR16.out) x) (HSV.out ▸ HO2.out)).cast hW2
                rw [← HSV.out] at hH
                clear c0 f0 i0 i1 hW2
                clear H
                have H := Lib.hid hH
                clear hH
                go_wp2_with (first | ((with_reducible refine wl_id ?_); refine H.out.load_row_w 0 rfl _ rfl rfl rfl ?_) | ((with_reducible refine wl_id ?_); refine H.out.load_row_w 2 rfl _ rfl rfl rfl ?_) | ((with_reducible refine wl_id ?_); refine wl_eq_st _ _ rfl HO2.out HO2.out rfl rfl rfl ((eqSt_iff _ _).2 rfl) ?_))
                refine (SameEv_any _ _ _ _ R.evs R.evs HLE.out (H.out.held.evs 1 rfl) (H.out.held.evs 0 rfl) (fun _ hk => hk)).mono ?_
                rintro e w9 ⟨rfl, hb⟩
                rw [sameE_self]
                have hH := H.out.next hb
                clear H hb
                have H := Lib.hid hH
                clear hH
                go_wp2_with fail
                refine (Regions_at (HM1.out.keep (H.out.same_.mono fun k hk => .inr hk)) (fun k hk => (H.out.fix k (.inr hk)).2.1)).mono ?_
                rintro e wF ⟨AF, nF, rfl, hr, hb⟩
                have hH := H.out.next hb
                have HRF := Lib.hid hr
                clear hr hb H
                have H := Lib.hid hH
                clear hH
                go_wp2_with fail
                refine (Regions_at H.out.held.mem H.out.held.lt).mono ?_
                rintro e wG ⟨AG, nG, rfl, hr, hb⟩
                have HRG2 := Lib.hid hr
                have HRF2 := Lib.hid (regs_next HRF.out hb)
                have HLR2 := Lib.hid (show R.rs.length ≤ 9223372036854775807 by have := (mem_good H.out.held.mem).len; omega)
                have hH := H.out.next hb
                clear hr hb H
                have H := Lib.hid hH
                clear hH
                go_wp2_with fail
                refine (Same_true HLR2.out HRF2.out HRG2.out).mono ?_
                rintro e wH ⟨rfl, hb⟩
                have HEND := Lib.hid (H.out.held.below.trans (hb.mono H.out.held.below.size))
                clear hb
                go_wp2
                go_ret
                exact ⟨rfl, HEND.out⟩
              · rw [hq] at hin
                refine hin.mono ?_
                rintro e wQ ⟨rfl, rfl⟩
                have hnw : (writesL (formR i.op) i).getD rho false = true := by
                  have h : inF (writesI i) rho = (writesL (formR i.op) i).getD rho false := by unfold writesI; rw [if_pos HK.out]; exact inF_rising HR16.out
                  exact h.symm.trans hq
                have hst : R2.st = R.st := by rw [HST.out, hnw]; rfl
                have hH := H.out
                rw [← hst] at hH
                clear hq hin hGW hnw hst HST
                go_upto_region 29 with fail
                clear H
                have H := Lib.hid hH
                clear hH
                go_wp2_with (first | ((with_reducible refine wl_id ?_); refine H.out.load_row_w 0 rfl _ rfl rfl rfl ?_) | ((with_reducible refine wl_id ?_); refine H.out.load_row_w 2 rfl _ rfl rfl rfl ?_) | ((with_reducible refine wl_id ?_); refine wl_eq_st _ _ rfl HO2.out HO2.out rfl rfl rfl ((eqSt_iff _ _).2 rfl) ?_))
                refine (SameEv_any _ _ _ _ R.evs R.evs HLE.out (H.out.held.evs 1 rfl) (H.out.held.evs 0 rfl) (fun _ hk => hk)).mono ?_
                rintro e w9 ⟨rfl, hb⟩
                rw [sameE_self]
                have hH := H.out.next hb
                clear H hb
                have H := Lib.hid hH
                clear hH
                go_wp2_with fail
                refine (Regions_at (HM1.out.keep (H.out.same_.mono fun k hk => .inr hk)) (fun k hk => (H.out.fix k (.inr hk)).2.1)).mono ?_
                rintro e wF ⟨AF, nF, rfl, hr, hb⟩
                have hH := H.out.next hb
                have HRF := Lib.hid hr
                clear hr hb H
                have H := Lib.hid hH
                clear hH
                go_wp2_with fail
                refine (Regions_at H.out.held.mem H.out.held.lt).mono ?_
                rintro e wG ⟨AG, nG, rfl, hr, hb⟩
                have HRG2 := Lib.hid hr
                have HRF2 := Lib.hid (regs_next HRF.out hb)
                have HLR2 := Lib.hid (show R.rs.length ≤ 9223372036854775807 by have := (mem_good H.out.held.mem).len; omega)
                have hH := H.out.next hb
                clear hr hb H
                have H := Lib.hid hH
                clear hH
                go_wp2_with fail
                refine (Same_true HLR2.out HRF2.out HRG2.out).mono ?_
                rintro e wH ⟨rfl, hb⟩
                have HEND := Lib.hid (H.out.held.below.trans (hb.mono H.out.held.below.size))
                clear hb
                go_wp2
                go_ret
                exact ⟨rfl, HEND.out⟩
            · rw [hq] at hin
              refine hin.mono ?_
              rintro e wQ ⟨rfl, rfl⟩
              clear hq hin
              go_wp2_with fail
              go_ret
              exact ⟨rfl, H.out.held.below⟩
          · have b1 : Go.bits .and .i64 1 1 = 1 := by decide
            have b2 : Go.bits .and .i64 1 2 = 0 := by decide
            have b4 : Go.bits .and .i64 1 4 = 0 := by decide
            (have y1 := F18.out rfl; have y2 := G18.out; have y3 := F19.out rfl; have y4 := G19.out)
            clear F17 F18 F19 G17 G18 G19 HFW
            go_wp2_with fail
            refine (HP2.out _).mono ?_
            rintro e wP ⟨rfl, rfl⟩
            go_wp2_with fail
            have hin := in_any (readsI i) (.slice Ar nr cr) rho wr _ (HRD.out.keep (H.out.same_.mono fun _ h => .inr h)) (fun j hj => (H.out.fix j (.inr hj)).2.1) HLR.out
            cases hq : inF (readsI i) rho
            · rw [hq] at hin
              refine hin.mono ?_
              rintro e wQ ⟨rfl, rfl⟩
              have hnr : (readsL (formR i.op) i).getD rho false = false := by
                have h : inF (readsI i) rho = (readsL (formR i.op) i).getD rho false := by unfold readsI; rw [if_pos HK.out]; exact inF_rising HR16.out
                exact h.symm.trans hq
              have HNR := Lib.hid hnr
              clear hq hin hnr
              go_upto_region 25 with (first | ((with_reducible refine wl_id ?_); refine H.out.load_row 1 rfl rfl _ rfl rfl ?_) | ((with_reducible refine wl_id ?_); refine H.out.store_fresh (s := s) HS.out rfl _ _ rfl _ rfl rfl rfl ?_; intro Wt hW; clear H; have H := Lib.hid hW; clear hW))
              have l1 := HSQ.out.1.len
              obtain ⟨q0, hq0⟩ : ∃ q0, s.regs[rho]? = some q0 := ⟨_, List.getElem?_eq_getElem (by have := HR16.out; omega)⟩
              have c0 := H.out.held.cell 0 rho rfl (stRow_get hq0)
              have f0 := H.out.held.frozen 0 rho rfl
              have i0 : (0 : Int) ≤ (rho : Int) := by omega
              have i1 : (rho : Int) < 16 := by have := HR16.out; omega
              clear hq0 l1
              go_upto_region 26 with fail
              refine wp_name ?_
              intro W1 hW1
              have okT : StOk (sv s (s.regs.set rho x)) := ⟨by simp [sv, HSQ.out.1.len], set_lt16 HSQ.out.1.regs rho HX.out, HSQ.out.1.pc⟩
              have hH := (H.out.setCell (i := 0) rfl rho (.int .u64 x) (s' := sv s (s.regs.set rho x)) (stRow_reg s rho (by rw [HSQ.out.1.len]; exact HR16.out) x) okT).cast hW1
              have hge : ∀ k, seg w3.heap.size w4.heap.size k → w.heap.size ≤ k := fun k hk => by have h1 := HSZ.out; have h2 := HZW.out; have h3 := hk.1; omega
              have hsw := hH.swap HM2.out (fun k hk => .inl (.inr hk)) hge
              have hki := (hH.fix _ (.inl (.inl rfl))).1.trans KI.out
              have hwr := HWR.out.keep (hH.same_.mono fun _ h => .inr h)
              have HM1 := Lib.hid hH.held.mem
              clear H KI HM2 HWR HRD c0 f0 i0 i1 hW1 hge
              have H := Lib.hid hsw
              have KI := Lib.hid hki
              have HWR := Lib.hid hwr
              have HOT := Lib.hid okT
              clear hH hsw hki hwr okT
              obtain ⟨R2, hR2⟩ : ∃ R2, R2 = stepF (sv s (s.regs.set rho x)) i 3 rs := ⟨_, rfl⟩
              have hdo := HDO.out rho x HNR.out
              rw [← hR2] at hdo
              have HO2 := Lib.hid (show StOk R2.st from by rw [hR2]; exact step_ok HOT.out i 3 rs)
              have HR2 := Lib.hid hR2
              have HST := Lib.hid (show R2.st = if (writesL (formR i.op) i).getD rho false then R.st else sv R.st (R.st.regs.set rho x) by rw [hdo])
              have q1 : R2.code = 0 := by rw [hdo]
              have q2 : R2.evs = R.evs := by rw [hdo]
              have q3 : R2.rs = R.rs := by rw [hdo]
              have HQ3 := Lib.hid (And.intro q1 (And.intro q2 q3))
              have HNS := Lib.hid (show ¬ seg w3.heap.size w4.heap.size (w.heap.size + 1) from fun hk => by have h1 := HSZ.out; have h2 := HZW.out; have h3 := hk.1; omega)
              have HLE := Lib.hid (show R.evs.length ≤ 9223372036854775807 by have := step_evs s i 3 rs; rw [← HR.out] at this; omega)
              clear hR2 hdo q1 q2 q3 HNR HDO HSZ HZW
              go_wp2_with (first | ((with_reducible refine wl_id ?_); refine H.out.load_row 0 rfl rfl _ rfl rfl ?_) | ((with_reducible refine wl_id ?_); refine H.out.load_ins (.inl ⟨.inl (.inl rfl), HNS.out⟩) KI.out rfl _ rfl rfl ?_))
              refine (H.out.Do 0 rfl i HI.out 3 HR2.out).mono ?_
              rintro e w7 ⟨A7, n7, rfl, hH⟩
              rw [HQ3.out.2.1, HQ3.out.2.2] at hH
              rw [HQ3.out.1, HQ3.out.2.1]
              clear H KI
              have H := Lib.hid hH
              clear hH
              go_upto_region 27 with ((with_reducible refine wl_id ?_); refine H.out.store_fresh (s := R2.st) HO2.out rfl _ _ rfl _ rfl rfl rfl ?_; intro Wu hW; clear H; have H := Lib.hid hW; clear hW)
              go_wp2_with fail
              have hGW : ∀ k, (W6.heap.size ≤ k ∧ k < wB.heap.size) → ((((k = w.heap.size + 1 ∨ seg w3.heap.size w4.heap.size k) ∨ (W6.heap.size ≤ k ∧ k < wB.heap.size)) ∧ ¬ seg w3.heap.size w4.heap.size k) ∨ seg w2.heap.size w3.heap.size k) := fun k hk => .inl ⟨.inr hk, fun h => by have h1 := HSE.out k h; have h2 := hk.1; omega⟩
              have hin := in_any (writesI i) (.slice Aw nw cw) rho Wu _ (HWR.out.keep (H.out.same_.mono hGW)) (fun j hj => (H.out.fix j (hGW j hj)).2.1) HLW.out
              cases hq : inF (writesI i) rho
              · rw [hq] at hin
                refine hin.mono ?_
                rintro e wQ ⟨rfl, rfl⟩
                have hnw : (writesL (formR i.op) i).getD rho false = false := by
                  have h : inF (writesI i) rho = (writesL (formR i.op) i).getD rho false := by unfold writesI; rw [if_pos HK.out]; exact inF_rising HR16.out
                  exact h.symm.trans hq
                have hst : R2.st = sv R.st (R.st.regs.set rho x) := by rw [HST.out, hnw]; rfl
                have HSV := Lib.hid hst
                clear hq hin hGW hnw hst HST
                have l1 := HSQ.out.2.len
                obtain ⟨q0, hq0⟩ : ∃ q0, R.st.regs[rho]? = some q0 := ⟨_, List.getElem?_eq_getElem (by have := HR16.out; omega)⟩
                have c0 := H.out.held.cell 2 rho rfl (stRow_get hq0)
                have f0 := H.out.held.frozen 2 rho rfl
                have i0 : (0 : Int) ≤ (rho : Int) := by omega
                have i1 : (rho : Int) < 16 := by have := HR16.out; omega
                clear hq0 l1
                go_upto_region 29 with fail
                refine wp_name ?_
                intro W2 hW2
                have hH := (H.out.setCell (i := 2) rfl rho (.int .u64 x) (s' := sv R.st (R.st.regs.set rho x)) (stRow_reg R.st rho (by rw [HSQ.out.2.len]; exact HR16.out) x) (HSV.out ▸ HO2.out)).cast hW2
                rw [← HSV.out] at hH
                clear c0 f0 i0 i1 hW2
                clear H
                have H := Lib.hid hH
                clear hH
                go_wp2_with (first | ((with_reducible refine wl_id ?_); refine H.out.load_row_w 0 rfl _ rfl rfl rfl ?_) | ((with_reducible refine wl_id ?_); refine H.out.load_row_w 2 rfl _ rfl rfl rfl ?_) | ((with_reducible refine wl_id ?_); refine wl_eq_st _ _ rfl HO2.out HO2.out rfl rfl rfl ((eqSt_iff _ _).2 rfl) ?_))
                refine (SameEv_any _ _ _ _ R.evs R.evs HLE.out (H.out.held.evs 1 rfl) (H.out.held.evs 0 rfl) (fun _ hk => hk)).mono ?_
                rintro e w9 ⟨rfl, hb⟩
                rw [sameE_self]
                have hH := H.out.next hb
                clear H hb
                have H := Lib.hid hH
                clear hH
                go_wp2_with fail
                refine (Regions_at (HM1.out.keep (H.out.same_.mono fun k hk => .inr hk)) (fun k hk => (H.out.fix k (.inr hk)).2.1)).mono ?_
                rintro e wF ⟨AF, nF, rfl, hr, hb⟩
                have hH := H.out.next hb
                have HRF := Lib.hid hr
                clear hr hb H
                have H := Lib.hid hH
                clear hH
                go_wp2_with fail
                refine (Regions_at H.out.held.mem H.out.held.lt).mono ?_
                rintro e wG ⟨AG, nG, rfl, hr, hb⟩
                have HRG2 := Lib.hid hr
                have HRF2 := Lib.hid (regs_next HRF.out hb)
                have HLR2 := Lib.hid (show R.rs.length ≤ 9223372036854775807 by have := (mem_good H.out.held.mem).len; omega)
                have hH := H.out.next hb
                clear hr hb H
                have H := Lib.hid hH
                clear hH
                go_wp2_with fail
                refine (Same_true HLR2.out HRF2.out HRG2.out).mono ?_
                rintro e wH ⟨rfl, hb⟩
                have HEND := Lib.hid (H.out.held.below.trans (hb.mono H.out.held.below.size))
                clear hb
                go_wp2
                go_ret
                exact ⟨rfl, HEND.out⟩
              · rw [hq] at hin
                refine hin.mono ?_
                rintro e wQ ⟨rfl, rfl⟩
                have hnw : (writesL (formR i.op) i).getD rho false = true := by
                  have h : inF (writesI i) rho = (writesL (formR i.op) i).getD rho false := by unfold writesI; rw [if_pos HK.out]; exact inF_rising HR16.out
                  exact h.symm.trans hq
                have hst : R2.st = R.st := by rw [HST.out, hnw]; rfl
                have hH := H.out
                rw [← hst] at hH
                clear hq hin hGW hnw hst HST
                go_upto_region 29 with fail
                clear H
                have H := Lib.hid hH
                clear hH
                go_wp2_with (first | ((with_reducible refine wl_id ?_); refine H.out.load_row_w 0 rfl _ rfl rfl rfl ?_) | ((with_reducible refine wl_id ?_); refine H.out.load_row_w 2 rfl _ rfl rfl rfl ?_) | ((with_reducible refine wl_id ?_); refine wl_eq_st _ _ rfl HO2.out HO2.out rfl rfl rfl ((eqSt_iff _ _).2 rfl) ?_))
                refine (SameEv_any _ _ _ _ R.evs R.evs HLE.out (H.out.held.evs 1 rfl) (H.out.held.evs 0 rfl) (fun _ hk => hk)).mono ?_
                rintro e w9 ⟨rfl, hb⟩
                rw [sameE_self]
                have hH := H.out.next hb
                clear H hb
                have H := Lib.hid hH
                clear hH
                go_wp2_with fail
                refine (Regions_at (HM1.out.keep (H.out.same_.mono fun k hk => .inr hk)) (fun k hk => (H.out.fix k (.inr hk)).2.1)).mono ?_
                rintro e wF ⟨AF, nF, rfl, hr, hb⟩
                have hH := H.out.next hb
                have HRF := Lib.hid hr
                clear hr hb H
                have H := Lib.hid hH
                clear hH
                go_wp2_with fail
                refine (Regions_at H.out.held.mem H.out.held.lt).mono ?_
                rintro e wG ⟨AG, nG, rfl, hr, hb⟩
                have HRG2 := Lib.hid hr
                have HRF2 := Lib.hid (regs_next HRF.out hb)
                have HLR2 := Lib.hid (show R.rs.length ≤ 9223372036854775807 by have := (mem_good H.out.held.mem).len; omega)
                have hH := H.out.next hb
                clear hr hb H
                have H := Lib.hid hH
                clear hH
                go_wp2_with fail
                refine (Same_true HLR2.out HRF2.out HRG2.out).mono ?_
                rintro e wH ⟨rfl, hb⟩
                have HEND := Lib.hid (H.out.held.below.trans (hb.mono H.out.held.below.size))
                clear hb
                go_wp2
                go_ret
                exact ⟨rfl, HEND.out⟩
            · rw [hq] at hin
              refine hin.mono ?_
              rintro e wQ ⟨rfl, rfl⟩
              clear hq hin
              go_wp2_with fail
              go_ret
              exact ⟨rfl, H.out.held.below⟩
          · have b1 : Go.bits .and .i64 2 1 = 0 := by decide
            have b2 : Go.bits .and .i64 2 2 = 2 := by decide
            have b4 : Go.bits .and .i64 2 4 = 0 := by decide
            (have y1 := F17.out rfl; have y2 := G17.out; have y3 := F19.out rfl; have y4 := G19.out)
            clear F17 F18 F19 G17 G18 G19 HFW
            go_wp2_with fail
            refine (HP2.out _).mono ?_
            rintro e wP ⟨rfl, rfl⟩
            go_wp2_with fail
            have hin := in_any (readsI i) (.slice Ar nr cr) rho wr _ (HRD.out.keep (H.out.same_.mono fun _ h => .inr h)) (fun j hj => (H.out.fix j (.inr hj)).2.1) HLR.out
            cases hq : inF (readsI i) rho
            · rw [hq] at hin
              refine hin.mono ?_
              rintro e wQ ⟨rfl, rfl⟩
              have hnr : (readsL (formR i.op) i).getD rho false = false := by
                have h : inF (readsI i) rho = (readsL (formR i.op) i).getD rho false := by unfold readsI; rw [if_pos HK.out]; exact inF_rising HR16.out
                exact h.symm.trans hq
              have HNR := Lib.hid hnr
              clear hq hin hnr
              go_upto_region 25 with (first | ((with_reducible refine wl_id ?_); refine H.out.load_row 1 rfl rfl _ rfl rfl ?_) | ((with_reducible refine wl_id ?_); refine H.out.store_fresh (s := s) HS.out rfl _ _ rfl _ rfl rfl rfl ?_; intro Wt hW; clear H; have H := Lib.hid hW; clear hW))
              have l1 := HSQ.out.1.len
              obtain ⟨q0, hq0⟩ : ∃ q0, s.regs[rho]? = some q0 := ⟨_, List.getElem?_eq_getElem (by have := HR16.out; omega)⟩
              have c0 := H.out.held.cell 0 rho rfl (stRow_get hq0)
              have f0 := H.out.held.frozen 0 rho rfl
              have i0 : (0 : Int) ≤ (rho : Int) := by omega
              have i1 : (rho : Int) < 16 := by have := HR16.out; omega
              clear hq0 l1
              go_upto_region 26 with fail
              refine wp_name ?_
              intro W1 hW1
              have okT : StOk (sv s (s.regs.set rho x)) := ⟨by simp [sv, HSQ.out.1.len], set_lt16 HSQ.out.1.regs rho HX.out, HSQ.out.1.pc⟩
              have hH := (H.out.setCell (i := 0) rfl rho (.int .u64 x) (s' := sv s (s.regs.set rho x)) (stRow_reg s rho (by rw [HSQ.out.1.len]; exact HR16.out) x) okT).cast hW1
              have hge : ∀ k, seg w3.heap.size w4.heap.size k → w.heap.size ≤ k := fun k hk => by have h1 := HSZ.out; have h2 := HZW.out; have h3 := hk.1; omega
              have hsw := hH.swap HM2.out (fun k hk => .inl (.inr hk)) hge
              have hki := (hH.fix _ (.inl (.inl rfl))).1.trans KI.out
              have hwr := HWR.out.keep (hH.same_.mono fun _ h => .inr h)
              have HM1 := Lib.hid hH.held.mem
              clear H KI HM2 HWR HRD c0 f0 i0 i1 hW1 hge
              have H := Lib.hid hsw
              have KI := Lib.hid hki
              have HWR := Lib.hid hwr
              have HOT := Lib.hid okT
              clear hH hsw hki hwr okT
              obtain ⟨R2, hR2⟩ : ∃ R2, R2 = stepF (sv s (s.regs.set rho x)) i 3 rs := ⟨_, rfl⟩
              have hdo := HDO.out rho x HNR.out
              rw [← hR2] at hdo
              have HO2 := Lib.hid (show StOk R2.st from by rw [hR2]; exact step_ok HOT.out i 3 rs)
              have HR2 := Lib.hid hR2
              have HST := Lib.hid (show R2.st = if (writesL (formR i.op) i).getD rho false then R.st else sv R.st (R.st.regs.set rho x) by rw [hdo])
              have q1 : R2.code = 0 := by rw [hdo]
              have q2 : R2.evs = R.evs := by rw [hdo]
              have q3 : R2.rs = R.rs := by rw [hdo]
              have HQ3 := Lib.hid (And.intro q1 (And.intro q2 q3))
              have HNS := Lib.hid (show ¬ seg w3.heap.size w4.heap.size (w.heap.size + 1) from fun hk => by have h1 := HSZ.out; have h2 := HZW.out; have h3 := hk.1; omega)
              have HLE := Lib.hid (show R.evs.length ≤ 9223372036854775807 by have := step_evs s i 3 rs; rw [← HR.out] at this; omega)
              clear hR2 hdo q1 q2 q3 HNR HDO HSZ HZW
              go_wp2_with (first | ((with_reducible refine wl_id ?_); refine H.out.load_row 0 rfl rfl _ rfl rfl ?_) | ((with_reducible refine wl_id ?_); refine H.out.load_ins (.inl ⟨.inl (.inl rfl), HNS.out⟩) KI.out rfl _ rfl rfl ?_))
              refine (H.out.Do 0 rfl i HI.out 3 HR2.out).mono ?_
              rintro e w7 ⟨A7, n7, rfl, hH⟩
              rw [HQ3.out.2.1, HQ3.out.2.2] at hH
              rw [HQ3.out.1, HQ3.out.2.1]
              clear H KI
              have H := Lib.hid hH
              clear hH
              go_upto_region 27 with ((with_reducible refine wl_id ?_); refine H.out.store_fresh (s := R2.st) HO2.out rfl _ _ rfl _ rfl rfl rfl ?_; intro Wu hW; clear H; have H := Lib.hid hW; clear hW)
              go_wp2_with fail
              have hGW : ∀ k, (W6.heap.size ≤ k ∧ k < wB.heap.size) → ((((k = w.heap.size + 1 ∨ seg w3.heap.size w4.heap.size k) ∨ (W6.heap.size ≤ k ∧ k < wB.heap.size)) ∧ ¬ seg w3.heap.size w4.heap.size k) ∨ seg w2.heap.size w3.heap.size k) := fun k hk => .inl ⟨.inr hk, fun h => by have h1 := HSE.out k h; have h2 := hk.1; omega⟩
              have hin := in_any (writesI i) (.slice Aw nw cw) rho Wu _ (HWR.out.keep (H.out.same_.mono hGW)) (fun j hj => (H.out.fix j (hGW j hj)).2.1) HLW.out
              cases hq : inF (writesI i) rho
              · rw [hq] at hin
                refine hin.mono ?_
                rintro e wQ ⟨rfl, rfl⟩
                have hnw : (writesL (formR i.op) i).getD rho false = false := by
                  have h : inF (writesI i) rho = (writesL (formR i.op) i).getD rho false := by unfold writesI; rw [if_pos HK.out]; exact inF_rising HR16.out
                  exact h.symm.trans hq
                have hst : R2.st = sv R.st (R.st.regs.set rho x) := by rw [HST.out, hnw]; rfl
                have HSV := Lib.hid hst
                clear hq hin hGW hnw hst HST
                have l1 := HSQ.out.2.len
                obtain ⟨q0, hq0⟩ : ∃ q0, R.st.regs[rho]? = some q0 := ⟨_, List.getElem?_eq_getElem (by have := HR16.out; omega)⟩
                have c0 := H.out.held.cell 2 rho rfl (stRow_get hq0)
                have f0 := H.out.held.frozen 2 rho rfl
                have i0 : (0 : Int) ≤ (rho : Int) := by omega
                have i1 : (rho : Int) < 16 := by have := HR16.out; omega
                clear hq0 l1
                go_upto_region 29 with fail
                refine wp_name ?_
                intro W2 hW2
                have hH := (H.out.setCell (i := 2) rfl rho (.int .u64 x) (s' := sv R.st (R.st.regs.set rho x)) (stRow_reg R.st rho (by rw [HSQ.out.2.len]; exact HR16.out) x) (HSV.out ▸ HO2.out)).cast hW2
                rw [← HSV.out] at hH
                clear c0 f0 i0 i1 hW2
                clear H
                have H := Lib.hid hH
                clear hH
                go_wp2_with (first | ((with_reducible refine wl_id ?_); refine H.out.load_row_w 0 rfl _ rfl rfl rfl ?_) | ((with_reducible refine wl_id ?_); refine H.out.load_row_w 2 rfl _ rfl rfl rfl ?_) | ((with_reducible refine wl_id ?_); refine wl_eq_st _ _ rfl HO2.out HO2.out rfl rfl rfl ((eqSt_iff _ _).2 rfl) ?_))
                refine (SameEv_any _ _ _ _ R.evs R.evs HLE.out (H.out.held.evs 1 rfl) (H.out.held.evs 0 rfl) (fun _ hk => hk)).mono ?_
                rintro e w9 ⟨rfl, hb⟩
                rw [sameE_self]
                have hH := H.out.next hb
                clear H hb
                have H := Lib.hid hH
                clear hH
                go_wp2_with fail
                refine (Regions_at (HM1.out.keep (H.out.same_.mono fun k hk => .inr hk)) (fun k hk => (H.out.fix k (.inr hk)).2.1)).mono ?_
                rintro e wF ⟨AF, nF, rfl, hr, hb⟩
                have hH := H.out.next hb
                have HRF := Lib.hid hr
                clear hr hb H
                have H := Lib.hid hH
                clear hH
                go_wp2_with fail
                refine (Regions_at H.out.held.mem H.out.held.lt).mono ?_
                rintro e wG ⟨AG, nG, rfl, hr, hb⟩
                have HRG2 := Lib.hid hr
                have HRF2 := Lib.hid (regs_next HRF.out hb)
                have HLR2 := Lib.hid (show R.rs.length ≤ 9223372036854775807 by have := (mem_good H.out.held.mem).len; omega)
                have hH := H.out.next hb
                clear hr hb H
                have H := Lib.hid hH
                clear hH
                go_wp2_with fail
                refine (Same_true HLR2.out HRF2.out HRG2.out).mono ?_
                rintro e wH ⟨rfl, hb⟩
                have HEND := Lib.hid (H.out.held.below.trans (hb.mono H.out.held.below.size))
                clear hb
                go_wp2
                go_ret
                exact ⟨rfl, HEND.out⟩
              · rw [hq] at hin
                refine hin.mono ?_
                rintro e wQ ⟨rfl, rfl⟩
                have hnw : (writesL (formR i.op) i).getD rho false = true := by
                  have h : inF (writesI i) rho = (writesL (formR i.op) i).getD rho false := by unfold writesI; rw [if_pos HK.out]; exact inF_rising HR16.out
                  exact h.symm.trans hq
                have hst : R2.st = R.st := by rw [HST.out, hnw]; rfl
                have hH := H.out
                rw [← hst] at hH
                clear hq hin hGW hnw hst HST
                go_upto_region 29 with fail
                clear H
                have H := Lib.hid hH
                clear hH
                go_wp2_with (first | ((with_reducible refine wl_id ?_); refine H.out.load_row_w 0 rfl _ rfl rfl rfl ?_) | ((with_reducible refine wl_id ?_); refine H.out.load_row_w 2 rfl _ rfl rfl rfl ?_) | ((with_reducible refine wl_id ?_); refine wl_eq_st _ _ rfl HO2.out HO2.out rfl rfl rfl ((eqSt_iff _ _).2 rfl) ?_))
                refine (SameEv_any _ _ _ _ R.evs R.evs HLE.out (H.out.held.evs 1 rfl) (H.out.held.evs 0 rfl) (fun _ hk => hk)).mono ?_
                rintro e w9 ⟨rfl, hb⟩
                rw [sameE_self]
                have hH := H.out.next hb
                clear H hb
                have H := Lib.hid hH
                clear hH
                go_wp2_with fail
                refine (Regions_at (HM1.out.keep (H.out.same_.mono fun k hk => .inr hk)) (fun k hk => (H.out.fix k (.inr hk)).2.1)).mono ?_
                rintro e wF ⟨AF, nF, rfl, hr, hb⟩
                have hH := H.out.next hb
                have HRF := Lib.hid hr
                clear hr hb H
                have H := Lib.hid hH
                clear hH
                go_wp2_with fail
                refine (Regions_at H.out.held.mem H.out.held.lt).mono ?_
                rintro e wG ⟨AG, nG, rfl, hr, hb⟩
                have HRG2 := Lib.hid hr
                have HRF2 := Lib.hid (regs_next HRF.out hb)
                have HLR2 := Lib.hid (show R.rs.length ≤ 9223372036854775807 by have := (mem_good H.out.held.mem).len; omega)
                have hH := H.out.next hb
                clear hr hb H
                have H := Lib.hid hH
                clear hH
                go_wp2_with fail
                refine (Same_true HLR2.out HRF2.out HRG2.out).mono ?_
                rintro e wH ⟨rfl, hb⟩
                have HEND := Lib.hid (H.out.held.below.trans (hb.mono H.out.held.below.size))
                clear hb
                go_wp2
                go_ret
                exact ⟨rfl, HEND.out⟩
            · rw [hq] at hin
              refine hin.mono ?_
              rintro e wQ ⟨rfl, rfl⟩
              clear hq hin
              go_wp2_with fail
              go_ret
              exact ⟨rfl, H.out.held.below⟩
          · have b1 : Go.bits .and .i64 0 1 = 0 := by decide
            have b2 : Go.bits .and .i64 0 2 = 0 := by decide
            have b4 : Go.bits .and .i64 0 4 = 0 := by decide
            (have y1 := F17.out rfl; have y2 := G17.out; have y3 := F19.out rfl; have y4 := G19.out; have y5 := F18.out rfl; have y6 := G18.out)
            clear F17 F18 F19 G17 G18 G19 HFW
            go_wp2_with fail
            refine (HP2.out _).mono ?_
            rintro e wP ⟨rfl, rfl⟩
            go_wp2_with fail
            have hin := in_any (readsI i) (.slice Ar nr cr) rho wr _ (HRD.out.keep (H.out.same_.mono fun _ h => .inr h)) (fun j hj => (H.out.fix j (.inr hj)).2.1) HLR.out
            cases hq : inF (readsI i) rho
            · rw [hq] at hin
              refine hin.mono ?_
              rintro e wQ ⟨rfl, rfl⟩
              have hnr : (readsL (formR i.op) i).getD rho false = false := by
                have h : inF (readsI i) rho = (readsL (formR i.op) i).getD rho false := by unfold readsI; rw [if_pos HK.out]; exact inF_rising HR16.out
                exact h.symm.trans hq
              have HNR := Lib.hid hnr
              clear hq hin hnr
              go_upto_region 25 with (first | ((with_reducible refine wl_id ?_); refine H.out.load_row 1 rfl rfl _ rfl rfl ?_) | ((with_reducible refine wl_id ?_); refine H.out.store_fresh (s := s) HS.out rfl _ _ rfl _ rfl rfl rfl ?_; intro Wt hW; clear H; have H := Lib.hid hW; clear hW))
              have l1 := HSQ.out.1.len
              obtain ⟨q0, hq0⟩ : ∃ q0, s.regs[rho]? = some q0 := ⟨_, List.getElem?_eq_getElem (by have := HR16.out; omega)⟩
              have c0 := H.out.held.cell 0 rho rfl (stRow_get hq0)
              have f0 := H.out.held.frozen 0 rho rfl
              have i0 : (0 : Int) ≤ (rho : Int) := by omega
              have i1 : (rho : Int) < 16 := by have := HR16.out; omega
              clear hq0 l1
              go_upto_region 26 with fail
              refine wp_name ?_
              intro W1 hW1
              have okT : StOk (sv s (s.regs.set rho x)) := ⟨by simp [sv, HSQ.out.1.len], set_lt16 HSQ.out.1.regs rho HX.out, HSQ.out.1.pc⟩
              have hH := (H.out.setCell (i := 0) rfl rho (.int .u64 x) (s' := sv s (s.regs.set rho x)) (stRow_reg s rho (by rw [HSQ.out.1.len]; exact HR16.out) x) okT).cast hW1
              have hge : ∀ k, seg w3.heap.size w4.heap.size k → w.heap.size ≤ k := fun k hk => by have h1 := HSZ.out; have h2 := HZW.out; have h3 := hk.1; omega
              have hsw := hH.swap HM2.out (fun k hk => .inl (.inr hk)) hge
              have hki := (hH.fix _ (.inl (.inl rfl))).1.trans KI.out
              have hwr := HWR.out.keep (hH.same_.mono fun _ h => .inr h)
              have HM1 := Lib.hid hH.held.mem
              clear H KI HM2 HWR HRD c0 f0 i0 i1 hW1 hge
              have H := Lib.hid hsw
              have KI := Lib.hid hki
              have HWR := Lib.hid hwr
              have HOT := Lib.hid okT
              clear hH hsw hki hwr okT
              obtain ⟨R2, hR2⟩ : ∃ R2, R2 = stepF (sv s (s.regs.set rho x)) i 3 rs := ⟨_, rfl⟩
              have hdo := HDO.out rho x HNR.out
              rw [← hR2] at hdo
              have HO2 := Lib.hid (show StOk R2.st from by rw [hR2]; exact step_ok HOT.out i 3 rs)
              have HR2 := Lib.hid hR2
              have HST := Lib.hid (show R2.st = if (writesL (formR i.op) i).getD rho false then R.st else sv R.st (R.st.regs.set rho x) by rw [hdo])
              have q1 : R2.code = 0 := by rw [hdo]
              have q2 : R2.evs = R.evs := by rw [hdo]
              have q3 : R2.rs = R.rs := by rw [hdo]
              have HQ3 := Lib.hid (And.intro q1 (And.intro q2 q3))
              have HNS := Lib.hid (show ¬ seg w3.heap.size w4.heap.size (w.heap.size + 1) from fun hk => by have h1 := HSZ.out; have h2 := HZW.out; have h3 := hk.1; omega)
              have HLE := Lib.hid (show R.evs.length ≤ 9223372036854775807 by have := step_evs s i 3 rs; rw [← HR.out] at this; omega)
              clear hR2 hdo q1 q2 q3 HNR HDO HSZ HZW
              go_wp2_with (first | ((with_reducible refine wl_id ?_); refine H.out.load_row 0 rfl rfl _ rfl rfl ?_) | ((with_reducible refine wl_id ?_); refine H.out.load_ins (.inl ⟨.inl (.inl rfl), HNS.out⟩) KI.out rfl _ rfl rfl ?_))
              refine (H.out.Do 0 rfl i HI.out 3 HR2.out).mono ?_
              rintro e w7 ⟨A7, n7, rfl, hH⟩
              rw [HQ3.out.2.1, HQ3.out.2.2] at hH
              rw [HQ3.out.1, HQ3.out.2.1]
              clear H KI
              have H := Lib.hid hH
              clear hH
              go_upto_region 27 with ((with_reducible refine wl_id ?_); refine H.out.store_fresh (s := R2.st) HO2.out rfl _ _ rfl _ rfl rfl rfl ?_; intro Wu hW; clear H; have H := Lib.hid hW; clear hW)
              go_wp2_with fail
              have hGW : ∀ k, (W6.heap.size ≤ k ∧ k < wB.heap.size) → ((((k = w.heap.size + 1 ∨ seg w3.heap.size w4.heap.size k) ∨ (W6.heap.size ≤ k ∧ k < wB.heap.size)) ∧ ¬ seg w3.heap.size w4.heap.size k) ∨ seg w2.heap.size w3.heap.size k) := fun k hk => .inl ⟨.inr hk, fun h => by have h1 := HSE.out k h; have h2 := hk.1; omega⟩
              have hin := in_any (writesI i) (.slice Aw nw cw) rho Wu _ (HWR.out.keep (H.out.same_.mono hGW)) (fun j hj => (H.out.fix j (hGW j hj)).2.1) HLW.out
              cases hq : inF (writesI i) rho
              · rw [hq] at hin
                refine hin.mono ?_
                rintro e wQ ⟨rfl, rfl⟩
                have hnw : (writesL (formR i.op) i).getD rho false = false := by
                  have h : inF (writesI i) rho = (writesL (formR i.op) i).getD rho false := by unfold writesI; rw [if_pos HK.out]; exact inF_rising HR16.out
                  exact h.symm.trans hq
                have hst : R2.st = sv R.st (R.st.regs.set rho x) := by rw [HST.out, hnw]; rfl
                have HSV := Lib.hid hst
                clear hq hin hGW hnw hst HST
                have l1 := HSQ.out.2.len
                obtain ⟨q0, hq0⟩ : ∃ q0, R.st.regs[rho]? = some q0 := ⟨_, List.getElem?_eq_getElem (by have := HR16.out; omega)⟩
                have c0 := H.out.held.cell 2 rho rfl (stRow_get hq0)
                have f0 := H.out.held.frozen 2 rho rfl
                have i0 : (0 : Int) ≤ (rho : Int) := by omega
                have i1 : (rho : Int) < 16 := by have := HR16.out; omega
                clear hq0 l1
                go_upto_region 29 with fail
                refine wp_name ?_
                intro W2 hW2
                have hH := (H.out.setCell (i := 2) rfl rho (.int .u64 x) (s' := sv R.st (R.st.regs.set rho x)) (stRow_reg R.st rho (by rw [HSQ.out.2.len]; exact HR16.out) x) (HSV.out ▸ HO2.out)).cast hW2
                rw [← HSV.out] at hH
                clear c0 f0 i0 i1 hW2
                clear H
                have H := Lib.hid hH
                clear hH
                go_wp2_with (first | ((with_reducible refine wl_id ?_); refine H.out.load_row_w 0 rfl _ rfl rfl rfl ?_) | ((with_reducible refine wl_id ?_); refine H.out.load_row_w 2 rfl _ rfl rfl rfl ?_) | ((with_reducible refine wl_id ?_); refine wl_eq_st _ _ rfl HO2.out HO2.out rfl rfl rfl ((eqSt_iff _ _).2 rfl) ?_))
                refine (SameEv_any _ _ _ _ R.evs R.evs HLE.out (H.out.held.evs 1 rfl) (H.out.held.evs 0 rfl) (fun _ hk => hk)).mono ?_
                rintro e w9 ⟨rfl, hb⟩
                rw [sameE_self]
                have hH := H.out.next hb
                clear H hb
                have H := Lib.hid hH
                clear hH
                go_wp2_with fail
                refine (Regions_at (HM1.out.keep (H.out.same_.mono fun k hk => .inr hk)) (fun k hk => (H.out.fix k (.inr hk)).2.1)).mono ?_
                rintro e wF ⟨AF, nF, rfl, hr, hb⟩
                have hH := H.out.next hb
                have HRF := Lib.hid hr
                clear hr hb H
                have H := Lib.hid hH
                clear hH
                go_wp2_with fail
                refine (Regions_at H.out.held.mem H.out.held.lt).mono ?_
                rintro e wG ⟨AG, nG, rfl, hr, hb⟩
                have HRG2 := Lib.hid hr
                have HRF2 := Lib.hid (regs_next HRF.out hb)
                have HLR2 := Lib.hid (show R.rs.length ≤ 9223372036854775807 by have := (mem_good H.out.held.mem).len; omega)
                have hH := H.out.next hb
                clear hr hb H
                have H := Lib.hid hH
                clear hH
                go_wp2_with fail
                refine (Same_true HLR2.out HRF2.out HRG2.out).mono ?_
                rintro e wH ⟨rfl, hb⟩
                have HEND := Lib.hid (H.out.held.below.trans (hb.mono H.out.held.below.size))
                clear hb
                go_wp2
                go_ret
                exact ⟨rfl, HEND.out⟩
              · rw [hq] at hin
                refine hin.mono ?_
                rintro e wQ ⟨rfl, rfl⟩
                have hnw : (writesL (formR i.op) i).getD rho false = true := by
                  have h : inF (writesI i) rho = (writesL (formR i.op) i).getD rho false := by unfold writesI; rw [if_pos HK.out]; exact inF_rising HR16.out
                  exact h.symm.trans hq
                have hst : R2.st = R.st := by rw [HST.out, hnw]; rfl
                have hH := H.out
                rw [← hst] at hH
                clear hq hin hGW hnw hst HST
                go_upto_region 29 with fail
                clear H
                have H := Lib.hid hH
                clear hH
                go_wp2_with (first | ((with_reducible refine wl_id ?_); refine H.out.load_row_w 0 rfl _ rfl rfl rfl ?_) | ((with_reducible refine wl_id ?_); refine H.out.load_row_w 2 rfl _ rfl rfl rfl ?_) | ((with_reducible refine wl_id ?_); refine wl_eq_st _ _ rfl HO2.out HO2.out rfl rfl rfl ((eqSt_iff _ _).2 rfl) ?_))
                refine (SameEv_any _ _ _ _ R.evs R.evs HLE.out (H.out.held.evs 1 rfl) (H.out.held.evs 0 rfl) (fun _ hk => hk)).mono ?_
                rintro e w9 ⟨rfl, hb⟩
                rw [sameE_self]
                have hH := H.out.next hb
                clear H hb
                have H := Lib.hid hH
                clear hH
                go_wp2_with fail
                refine (Regions_at (HM1.out.keep (H.out.same_.mono fun k hk => .inr hk)) (fun k hk => (H.out.fix k (.inr hk)).2.1)).mono ?_
                rintro e wF ⟨AF, nF, rfl, hr, hb⟩
                have hH := H.out.next hb
                have HRF := Lib.hid hr
                clear hr hb H
                have H := Lib.hid hH
                clear hH
                go_wp2_with fail
                refine (Regions_at H.out.held.mem H.out.held.lt).mono ?_
                rintro e wG ⟨AG, nG, rfl, hr, hb⟩
                have HRG2 := Lib.hid hr
                have HRF2 := Lib.hid (regs_next HRF.out hb)
                have HLR2 := Lib.hid (show R.rs.length ≤ 9223372036854775807 by have := (mem_good H.out.held.mem).len; omega)
                have hH := H.out.next hb
                clear hr hb H
                have H := Lib.hid hH
                clear hH
                go_wp2_with fail
                refine (Same_true HLR2.out HRF2.out HRG2.out).mono ?_
                rintro e wH ⟨rfl, hb⟩
                have HEND := Lib.hid (H.out.held.below.trans (hb.mono H.out.held.below.size))
                clear hb
                go_wp2
                go_ret
                exact ⟨rfl, HEND.out⟩
            · rw [hq] at hin
              refine hin.mono ?_
              rintro e wQ ⟨rfl, rfl⟩
              clear hq hin
              go_wp2_with fail
              go_ret
              exact ⟨rfl, H.out.held.below⟩
    · have e1 : (R.code != 0) = true := by simpa using hcR
      have hbad := step_bad (show (stepF s i 3 rs).code ≠ 0 by rw [← HR.out]; exact hcR)
      rw [← HR.out] at hbad
      obtain ⟨q1, q2, q3⟩ := hbad
      rw [q1, q2, q3] at H
      rw [q1, q2]
      clear q1 q2 q3 HOR
      clear HR
      go_wp2_with (first | ((with_reducible refine wl_id ?_); refine H.out.load_row 0 rfl rfl _ rfl rfl ?_) | ((with_reducible refine wl_id ?_); refine H.out.load_row 1 rfl rfl _ rfl rfl ?_) | ((with_reducible refine wl_id ?_); refine wl_eq_st _ _ rfl HS.out HS.out rfl rfl rfl ((eqSt_iff s s).2 rfl) ?_))
      refine (Regions_at H.out.held.mem H.out.held.lt).mono ?_
      rintro e w7 ⟨A7, n7, rfl, hr, hb⟩
      have hH := H.out.next hb
      have H7 := Lib.hid hH
      have HR7 := Lib.hid hr
      clear hr hb hH
      go_wp2_with fail
      refine (Regions_at (HM2.out.keep (H7.out.same_.mono fun k hk => .inr hk)) (fun k hk => (H7.out.fix k (.inr hk)).2.1)).mono ?_
      rintro e w8 ⟨A8, n8, rfl, hr, hb⟩
      have HR8 := Lib.hid hr
      have HRR8 := Lib.hid (regs_next HR7.out hb)
      have HE8 := Lib.hid (H7.out.held.below.trans (hb.mono H7.out.held.below.size))
      have HG8 := Lib.hid (show rs.length ≤ 9223372036854775807 by have := (mem_good H7.out.held.mem).len; omega)
      clear hr hb
      go_wp2_with fail
      refine (Same_true HG8.out HRR8.out HR8.out).mono ?_
      rintro e w9 ⟨rfl, hb⟩
      have HE9 := Lib.hid (HE8.out.trans (hb.mono HE8.out.size))
      clear hb
      go_wp2
      go_ret
      exact ⟨rfl, HE9.out⟩
  · have e1 : (ce != 0) = true := by simpa using hc0
    clear hc0
    go_wp2
    go_ret
    exact ⟨rfl, HBW.out.trans (HBA.out.mono HBW.out.size)⟩
end Go.Proofs.YtmanhikpccnfaaaGreat
