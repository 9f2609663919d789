/- keysmithlaw08: lives. -/
import Derived.Test.YtmanhikpccnfaaaGreatHeld
import Derived.Test.YtmanhikpccnfaaaGreatPlainSums
import Derived.Test.YtmanhikpccnfaaaGreatEvs
import Derived.Test.YtmanhikpccnfaaaGreatStepAt
import Derived.DeepKeys
import Derived.Test.YtmanhikpccnfaaaGreatPlainStaysC
import Derived.Test.YtmanhikpccnfaaaGreatKit
import Derived.Test.YtmanhikpccnfaaaGreatWordsA
import Derived.Outline
import Derived.Test.YtmanhikpccnfaaaGreatRef05f
import Derived.Test.YtmanhikpccnfaaaGreatClone
import Derived.Test.YtmanhikpccnfaaaGreatOwn
import Derived.Deep.LoopGhost
import Derived.Test.YtmanhikpccnfaaaGreatStore
import Derived.Test.YtmanhikpccnfaaaGreatRef05e
namespace Go.Proofs.YtmanhikpccnfaaaGreat
open Go.RowKit

theorem New_none (w0 w : World) (hb : Below w0.heap.size w0 w) : Calls Tryz.prog 10 #[.slice none 0 0] w fun e w' => ∃ bm, e = .returned (.tuple #[.pointer (some ⟨bm, 0, none⟩), .int .i64 0]) ∧ Held w0 w' (seg w.heap.size w'.heap.size) (.pointer (some ⟨bm, 0, none⟩)) [] [] [] := by
  refine (New_any _ w (fun k => k < w.heap.size) [] (by simp) ⟨[], rfl, ⟨none, 0, rfl, by simp, by simp, fun h => absurd rfl h⟩, by simp⟩ (fun _ h => h)).mono ?_
  rintro e w' ⟨hb', ⟨h0, _⟩ | ⟨_, p, rfl, hm⟩⟩
  · exact absurd rfl h0
  · obtain ⟨bm, rfl⟩ : ∃ bm, p = .pointer (some ⟨bm, 0, none⟩) := by obtain ⟨bm, v, h, _⟩ := hm; exact ⟨bm, h⟩
    exact ⟨bm, rfl, hb.trans (hb'.mono hb.size), hm, fun k hk => hk.2, fun k hk => Nat.le_trans hb.size hk.1, by simp, by simp, by simp⟩

def stL0 : St := ⟨[0, 0, 0, 0, 0, 0, 0, 0, 0, 0, 0, 0, 0, 0, 0, 0], 0, true, false, false⟩
def stL1 : St := ⟨[18446744073709551615, 0, 0, 0, 0, 0, 0, 0, 0, 0, 0, 0, 0, 0, 0, 0], 0, true, false, false⟩
def stL2 : St := ⟨[0, 0, 0, 0, 0, 0, 0, 0, 0, 0, 0, 0, 0, 0, 0, 0], 3, true, false, true⟩
def insL : Ins := ⟨7, 0, 1, 0, 0, 0, 0, 0, 0⟩
theorem okL0 : StOk stL0 := ⟨rfl, by decide, by decide⟩
theorem okL1 : StOk stL1 := ⟨rfl, by decide, by decide⟩
theorem stepL : stepF stL1 insL 3 [] = ⟨0, stL2, [⟨1, 0⟩], []⟩ := by
  have h := stepF_over (s := stL1) (i := insL) (size := 3) (rs := []) (by decide +kernel) (by decide) (by decide) rfl
  rw [h]
  rfl
theorem insOk_lit {i : Ins} (h : (decide (-9223372036854775808 ≤ i.disp) && decide (i.disp ≤ 9223372036854775807) && (decide (-9223372036854775808 ≤ i.imm) && decide (i.imm ≤ 9223372036854775807))) = true) : InsOk i := by
  simp only [Bool.and_eq_true, decide_eq_true_eq] at h
  exact ⟨h.1, h.2⟩

set_option maxRecDepth 100000 in
set_option maxHeartbeats 1600000 in
theorem lives_any (w : World) : Calls Tryz.prog 6 #[] w fun e w' => e = .returned (.bool true) ∧ Below w.heap.size w w' := by
  have HN := Lib.hid (New_none w w (Below.refl _ _))
  go_enter Tryz.func6, Tryz.ntmps6
  go_wp2_with fail
  refine HN.out.mono ?_
  rintro e w1 ⟨bm, rfl, hH⟩
  have H := Lib.hid hH
  clear hH HN
  go_upto_region 3 with (refine H.out.store_fresh (s := stL0) okL0 rfl _ _ rfl _ rfl rfl rfl ?_; intro W hW; clear H; have H := Lib.hid hW; clear hW)
  have c0 : W.cell? ⟨w1.heap.size, 0, none⟩ = some (.int .u64 0) := H.out.cell 0 0 rfl rfl
  have f0 := H.out.frozen 0 0 rfl
  go_upto_region 4 with fail
  refine wp_name ?_
  intro W1 hW1
  have hH := (H.out.setCell (i := 0) rfl 0 (.int .u64 18446744073709551615) (s' := stL1) rfl okL1).cast hW1
  clear hW1 c0 f0 H
  have H := Lib.hid hH
  clear hH
  go_wp2_with (refine H.out.load_row 0 rfl rfl _ rfl rfl ?_)
  refine (H.out.Do 0 rfl insL (insOk_lit rfl) 3 stepL).mono ?_
  rintro e w3 ⟨A, c, rfl, hH⟩
  clear H
  have H := Lib.hid hH
  clear hH
  go_upto_region 5 with (refine H.out.store_fresh (s := stL2) ⟨rfl, by decide, by decide⟩ rfl _ _ rfl _ rfl rfl rfl ?_; intro W hW; clear H; have H := Lib.hid hW; clear hW)
  have d0 : W.cell? ⟨w3.heap.size, 0, none⟩ = some (.int .u64 0) := H.out.cell 0 0 rfl rfl
  have d1 : W.cell? ⟨w3.heap.size, 16, none⟩ = some (.int .u64 3) := H.out.cell 0 16 rfl rfl
  have d2 : W.cell? ⟨w3.heap.size, 17, none⟩ = some (.bool true) := H.out.cell 0 17 rfl rfl
  have d3 : W.cell? ⟨w3.heap.size, 18, none⟩ = some (.bool false) := H.out.cell 0 18 rfl rfl
  have d4 : W.cell? ⟨w3.heap.size, 19, none⟩ = some (.bool true) := H.out.cell 0 19 rfl rfl
  go_wp2_with fail
  refine (H.out.same_lit 0 rfl [⟨1, 0⟩] 1 rfl (by decide) _ rfl).mono ?_
  rintro e w4 ⟨rfl, hH⟩
  clear H
  have H := Lib.hid hH
  clear hH
  rw [sameE_self]
  go_wp2
  go_ret
  exact ⟨rfl, H.out.below⟩
end Go.Proofs.YtmanhikpccnfaaaGreat

/- '==' between states, and between registers. -/
namespace Go.Proofs.YtmanhikpccnfaaaGreat
open Go.RowKit

def regLits (l : List Nat) : List Lit := l.map fun r => Lit.int .u64 (r : Nat)
def stLits (s : St) : List Lit := regLits s.regs ++ [.int .u64 s.pc, .bool s.cf, .bool s.of_, .bool s.zf]
theorem regLits_inj {a b : List Nat} (h : regLits a = regLits b) : a = b := by
  unfold regLits at h
  exact (List.map_inj_right (fun x y h => by injection h with _ h; omega)).1 h
theorem stLits_inj {s t : St} (hl : s.regs.length = t.regs.length) (h : stLits s = stLits t) : s = t := by
  unfold stLits at h
  obtain ⟨h1, h2⟩ := List.append_inj h (by simpa [regLits] using hl)
  have h1 := regLits_inj h1
  rcases s with ⟨_, _, _, _, _⟩
  rcases t with ⟨_, _, _, _, _⟩
  simp at h1 h2
  simp only [St.mk.injEq]
  exact ⟨h1, by omega, h2.2.1, h2.2.2.1, h2.2.2.2⟩
theorem bool_of_iff {r q : Bool} {p : Prop} (h1 : r = true ↔ p) (h2 : q = true ↔ p) : r = q := by
  cases r <;> cases q <;> simp_all

theorem key_u64 (d r : Nat) (h : r < 18446744073709551616) : Tryz.prog.keyLits (d + 1) 22 [Value.int .u64 (r : Nat)] = some [Lit.int .u64 (r : Nat)] := by
  unfold Program.keyLits
  rw [Tryz.underlying22]
  have hw : (Lit.int IntKind.u64 (r : Nat)).wf = true := by simp [Lit.wf, IntKind.min, IntKind.max, IntKind.bits, IntKind.signed]; omega
  simp [hw]
theorem key_bool (d : Nat) (b : Bool) : Tryz.prog.keyLits (d + 1) 4 [Value.bool b] = some [Lit.bool b] := by
  unfold Program.keyLits
  rw [Tryz.underlying4]
theorem cells_u64 : Tryz.prog.cellsOf 22 = 1 := by kernel_rfl
theorem cells_bool : Tryz.prog.cellsOf 4 = 1 := by kernel_rfl
theorem cells_16 : Tryz.prog.cellsOf 23 = 16 := by kernel_rfl
theorem key_regs (d : Nat) (l : List Nat) (hl : l.length = 16) (hb : ∀ r ∈ l, r < 18446744073709551616) : Tryz.prog.keyLits (d + 2) 23 (l.map fun r => Value.int .u64 (r : Nat)) = some (regLits l) := by
  obtain ⟨a0, a1, a2, a3, a4, a5, a6, a7, a8, a9, a10, a11, a12, a13, a14, a15, rfl⟩ := sixteen l hl
  simp only [List.forall_mem_cons] at hb
  obtain ⟨b0, b1, b2, b3, b4, b5, b6, b7, b8, b9, b10, b11, b12, b13, b14, b15, _⟩ := hb
  unfold Program.keyLits
  rw [Tryz.underlying23]
  simp only [cells_16, cells_u64]
  rw [if_pos (by simp)]
  rw [show List.range 16 = [0, 1, 2, 3, 4, 5, 6, 7, 8, 9, 10, 11, 12, 13, 14, 15] from rfl]
  simp [key_u64 d, b0, b1, b2, b3, b4, b5, b6, b7, b8, b9, b10, b11, b12, b13, b14, b15, regLits]

theorem eq_regs (a b : List Nat) (ha : a.length = 16) (hb : b.length = 16) (ha' : ∀ r ∈ a, r < 18446744073709551616) (hb' : ∀ r ∈ b, r < 18446744073709551616) (w : World) {X Y : Array Value} (hX : X = (a.map fun r => Value.int .u64 (r : Nat)).toArray) (hY : Y = (b.map fun r => Value.int .u64 (r : Nat)).toArray) : (Op.equalIn 10000 23 (.agg X) (.agg Y)).run Tryz.prog w = .ok (a == b) w := by
  subst hX
  subst hY
  have hf : ∀ l : List Nat, l.length = 16 → (∀ r ∈ l, r < 18446744073709551616) → (Value.agg (l.map fun r => Value.int .u64 (r : Nat)).toArray).formed Tryz.prog 23 = true ∧ Tryz.prog.keyLits 20 23 (Value.agg (l.map fun r => Value.int .u64 (r : Nat)).toArray).cells.toList = some (regLits l) := fun l hl hb => by
    refine ⟨?_, key_regs 18 l hl hb⟩
    obtain ⟨a0, a1, a2, a3, a4, a5, a6, a7, a8, a9, a10, a11, a12, a13, a14, a15, rfl⟩ := sixteen l hl
    kernel_rfl
  obtain ⟨r, hr, hi⟩ := run_equalIn_deep (P := Tryz.prog) 9995 5 23 (by kernel_rfl) w 20 20 _ _ _ _ (hf a ha ha').1 (hf b hb hb').1 (hf a ha ha').2 (hf b hb hb').2
  have : r = (a == b) := bool_of_iff hi (by
    rw [beq_iff_eq]
    exact ⟨fun h => by rw [h], regLits_inj⟩)
  rw [← this]
  exact hr
def eqSt (s t : St) : Bool := s.regs == t.regs && (s.pc == t.pc && (s.cf == t.cf && (s.of_ == t.of_ && s.zf == t.zf)))
theorem eqSt_iff (s t : St) : eqSt s t = true ↔ s = t := by
  rcases s with ⟨_, _, _, _, _⟩
  rcases t with ⟨_, _, _, _, _⟩
  simp [eqSt]
theorem key_st (d : Nat) (s : St) (h : StOk s) : Tryz.prog.keyLits (d + 3) 25 (stRow s) = some (stLits s) := by
  have hr := key_regs d s.regs h.len h.regs
  have hl : (stRow s).length = 20 := by simp [stRow, h.len]
  have hd : ∀ k, (stRow s).drop (16 + k) = [Value.int .u64 s.pc, .bool s.cf, .bool s.of_, .bool s.zf].drop k := fun k => by
    rw [stRow, List.drop_append, List.drop_eq_nil_of_le (by simp [h.len]), List.nil_append]
    simp [h.len]
  have ht : (stRow s).take 16 = s.regs.map fun r => Value.int .u64 (r : Nat) := by rw [stRow, List.take_append_of_le_length (by simp [h.len]), List.take_of_length_le (by simp [h.len])]
  have e16 := hd 0
  have e17 := hd 1
  have e18 := hd 2
  have e19 := hd 3
  simp only [Nat.add_zero, Nat.reduceAdd, List.drop_zero, List.drop_succ_cons] at e16 e17 e18 e19
  unfold Program.keyLits
  rw [Tryz.underlying25]
  simp only [show Tryz.prog.cellsOf 25 = 20 by kernel_rfl]
  rw [if_pos ⟨hl, by kernel_rfl⟩]
  simp [cells_16, cells_u64, cells_bool, ht, e16, e17, e18, e19, hr, key_u64 (d + 1) s.pc h.pc, key_bool (d + 1), stLits]
theorem eq_st (s t : St) (hs : StOk s) (ht : StOk t) (w : World) : (Op.equalIn 10000 25 (.agg (stRow s).toArray) (.agg (stRow t).toArray)).run Tryz.prog w = .ok (eqSt s t) w := by
  have hf : ∀ l : St, StOk l → (Value.agg (stRow l).toArray).formed Tryz.prog 25 = true ∧ Tryz.prog.keyLits 20 25 (Value.agg (stRow l).toArray).cells.toList = some (stLits l) := fun l hl => by
    refine ⟨?_, key_st 17 l hl⟩
    rcases l with ⟨regs, pc, cf, of_, zf⟩
    obtain ⟨a0, a1, a2, a3, a4, a5, a6, a7, a8, a9, a10, a11, a12, a13, a14, a15, rfl⟩ := sixteen regs hl.len
    kernel_rfl
  obtain ⟨r, hr, hi⟩ := run_equalIn_deep (P := Tryz.prog) 9995 5 25 (by kernel_rfl) w 20 20 _ _ _ _ (hf s hs).1 (hf t ht).1 (hf s hs).2 (hf t ht).2
  have : r = eqSt s t := bool_of_iff hi (by
    rw [eqSt_iff]
    exact ⟨fun h => by rw [h], stLits_inj (by rw [hs.len, ht.len])⟩)
  rw [← this]
  exact hr
end Go.Proofs.YtmanhikpccnfaaaGreat

/- States in blocks beside a memory, and blocks that stand: what a statement over two memories holds on its way. -/
namespace Go.Proofs.YtmanhikpccnfaaaGreat
open Go.RowKit

/-- As Held; besides, the blocks of G stand as they stood in wf. -/
structure Held2 (w0 wf w : World) (F G : Nat → Prop) (m : Value) (rs : List Reg) (B : List (Nat × St)) (E : List (Value × List Ev)) : Prop where
  held : Held w0 w F m rs B E
  fix : ∀ k, G k → w.heap[k]? = wf.heap[k]? ∧ k < w.heap.size ∧ ¬ F k ∧ ∀ y ∈ B, y.1 ≠ k
  evg : ∀ x ∈ E, ∀ g, x.1.ownBlock = some g → ¬ G g

section
variable {w0 wf w w' : World} {F G : Nat → Prop} {m : Value} {rs rs' : List Reg} {B : List (Nat × St)} {E : List (Value × List Ev)}

theorem Held2.cast (h : Held2 w0 wf w F G m rs B E) (e : w' = w) : Held2 w0 wf w' F G m rs B E := e ▸ h
theorem Held2.same_ (h : Held2 w0 wf w F G m rs B E) : SameOn G wf w := fun k hk => (h.fix k hk).1
theorem Held2.next (h : Held2 w0 wf w F G m rs B E) (hb : Below w.heap.size w w') : Held2 w0 wf w' F G m rs B E :=
  ⟨h.held.next hb, fun k hk => ⟨(hb.block k (h.fix k hk).2.1).trans (h.fix k hk).1, Nat.lt_of_lt_of_le (h.fix k hk).2.1 hb.size, (h.fix k hk).2.2⟩, h.evg⟩
/-- What a call made stands from now on. -/
theorem Held2.grow (h : Held2 w0 wf w F G m rs B E) (hb : Below w.heap.size w w') : Held2 w0 w' w' F (fun k => G k ∨ (w.heap.size ≤ k ∧ k < w'.heap.size)) m rs B E :=
  ⟨h.held.next hb, fun k hk => ⟨rfl, by
    rcases hk with hk | hk
    · exact Nat.lt_of_lt_of_le (h.fix k hk).2.1 hb.size
    · exact hk.2, fun hF => by
    rcases hk with hk | hk
    · exact (h.fix k hk).2.2.1 hF
    · have := h.held.lt k hF; omega, fun y hy e => by
    rcases hk with hk | hk
    · exact (h.fix k hk).2.2.2 y hy e
    · have := h.held.lt_box hy; omega⟩, fun x hx g hg hk => by
    rcases hk with hk | hk
    · exact h.evg x hx g hg hk
    · have := (own_lt (h.held.ev x hx).1 g hg).1; omega⟩
/-- The other memory takes the part of the first, which stands. -/
theorem Held2.swap (h : Held2 w0 wf w F G m rs B E) {F' : Nat → Prop} {m' : Value} {rs' : List Reg} (hm : MemAt wf F' m' rs') (hF : ∀ k, F' k → G k) (hge : ∀ k, F' k → w0.heap.size ≤ k) : Held2 w0 w w F' (fun k => (G k ∧ ¬ F' k) ∨ F k) m' rs' B E := by
  refine ⟨⟨h.held.below, hm.keep (h.same_.mono hF), fun k hk => (h.fix k (hF k hk)).2.1, hge, h.held.nd, fun x hx => ⟨(h.held.box x hx).1, (h.held.box x hx).2.1, fun hk => (h.fix _ (hF _ hk)).2.2.2 x hx rfl, (h.held.box x hx).2.2.2⟩,
    fun x hx => ⟨(h.held.ev x hx).1, fun g hg => ⟨fun hk => h.evg x hx g hg (hF g hk), ((h.held.ev x hx).2 g hg).2⟩⟩⟩, fun k hk => ?_, fun x hx g hg hk => ?_⟩
  · rcases hk with ⟨hk, hn⟩ | hk
    · exact ⟨rfl, (h.fix k hk).2.1, hn, (h.fix k hk).2.2.2⟩
    · exact ⟨rfl, h.held.lt k hk, fun hk' => (h.fix k (hF k hk')).2.2.1 hk, fun y hy e => (h.held.box y hy).2.2.1 (e ▸ hk)⟩
  · rcases hk with ⟨hk, _⟩ | hk
    · exact h.evg x hx g hg hk
    · exact ((h.held.ev x hx).2 g hg).1 hk
theorem Held2.put_ (h : Held2 w0 wf w F G m rs B E) {i g : Nat} {s s' : St} (hi : B[i]? = some (g, s)) (hh : Held w0 w' F m rs (B.set i (g, s')) E) (hz : w'.heap.size = w.heap.size) (ho : ∀ k, k ≠ g → w'.heap[k]? = w.heap[k]?) : Held2 w0 wf w' F G m rs (B.set i (g, s')) E := by
  have hgm := List.mem_of_getElem? hi
  refine ⟨hh, fun k hk => ?_, h.evg⟩
  obtain ⟨h1, h2, h3, h4⟩ := h.fix k hk
  refine ⟨(ho k fun e => h4 _ hgm e.symm).trans h1, by rw [hz]; exact h2, h3, fun y hy => ?_⟩
  rcases List.mem_or_eq_of_mem_set hy with hy | rfl
  · exact h4 y hy
  · exact h4 (g, s) hgm
theorem Held2.setRow (h : Held2 w0 wf w F G m rs B E) {i g : Nat} {s s' : St} (hi : B[i]? = some (g, s)) (hs : StOk s') : Held2 w0 wf (w.setRow g (stRow s').toArray) F G m rs (B.set i (g, s')) E :=
  h.put_ hi (h.held.setRow hi hs) (by simp [World.setRow]) fun k hk => setRow_other _ _ _ _ hk
theorem Held2.setCell (h : Held2 w0 wf w F G m rs B E) {i g : Nat} {s s' : St} (hi : B[i]? = some (g, s)) (k : Nat) (v : Value) (hv : (stRow s).set k v = stRow s') (hs : StOk s') : Held2 w0 wf (w.setCell ⟨g, k, none⟩ v) F G m rs (B.set i (g, s')) E :=
  h.put_ hi (h.held.setCell hi k v hv hs) (by simp [World.setCell]) fun k hk => Below.heap_setCell _ _ _ _ hk
theorem Held2.fresh (h : Held2 w0 wf w F G m rs B E) (zs : Array Value) {s : St} (hs : StOk s) : Held2 w0 wf ((w.alloc (.cells zs 25)).setRow w.heap.size (stRow s).toArray) F G m rs ((w.heap.size, s) :: B) E := by
  refine ⟨h.held.fresh zs hs, fun k hk => ?_, h.evg⟩
  obtain ⟨h1, h2, h3, h4⟩ := h.fix k hk
  refine ⟨((setRow_other _ _ _ _ (by omega)).trans (heap_alloc_old w _ h2)).trans h1, by simp [World.setRow]; omega, h3, fun y hy => ?_⟩
  rcases List.mem_cons.1 hy with rfl | hy
  · show w.heap.size ≠ k; omega
  · exact h4 y hy
theorem Held2.Do (h : Held2 w0 wf w F G m rs B E) (i : Nat) {g : Nat} {s : St} (hi : B[i]? = some (g, s)) (ins : Ins) (hio : InsOk ins) (size : Int) {r : StepR} (hr : r = stepF s ins size rs) :
    Calls Tryz.prog 11 #[.agg (stRow s).toArray, .agg (insRow ins).toArray, .int .i64 size, m] w fun e w' => ∃ A c, e = .returned (.tuple #[.agg (stRow r.st).toArray, .slice A r.evs.length c, .int .i64 r.code]) ∧ Held2 w0 wf w' F G m r.rs B ((.slice A r.evs.length c, r.evs) :: E) := by
  refine (Do_any s ins size m w F rs (h.held.ok i hi) hio h.held.mem h.held.lt).mono ?_
  rintro e w' ⟨v, rfl, hc, hm, hrow⟩
  rw [← hr] at hm hrow ⊢
  obtain ⟨A, c, rfl⟩ : ∃ A c, v = .slice A r.evs.length c := by
    rcases hrow.2 with ⟨h1, h2⟩ | ⟨g', cap', cur, hv, _⟩
    · exact ⟨none, 0, by rw [h1, h2]⟩
    · exact ⟨_, _, hv⟩
  refine ⟨A, c, rfl, ⟨(h.held.step hc hm).seen hrow h.held, fun k hk => ?_, fun x hx g hg hk => ?_⟩⟩
  · obtain ⟨h1, h2, h3, h4⟩ := h.fix k hk
    exact ⟨(hc.far h2 h2 h3).trans h1, Nat.lt_of_lt_of_le h2 hc.size, h3, h4⟩
  · rcases List.mem_cons.1 hx with rfl | hx
    · have := (own_lt hrow g hg).2
      have := (h.fix g hk).2.1
      omega
    · exact h.evg x hx g hg hk

variable {ops : Array Oper} {rest : List Oper} {o : Oper} {a : Act} {Q : Exit → Act → World → Prop}
theorem Held2.load_row (h : Held2 w0 wf w F G m rs B E) (i : Nat) {g : Nat} {s : St} (hi : B[i]? = some (g, s)) (hg : o.guard = none) (y : Operand) (ho : o.op = .load 25 y) (hx : a.eval y = .pointer (some ⟨g, 0, none⟩)) (k : wpList Tryz.prog ops Q rest (a.put o.dst (.agg (stRow s).toArray)) w) : wpList Tryz.prog ops Q (o :: rest) a w :=
  h.held.load_row i hi hg y ho hx k
/-- An instruction that stands is loaded. -/
theorem Held2.load_ins (h : Held2 w0 wf w F G m rs B E) {g : Nat} {i : Ins} (hG : G g) (hf : wf.heap[g]? = some (.cells (insRow i).toArray 29 (0, 0))) (hg : o.guard = none) (y : Operand) (ho : o.op = .load 29 y) (hx : a.eval y = .pointer (some ⟨g, 0, none⟩)) (k : wpList Tryz.prog ops Q rest (a.put o.dst (.agg (insRow i).toArray)) w) : wpList Tryz.prog ops Q (o :: rest) a w :=
  wpList_val_ex hg (exec_load_row 29 y ho g hx _ _ _ ((h.fix g hG).1.trans hf) _ Tryz.underlying29 rfl infoIns) k
theorem Held2.store_fresh (h : Held2 w0 wf w F G m rs B E) {s : St} (hs : StOk s) (hg : o.guard = none) (x y : Operand) (ho : o.op = .store 25 x y) (zs : Array Value) (hz : zs.size = 20) (hx : a.eval x = .pointer (some ⟨w.heap.size, 0, none⟩)) (hy : a.eval y = .agg (stRow s).toArray)
    (k : ∀ W, Held2 w0 wf W F G m rs ((w.heap.size, s) :: B) E → wpList Tryz.prog ops Q rest (a.put o.dst undef) W) : wpList Tryz.prog ops Q (o :: rest) a (w.alloc (.cells zs 25)) :=
  wpList_skip_ex hg (exec_store_row 25 x y ho w.heap.size _ hx hy 25 zs (heap_alloc_new w _) (by rw [stRow_size hs]; exact infoSt) (by rw [stRow_size hs, hz]) (stRow_one _)) (k _ (h.fresh zs hs))
end
end Go.Proofs.YtmanhikpccnfaaaGreat

/- What a step comes to is a state: plain. -/
namespace Go.Proofs.YtmanhikpccnfaaaGreat
open Go.RowKit

theorem value_lt {s s1 : St} {op : Int} {d b r : Nat} (hd : d < 18446744073709551616) (hb : b < 18446744073709551616) (h : valueF s op d b = some (s1, r)) : r < 18446744073709551616 := by
  unfold valueF at h
  by_cases h0 : op = 1 ∨ op = 2
  · rw [if_pos h0] at h; cases h; exact hb
  rw [if_neg h0] at h
  by_cases h1 : op = 6 ∨ op = 15
  · rw [if_pos h1] at h; cases h; exact addF_lt _ _ _
  rw [if_neg h1] at h
  by_cases h2 : op = 7
  · rw [if_pos h2] at h; cases h; exact addF_lt _ _ _
  rw [if_neg h2] at h
  by_cases h3 : op = 8 ∨ op = 17 ∨ op = 13 ∨ op = 18
  · rw [if_pos h3] at h; cases h; exact subF_lt _ _ _
  rw [if_neg h3] at h
  by_cases h4 : op = 9
  · rw [if_pos h4] at h; cases h; exact subF_lt _ _ _
  rw [if_neg h4] at h
  by_cases h5 : op = 10 ∨ op = 16 ∨ op = 14
  · rw [if_pos h5] at h; cases h; exact and_lt hd
  rw [if_neg h5] at h
  by_cases h6 : op = 11
  · rw [if_pos h6] at h; cases h; exact or_lt hd hb
  rw [if_neg h6] at h
  by_cases h7 : op = 12
  · rw [if_pos h7] at h; cases h; exact xor_lt hd hb
  rw [if_neg h7] at h
  by_cases h8 : op = 22
  · rw [if_pos h8] at h; cases h; exact subF_lt _ _ _
  rw [if_neg h8] at h
  by_cases h9 : op = 23
  · rw [if_pos h9] at h; cases h; exact (by omega)
  rw [if_neg h9] at h
  by_cases h10 : op = 24
  · rw [if_pos h10] at h; cases h; exact Nat.mod_lt _ (by decide)
  rw [if_neg h10] at h
  by_cases h11 : op = 25
  · rw [if_pos h11] at h; cases h; exact Nat.lt_of_le_of_lt (Nat.div_le_self _ _) hd
  rw [if_neg h11] at h
  by_cases h12 : op = 20
  · rw [if_pos h12] at h; cases h; exact addF_lt _ _ _
  rw [if_neg h12] at h
  by_cases h13 : op = 21
  · rw [if_pos h13] at h; cases h; exact addF_lt _ _ _
  rw [if_neg h13] at h
  by_cases h14 : op = 26
  · rw [if_pos h14] at h; cases h; exact ite_lt hb hd
  rw [if_neg h14] at h
  by_cases h15 : op = 27
  · rw [if_pos h15] at h; cases h; exact ite_lt hd hb
  rw [if_neg h15] at h
  cases h
theorem regAt_lt {s : St} (hs : StOk s) (k : Int) : regAt s k < 18446744073709551616 := by
  unfold regAt
  rw [List.getD_eq_getElem?_getD]
  cases h : s.regs[k.toNat]? with
  | none => simp
  | some r => exact hs.regs r (List.mem_of_getElem? h)
theorem StOk.pc_ {s : St} (h : StOk s) {q : Nat} (hq : q < 18446744073709551616) : StOk { s with pc := q } := ⟨h.len, h.regs, hq⟩
theorem over_ok {s s2 : St} {i : Ins} (hs : StOk s) (ho : overF s i = some s2) : StOk s2 := by
  unfold overF at ho
  split at ho
  · cases ho
  · rename_i s1 r hv
    obtain ⟨k1, k2⟩ := value_keep hv
    have hb : (if takesS i.op then regAt s i.s else u64 i.imm) < 18446744073709551616 := by
      split
      · exact regAt_lt hs _
      · exact u64_lt _
    have hr := value_lt (regAt_lt hs _) hb hv
    have h1 : StOk s1 := ⟨by rw [k1]; exact hs.len, by rw [k1]; exact hs.regs, by rw [k2]; exact hs.pc⟩
    obtain rfl := Option.some.inj ho
    split
    · exact h1
    · exact h1.set _ hr
theorem jump_ok {s : St} (hs : StOk s) (b : Bool) (n : Int) : StOk (jumpS s b n) := by
  unfold jumpS
  split
  · exact hs.pc_ (Nat.mod_lt _ (by decide))
  · exact hs
theorem do_ok {s : St} {i : Ins} {rs : List Reg} (hs : StOk s) : StOk (doF s i rs 0).1 := by
  unfold doF
  by_cases h3 : i.op = 3
  · rw [if_pos h3]; exact hs.set _ loadF_lt
  rw [if_neg h3]
  by_cases h4 : i.op = 4
  · rw [if_pos h4]; exact hs
  rw [if_neg h4]
  by_cases h5 : i.op = 5
  · rw [if_pos h5]; exact hs.set _ (Nat.mod_lt _ (by decide))
  rw [if_neg h5]
  by_cases h19 : i.op = 19
  · rw [if_pos h19]
    have h1 := regAt_lt hs i.t
    have h2 := regAt_lt hs 2
    refine (hs.set _ ?_).set _ (Nat.mod_lt _ (by decide))
    show regAt s i.t * regAt s 2 / 18446744073709551616 < _
    have h3 := Nat.mul_le_mul (Nat.le_of_lt_succ h1) (Nat.le_of_lt_succ h2)
    omega
  rw [if_neg h19]
  by_cases h28 : i.op = 28
  · rw [if_pos h28]; exact hs.set _ (Nat.mod_lt _ (by decide))
  rw [if_neg h28]
  by_cases h29 : i.op = 29
  · rw [if_pos h29]; exact (hs.set _ (Nat.mod_lt _ (by decide))).set _ loadF_lt
  rw [if_neg h29]
  by_cases h33 : i.op = 33
  · rw [if_pos h33]; exact (hs.set 4 (Nat.mod_lt _ (by decide))).pc_ loadF_lt
  rw [if_neg h33]
  exact jump_ok hs _ _
theorem step_ok {s : St} (hs : StOk s) (i : Ins) (size : Int) (rs : List Reg) : StOk (stepF s i size rs).st := by
  unfold stepF
  split
  · have h1 : StOk { s with pc := (s.pc + u64 size) % 18446744073709551616 } := hs.pc_ (Nat.mod_lt _ (by decide))
    split
    · rename_i s2 ho; exact over_ok h1 ho
    · by_cases hz : (doF { s with pc := (s.pc + u64 size) % 18446744073709551616 } i rs 0).2.2.1 = 0
      · simp only [if_pos hz]; exact do_ok h1
      · simp only [if_neg hz]; exact hs
  · exact hs
end Go.Proofs.YtmanhikpccnfaaaGreat

/- Words of StepStays', StepSeen's and StepCalls' walks. -/
namespace Go.Proofs.YtmanhikpccnfaaaGreat
open Go.RowKit

theorem regs_next {w w' : World} {v : Value} {rs : List Reg} (h : RegsAt w (fun k => k < w.heap.size) v rs) (hb : Below w.heap.size w w') : RegsAt w' (fun k => k < w'.heap.size) v rs :=
  (h.below hb fun _ hk => hk).mono fun _ hk => Nat.lt_of_lt_of_le hk hb.size
theorem two_boxes (w : World) (s : St) (i : Ins) : ∃ W, W = (w.alloc (.cells (stRow s).toArray 25)).alloc (.cells (insRow i).toArray 29) ∧ Below w.heap.size w W ∧ W.heap.size = w.heap.size + 1 + 1 ∧
    W.heap[w.heap.size]? = some (.cells (stRow s).toArray 25 (0, 0)) ∧ W.heap[w.heap.size + 1]? = some (.cells (insRow i).toArray 29 (0, 0)) := by
  have z1 : (w.alloc (.cells (stRow s).toArray 25)).heap.size = w.heap.size + 1 := by simp
  refine ⟨_, rfl, ((Below.refl _ _).alloc (Nat.le_refl _) _).alloc (by simp) _, by simp, ?_, ?_⟩
  · exact (Below.heap_alloc _ _ _ (by omega)).trans (heap_alloc_new w _)
  · rw [← z1]; exact heap_alloc_new _ _

section
variable {ops : Array Oper} {rest : List Oper} {o : Oper} {a : Act} {w : World} {Q : Exit → Act → World → Prop}
theorem Held2.load_row_w {w0 wf : World} {F G : Nat → Prop} {m : Value} {rs : List Reg} {B : List (Nat × St)} {E : List (Value × List Ev)} (h : Held2 w0 wf w F G m rs B E) (i : Nat) {g : Nat} {s : St} (hi : B[i]? = some (g, s)) (y : Operand) (ho : o.op = .load 25 y) (hx : a.eval y = .pointer (some ⟨g, 0, none⟩)) (hw : Region.wanted o (yielded ops a.tmps) = true) (k : wpList Tryz.prog ops Q rest (a.put o.dst (.agg (stRow s).toArray)) w) : wpList Tryz.prog ops Q (o :: rest) a w :=
  wpList_val_w hw (exec_load_row 25 y ho g hx _ _ _ (h.held.get hi).1 _ Tryz.underlying25 rfl (by rw [stRow_size (h.held.ok i hi)]; exact infoSt)) k
theorem exec_eq_st (x y : Operand) (ho : o.op = .binOp .eql 25 x y 25) {s t : St} (hs : StOk s) (ht : StOk t) (hx : a.eval x = .agg (stRow s).toArray) (hy : a.eval y = .agg (stRow t).toArray) : (execOp a.eval o).run Tryz.prog w = .ok (.value (.bool (eqSt s t))) w := by
  unfold execOp
  simp only [ho, hx, hy, Sem.run_bind, run_eqGuard_agg _ _ _ _ _ _ _ Tryz.eqGuardType25, Result.andThen_ok, run_eql_struct, eq_st s t hs ht, Sem.run_pure]
theorem wl_eq_st (x y : Operand) (ho : o.op = .binOp .eql 25 x y 25) {s t : St} (hs : StOk s) (ht : StOk t) (hx : a.eval x = .agg (stRow s).toArray) (hy : a.eval y = .agg (stRow t).toArray) (hw : Region.wanted o (yielded ops a.tmps) = true) {q : Bool} (hq : eqSt s t = q)
    (k : wpList Tryz.prog ops Q rest (a.put o.dst (.bool q)) w) : wpList Tryz.prog ops Q (o :: rest) a w :=
  wpList_val_w hw (exec_eq_st x y ho hs ht hx hy) (hq.symm ▸ k)
end

theorem stRow_get {s : St} {k r : Nat} (h : s.regs[k]? = some r) : (stRow s)[k]? = some (.int .u64 r) := by
  have hk := (List.getElem?_eq_some_iff.1 h).1
  simp only [stRow]
  rw [List.getElem?_append_left (by simpa using hk), List.getElem?_map, h]
  rfl
theorem stRow_cf {s : St} (h : StOk s) : (stRow s)[17]? = some (.bool s.cf) := by
  rw [stRow, List.getElem?_append_right (by simp [h.len])]; simp [h.len]
theorem stRow_of {s : St} (h : StOk s) : (stRow s)[18]? = some (.bool s.of_) := by
  rw [stRow, List.getElem?_append_right (by simp [h.len])]; simp [h.len]
theorem stRow_zf {s : St} (h : StOk s) : (stRow s)[19]? = some (.bool s.zf) := by
  rw [stRow, List.getElem?_append_right (by simp [h.len])]; simp [h.len]
theorem stRow_reg (s : St) (k : Nat) (hk : k < s.regs.length) (n : Nat) : (stRow s).set k (.int .u64 n) = stRow { s with regs := s.regs.set k n } := by
  rw [stRow, List.set_append_left _ _ (by simpa using hk), stRow, List.map_set]
theorem pick16 (x : Int) : ∃ X : Nat, x % ((16 : Nat) : Int) = X ∧ X < 16 := ⟨(x % 16).toNat, by omega, by omega⟩
theorem step_evs (s : St) (i : Ins) (size : Int) (rs : List Reg) : (stepF s i size rs).evs.length ≤ 100 := by
  have h : ∀ (s : St) (rs : List Reg) (e : Int), (doF s i rs e).2.1.length ≤ 90 := fun s rs e => by
    unfold doF
    repeat' split
    all_goals simp
  unfold stepF
  split
  · split
    · simp
    · simp only []
      split
      · have := h { s with pc := (s.pc + u64 size) % 18446744073709551616 } rs 0
        simp only [List.length_cons]
        omega
      · simp
  · simp
theorem set_lt16 {L : List Nat} (h : ∀ r ∈ L, r < 18446744073709551616) (k : Nat) {v : Nat} (hv : v < 18446744073709551616) : ∀ r ∈ L.set k v, r < 18446744073709551616 := fun r hr => by
  rcases List.mem_or_eq_of_mem_set hr with hr | rfl
  · exact h r hr
  · exact hv
theorem mem_good {w : World} {F : Nat → Prop} {p : Value} {rs : List Reg} (h : MemAt w F p rs) : Good rs := by
  obtain ⟨_, _, _, _, _, _, h⟩ := h
  exact h
theorem Regions_at {p : Value} {w : World} {F : Nat → Prop} {rs : List Reg} (hm : MemAt w F p rs) (hF : ∀ k, F k → k < w.heap.size) :
    Calls Tryz.prog 15 #[p] w fun e w' => ∃ A c, e = .returned (.slice A rs.length c) ∧ RegsAt w' (fun k => k < w'.heap.size) (.slice A rs.length c) rs ∧ Below w.heap.size w w' := by
  refine (Regions_any p w F rs hm hF).mono ?_
  rintro e w' ⟨v, rfl, ho, hb⟩
  have h := (ho.at_ (mem_good hm).base).mono (G := fun k => k < w'.heap.size) fun k hk => hk.2
  obtain ⟨A, c, rfl, _⟩ := h.form
  exact ⟨A, c, rfl, h, hb⟩
theorem Same_true {v u : Value} {w : World} {l : List Reg} (hn : l.length ≤ 9223372036854775807) (ha : RegsAt w (fun k => k < w.heap.size) v l) (hb : RegsAt w (fun k => k < w.heap.size) u l) :
    Calls Tryz.prog 14 #[v, u] w fun e w' => e = .returned (.bool true) ∧ Below w.heap.size w w' :=
  (Same_any v u w _ l l hn ha hb fun _ h => h).mono fun e w' ⟨h1, h2⟩ => ⟨by rw [h1, (sameR_iff l l).2 rfl], h2⟩

end Go.Proofs.YtmanhikpccnfaaaGreat

/- keysmithkit.Pick. -/
namespace Go.Proofs.YtmanhikpccnfaaaGreat
open Go.RowKit

theorem tmod_neg (n : Int) (m : Nat) (h1 : 1 ≤ m) (h : n < 0) : -(m:Int) < n.tmod m ∧ n.tmod m ≤ 0 ∧ n % m = (n.tmod m) % m := by
  have h3 := Int.tmod_add_mul_tdiv n m
  refine ⟨?_, ?_, ?_⟩
  · have := Int.lt_tmod_of_pos n (show (0:Int) < m by omega); omega
  · have := Int.neg_tmod (-n) m
    rw [Int.neg_neg] at this
    rw [this]
    have h2 := Int.tmod_nonneg (m : Int) (show 0 ≤ -n by omega)
    omega
  · conv => lhs; rw [← h3]
    rw [Int.add_mul_emod_self_left]

set_option maxHeartbeats 400000 in
theorem Pick_any (n : Int) (m : Nat) (w : World) (h1 : 1 ≤ m) (h2 : m ≤ 1000000) (hn : -9223372036854775808 ≤ n ∧ n ≤ 9223372036854775807) :
    Calls Tryz.prog 20 #[.int .i64 n, .int .i64 m] w fun e w' => e = .returned (.int .i64 (n % (m : Int))) ∧ w = w' := by
  obtain ⟨q, hq⟩ : ∃ q : Int, q = n % (m : Int) := ⟨_, rfl⟩
  rw [← hq]
  have HQ := Lib.hid hq
  have d1 : decide ((m : Int) < 1) = false := by simp; omega
  have d2 : ((m : Int) == 0) = false := by simp; omega
  have d3 : ¬ ((m : Int) = 0) := by omega
  clear hq
  by_cases h0 : 0 ≤ n
  · have e1 : n.tmod (m : Int) = q := by rw [HQ.out, Int.tmod_eq_emod_of_nonneg h0]
    have e2 : decide (q < 0) = false := by have := Int.emod_nonneg n (show (m : Int) ≠ 0 by omega); rw [← HQ.out] at this; simp; omega
    have e3 : 0 ≤ q := by have := Int.emod_nonneg n (show (m : Int) ≠ 0 by omega); rw [← HQ.out] at this; exact this
    have e4 : q < 1000000 := by have := Int.emod_lt_of_pos n (show (0 : Int) < m by omega); rw [← HQ.out] at this; omega
    clear hn
    go_enter Tryz.func20, Tryz.ntmps20
    go_wp2
    go_ret
    exact ⟨rfl, rfl⟩
  · obtain ⟨b1, b2, b3⟩ := tmod_neg n m h1 (by omega)
    rw [← HQ.out] at b3
    obtain ⟨r, e0⟩ : ∃ r, n.tmod (m : Int) = r := ⟨_, rfl⟩
    rw [e0] at b1 b2 b3
    by_cases hr : r = 0
    · subst hr
      have e1 : q = 0 := by rw [b3, Int.zero_emod]
      subst e1
      clear b1 b2 b3 HQ hn
      go_enter Tryz.func20, Tryz.ntmps20
      go_wp2
      go_ret
      exact ⟨rfl, rfl⟩
    · have e1 : q = r + m := by
        rw [b3, ← Int.add_emod_right]
        exact Int.emod_eq_of_lt (by omega) (by omega)
      have e2 : decide (r < 0) = true := by simp; omega
      have e3 : 0 ≤ r + m := by omega
      have e4 : r + m ≤ 1000000 := by omega
      have E1 := Lib.hid e1
      clear b3 HQ hn e1
      go_enter Tryz.func20, Tryz.ntmps20
      go_wp2
      go_ret
      exact ⟨ret_int E1.out.symm, rfl⟩
end Go.Proofs.YtmanhikpccnfaaaGreat

/- What a step tells hangs on the place, the flags, RSP and the memory's shape: plain. -/
namespace Go.Proofs.YtmanhikpccnfaaaGreat
open Go.RowKit

/-- A region without its bytes. -/
def shR (r : Reg) : Nat × Nat × Bool := (r.base, r.bytes.length, r.write)
def lastS (x : Nat × Nat × Bool) : Nat := (x.1 + x.2.1 + 18446744073709551615) % 18446744073709551616
theorem get_sh {rs qs : List Reg} (h : rs.map shR = qs.map shR) (k : Nat) : rs[k]?.map shR = qs[k]?.map shR := by
  rw [← List.getElem?_map, ← List.getElem?_map, h]
theorem find_sh (rs : List Reg) (a : Nat) : findI rs a = (rs.map shR).findIdx fun x => decide (a ≤ lastS x) := by
  rw [List.findIdx_map]; rfl
theorem place_sh {rs qs : List Reg} (h : rs.map shR = qs.map shR) (a n : Nat) : placeF rs a n = placeF qs a n := by
  unfold placeF
  rw [show findI rs a = findI qs a by rw [find_sh, find_sh, h]]
  have hg := get_sh h (findI qs a)
  cases h1 : rs[findI qs a]? with
  | none => rw [h1] at hg; cases h2 : qs[findI qs a]? with
    | none => rfl
    | some q => rw [h2] at hg; cases hg
  | some r => rw [h1] at hg; cases h2 : qs[findI qs a]? with
    | none => rw [h2] at hg; cases hg
    | some q =>
      rw [h2] at hg
      have e := Option.some.inj hg
      have e1 : r.base = q.base := congrArg (·.1) e
      have e2 : r.bytes.length = q.bytes.length := congrArg (·.2.1) e
      simp only [e1, e2]
theorem load_sh {rs qs : List Reg} (h : rs.map shR = qs.map shR) (a : Nat) : (loadVE (loadF rs a)).2 = (loadVE (loadF qs a)).2 := by
  unfold loadF
  rw [place_sh h]
  cases placeF qs a 8 with
  | none => rfl
  | some ik =>
    have hg := get_sh h ik.1
    obtain ⟨i, k⟩ := ik
    simp only at hg ⊢
    cases h1 : rs[i]? with
    | none => rw [h1] at hg; cases h2 : qs[i]? with
      | none => rfl
      | some q => rw [h2] at hg; cases hg
    | some r => rw [h1] at hg; cases h2 : qs[i]? with
      | none => rw [h2] at hg; cases hg
      | some q => rfl
theorem store_sh {rs qs : List Reg} (h : rs.map shR = qs.map shR) (a v u : Nat) : (storeVE rs a v).1 = (storeVE qs a u).1 := by
  unfold storeVE storeF
  rw [place_sh h]
  cases placeF qs a 8 with
  | none => rfl
  | some ik =>
    have hg := get_sh h ik.1
    obtain ⟨i, k⟩ := ik
    simp only at hg ⊢
    cases h1 : rs[i]? with
    | none => rw [h1] at hg; cases h2 : qs[i]? with
      | none => rfl
      | some q => rw [h2] at hg; cases hg
    | some r => rw [h1] at hg; cases h2 : qs[i]? with
      | none => rw [h2] at hg; cases hg
      | some q =>
        rw [h2] at hg
        have e : r.write = q.write := congrArg (·.2.2) (Option.some.inj hg)
        simp only [e]
        cases q.write <;> rfl

/-- Alike in what is seen. -/
structure Like (i : Ins) (s t : St) : Prop where
  pc : s.pc = t.pc
  cf : s.cf = t.cf
  of_ : s.of_ = t.of_
  zf : s.zf = t.zf
  sp : regAt s 4 = regAt t 4
  base : regF s i.base = regF t i.base
  index : regF s i.index = regF t i.index
theorem addr_like {i : Ins} {s t : St} (h : Like i s t) : addrF s i = addrF t i := by
  unfold addrF; rw [h.base, h.index]
theorem over_pc {s : St} {i : Ins} (h : isOver i.op = true) : ∃ s2, overF s i = some s2 ∧ s2.pc = s.pc := by
  obtain ⟨s1, r, hv⟩ := over_value (s := s) (d := regAt s i.d) (b := if takesS i.op then regAt s i.s else u64 i.imm) h
  have hk := (value_keep hv).2
  unfold overF
  rw [hv]
  refine ⟨_, rfl, ?_⟩
  split <;> exact hk
def seenM (op : Int) : Bool := op == 3 || op == 4 || op == 28 || op == 29
def seenJ (op : Int) : Bool := op == 30 || op == 31 || op == 32
/-- What two steps tell. -/
structure SeenAs (op : Int) (s : St) (R Q : StepR) : Prop where
  code : R.code = Q.code
  evs : R.evs = Q.evs
  bad : R.code ≠ 0 → R.evs = []
  pc : R.code = 0 → R.st.pc = Q.st.pc
  len : R.code = 0 → R.evs.length = if seenM op || seenJ op then 2 else 1
  first : R.code = 0 → R.evs[0]? = some ⟨1, s.pc⟩
  jump : R.code = 0 → seenJ op = true → R.evs[1]? = some ⟨4, R.st.pc⟩
  next : R.code = 0 → seenJ op = false → R.st.pc = (s.pc + 5) % 18446744073709551616

theorem do_seen {s t : St} {i : Ins} {rs qs : List Reg} (hl : Like i s t) (h : rs.map shR = qs.map shR) (hop : i.op = 3 ∨ i.op = 4 ∨ i.op = 5 ∨ i.op = 19 ∨ i.op = 28 ∨ i.op = 29 ∨ i.op = 30 ∨ i.op = 31 ∨ i.op = 32) :
    (doF s i rs 0).2.2.1 = (doF t i qs 0).2.2.1 ∧ (doF s i rs 0).2.1 = (doF t i qs 0).2.1 ∧ (doF s i rs 0).1.pc = (doF t i qs 0).1.pc ∧ (doF s i rs 0).2.1.length = (if seenM i.op || seenJ i.op then 1 else 0) ∧
      (seenJ i.op = true → (doF s i rs 0).2.1[0]? = some ⟨4, (doF s i rs 0).1.pc⟩) ∧ (seenJ i.op = false → (doF s i rs 0).1.pc = s.pc) := by
  have hpc : s.pc = t.pc := hl.pc
  have ha := addr_like hl
  have hsp := hl.sp
  rcases hop with h1 | h1 | h1 | h1 | h1 | h1 | h1 | h1 | h1
  · unfold doF; simp only [h1]; simp [seenM, seenJ, ha, load_sh h, hpc]
  · unfold doF; simp only [h1]; simp [seenM, seenJ, ha, store_sh h _ _ (regAt t i.s), hpc]
  · unfold doF; simp only [h1]; simp [seenM, seenJ, hpc]
  · unfold doF; simp only [h1]; simp [seenM, seenJ, hpc]
  · unfold doF; simp only [h1]; simp [seenM, seenJ, hsp, store_sh h _ _ (regAt t i.s), hpc]
  · unfold doF; simp only [h1]; simp [seenM, seenJ, hsp, load_sh h, hpc]
  · unfold doF; simp only [h1]; simp [seenM, seenJ, jumpS, hpc]
  · unfold doF; simp only [h1]; simp [seenM, seenJ, jumpS, hpc, hl.zf]; split <;> simp [hpc]
  · unfold doF; simp only [h1]; simp [seenM, seenJ, jumpS, hpc, hl.cf]; split <;> simp [hpc]

theorem step_seen {s t : St} {i : Ins} {rs qs : List Reg} (hl : Like i s t) (h : rs.map shR = qs.map shR) (hc : chkP i = true) (h33 : i.op ≠ 33) : SeenAs i.op s (stepF s i 5 rs) (stepF t i 5 qs) := by
  have hr := chk_range hc
  have hg : (chkP i && (decide ((1 : Int) ≤ 5) && decide ((5 : Int) ≤ 15))) = true := by rw [hc]; rfl
  have hpc := hl.pc
  have e5 : u64 5 = 5 := by decide
  cases ho : isOver i.op with
  | true =>
    obtain ⟨s2, h1, h2⟩ := over_pc (s := { s with pc := (s.pc + u64 5) % 18446744073709551616 }) ho
    obtain ⟨t2, g1, g2⟩ := over_pc (s := { t with pc := (t.pc + u64 5) % 18446744073709551616 }) ho
    have hR : stepF s i 5 rs = ⟨0, s2, [⟨1, s.pc⟩], rs⟩ := by unfold stepF; rw [if_pos hg, h1]
    have hQ : stepF t i 5 qs = ⟨0, t2, [⟨1, t.pc⟩], qs⟩ := by unfold stepF; rw [if_pos hg, g1]
    have hm : seenM i.op = false := by
      simp only [isOver, Bool.or_eq_true, Bool.and_eq_true, decide_eq_true_eq] at ho
      simp only [seenM, Bool.or_eq_false_iff, beq_eq_false_iff_ne, ne_eq]
      omega
    have hj : seenJ i.op = false := by
      simp only [isOver, Bool.or_eq_true, Bool.and_eq_true, decide_eq_true_eq] at ho
      simp only [seenJ, Bool.or_eq_false_iff, beq_eq_false_iff_ne, ne_eq]
      omega
    rw [hR, hQ]
    exact ⟨rfl, by rw [hpc], fun h => absurd rfl h, fun _ => by show s2.pc = t2.pc; rw [h2, g2, hpc], fun _ => by rw [hm, hj]; rfl, fun _ => rfl, fun _ h => (by rw [hj] at h; cases h), fun _ _ => by show s2.pc = _; rw [h2, e5]⟩
  | false =>
    have hop : i.op = 3 ∨ i.op = 4 ∨ i.op = 5 ∨ i.op = 19 ∨ i.op = 28 ∨ i.op = 29 ∨ i.op = 30 ∨ i.op = 31 ∨ i.op = 32 := by
      simp only [isOver, Bool.or_eq_false_iff, Bool.and_eq_false_iff, decide_eq_false_iff_not] at ho
      omega
    have n1 : overF { s with pc := (s.pc + u64 5) % 18446744073709551616 } i = none := by
      cases hx : overF { s with pc := (s.pc + u64 5) % 18446744073709551616 } i with
      | none => rfl
      | some s2 => rw [over_is hc hx] at ho; cases ho
    have n2 : overF { t with pc := (t.pc + u64 5) % 18446744073709551616 } i = none := by
      cases hx : overF { t with pc := (t.pc + u64 5) % 18446744073709551616 } i with
      | none => rfl
      | some s2 => rw [over_is hc hx] at ho; cases ho
    have hl' : Like i { s with pc := (s.pc + u64 5) % 18446744073709551616 } { t with pc := (t.pc + u64 5) % 18446744073709551616 } := ⟨by simp only [hpc], hl.cf, hl.of_, hl.zf, hl.sp, hl.base, hl.index⟩
    obtain ⟨d1, d2, d3, d4, d5, d6⟩ := do_seen hl' h hop
    generalize hD : doF { s with pc := (s.pc + u64 5) % 18446744073709551616 } i rs 0 = D at *
    generalize hE : doF { t with pc := (t.pc + u64 5) % 18446744073709551616 } i qs 0 = E at *
    have hR : stepF s i 5 rs = if D.2.2.1 = 0 then ⟨0, D.1, ⟨1, s.pc⟩ :: D.2.1, D.2.2.2⟩ else ⟨D.2.2.1, s, [], D.2.2.2⟩ := by unfold stepF; rw [if_pos hg, n1, hD]
    have hQ : stepF t i 5 qs = if E.2.2.1 = 0 then ⟨0, E.1, ⟨1, t.pc⟩ :: E.2.1, E.2.2.2⟩ else ⟨E.2.2.1, t, [], E.2.2.2⟩ := by unfold stepF; rw [if_pos hg, n2, hE]
    rw [hR, hQ, ← d1]
    by_cases hz : D.2.2.1 = 0
    · rw [if_pos hz, if_pos hz]
      refine ⟨rfl, by rw [hpc, d2], fun h => absurd rfl h, fun _ => d3, fun _ => ?_, fun _ => rfl, fun _ hj => d5 hj, fun _ hj => ?_⟩
      · simp only [List.length_cons, d4]
        split <;> rfl
      · show D.1.pc = _
        rw [d6 hj, e5]
    · rw [if_neg hz, if_neg hz]
      exact ⟨rfl, rfl, fun _ => rfl, fun h => absurd h hz, fun h => absurd h hz, fun h => absurd h hz, fun h => absurd h hz, fun h => absurd h hz⟩

theorem sort_sh {rs qs : List Reg} (h : rs.map shR = qs.map shR) : (sortBy Reg.base rs).map shR = (sortBy Reg.base qs).map shR := by
  have e : ∀ l : List Reg, (sortBy Reg.base l).map shR = sortBy (fun x => x.1) (l.map shR) := fun l => (sortBy_map (fun x : Nat × Nat × Bool => x.1) shR l).symm
  rw [e, e, h]
theorem agree_set {R S : List Nat} {k j : Nat} (hk : k < R.length) (h : j = k ∨ R.getD j 0 = S.getD j 0) : (R.set k (S.getD k 0)).getD j 0 = S.getD j 0 := by
  by_cases e : j = k
  · subst e
    rw [List.getD_eq_getElem?_getD, List.getElem?_set_self hk]
    rfl
  · rw [List.getD_eq_getElem?_getD, List.getElem?_set_ne (fun h => e h.symm), ← List.getD_eq_getElem?_getD]
    exact h.resolve_left e
theorem like_regs {i : Ins} {s u : St} {B : Nat} (h1 : s.pc = u.pc) (h2 : s.cf = u.cf) (h3 : s.of_ = u.of_) (h4 : s.zf = u.zf) (g4 : u.regs.getD 4 0 = s.regs.getD 4 0) (hb : i.base = B) (gB : u.regs.getD B 0 = s.regs.getD B 0)
    (gX : i.index = -1 ∨ ∃ X : Nat, i.index = X ∧ u.regs.getD X 0 = s.regs.getD X 0) : Like i s u := by
  have hr : ∀ k : Nat, u.regs.getD k 0 = s.regs.getD k 0 → regF s (k : Int) = regF u (k : Int) := fun k hk => by
    unfold regF
    split
    · rfl
    · rw [Int.toNat_natCast]; exact hk.symm
  refine ⟨h1, h2, h3, h4, g4.symm, by rw [hb]; exact hr B gB, ?_⟩
  rcases gX with hx | ⟨X, hx, hq⟩
  · rw [hx]; rfl
  · rw [hx]; exact hr X hq
end Go.Proofs.YtmanhikpccnfaaaGreat

/- keysmithkit.Own, of bytes and of regions. -/
namespace Go.Proofs.YtmanhikpccnfaaaGreat
open Go.RowKit

theorem BytesAt.get {w : World} {F : Nat → Prop} {A : Option Addr} {n c : Nat} {l : List UInt8} (h : BytesAt w F (.slice A n c) l) {q : Nat} {x : UInt8} (hq : l[q]? = some x) :
    ∃ b o, A = some ⟨b, o, none⟩ ∧ F b ∧ w.cell? ⟨b, o + q, none⟩ = some (.int .u8 x.toNat) := by
  obtain ⟨A', c', hv, _, _, hne⟩ := h
  cases hv
  have hr : (l.map fun x => [byteV x])[q]? = some [byteV x] := by rw [List.getElem?_map, hq]; rfl
  obtain ⟨b, o, hA, hF, hc⟩ := hne (fun e => by rw [e] at hr; cases hr)
  have := hc q 0 _ (byteV x) hr rfl
  exact ⟨b, o, hA, hF, by simpa [byteV] using this⟩

theorem append_none {P : Program} (w : World) (t ty e : TypeId) (i : TypeInfo) (ht : P.underlying t = some (.slice e)) (hi : P.info? e = some i) (a : Addr) (c : Nat) :
    (Builtin.append_ #[t, t] ty #[.slice (some a) 0 0, .slice none 0 c]).run P w = .ok (.slice (some a) 0 0) w := by
  simp [Builtin.append_, run_underlying ht, sizeOf, typeInfo, hi, Builtin.lenOf, Builtin.firstCells, storeCells]

theorem rowsBlk_of_own0 {w : World} {base e sz n : Nat} {v : Value} {rows : List (List Value)} (h : w.ownsRow base e sz v n rows.flatten) (hsz : ∀ r ∈ rows, r.length = sz) (hv : v ≠ .slice none 0 0) :
    ∃ g cap, v = .slice (some ⟨g, 0, none⟩) n cap ∧ base ≤ g ∧ n ≤ cap ∧ RowsBlk w g e sz rows := by
  rcases Nat.eq_zero_or_pos rows.length with h0 | hpos
  · obtain rfl := List.eq_nil_of_length_eq_zero h0
    rcases h.2 with ⟨h1, _⟩ | ⟨g, cap, cur, hv, hg, hh, hnc, hcm, hcs, htk⟩
    · exact absurd h1 hv
    · exact ⟨g, cap, hv, hg, hnc, cur, hh, fun i j r u h => by simp at h, fun r h => by simp at h⟩
  · rcases Nat.eq_zero_or_pos n with hn | hn
    · rcases h.2 with ⟨h1, _⟩ | ⟨g, cap, cur, hv, hg, hh, hnc, hcm, hcs, htk⟩
      · exact absurd h1 hv
      · have hl := h.1
        subst hn
        refine ⟨g, cap, hv, hg, hnc, cur, hh, fun i j r u hr hu => ?_, hsz⟩
        have : r ∈ rows := List.mem_of_getElem? hr
        have h0 : rows.flatten = [] := List.eq_nil_of_length_eq_zero (by simpa using hl)
        rw [List.flatten_eq_nil_iff] at h0
        rw [h0 r this] at hu
        simp at hu
    · exact rowsBlk_of_own h hsz hn

set_option maxHeartbeats 400000 in
theorem OwnB_nil (c : Nat) (w : World) :
    Calls Tryz.prog 33 #[.slice none 0 c] w fun e w' => e = .returned (.slice (some ⟨w.heap.size, 0, none⟩) 0 0) ∧ w' = w.alloc (.cells #[] 5) := by
  obtain ⟨i0, hi, hz0, hz1, hz2⟩ := info_parts infoU8
  have h0 := fun (w : World) (a : Addr) => append_none (P := Tryz.prog) w 36 36 5 i0 Tryz.underlying36 hi a c
  clear hz0 hz1 hz2
  go_enter Tryz.func33, Tryz.ntmps33
  go_wp2
  go_ret
  exact ⟨rfl, rfl⟩

set_option maxHeartbeats 400000 in
theorem OwnB_some (ad : Addr) (n c : Nat) (w : World) (news : List Value) (hl : news.length = n * 1) (hc : ∀ (j : Nat) (u : Value), news[j]? = some u → w.cell? (ad.add j) = some u) (h1 : ∀ u ∈ news, u.oneCell' = true) (hn : n ≤ 140737488351232) :
    Calls Tryz.prog 33 #[.slice (some ad) n c] w fun e w' => ∃ v, e = .returned v ∧ w'.ownsRow w.heap.size 5 1 v n news ∧ v ≠ .slice none 0 0 ∧ Below w.heap.size w w' := by
  obtain ⟨i0, hi, hz0, hz1, hz2⟩ := info_parts infoU8
  have hc2 : ∀ (j : Nat) (u : Value), news[j]? = some u → (w.alloc (.cells #[] 5)).cell? (ad.add j) = some u := fun j u hu => by
    have := hc j u hu
    rw [World.cell?_alloc_lt _ _ _ (World.block_lt_of_cell? w _ this)]; exact this
  have HC := Lib.hid hc2
  have HL := Lib.hid hl
  have H1 := Lib.hid h1
  clear hc hc2 hl h1
  go_enter Tryz.func33, Tryz.ntmps33
  go_wp2_with ((at_builtin; refine wpList_append_own_at _ rfl _ _ 36 rfl w.heap.size 5 i0 (.int .u8 0) 1 1 Tryz.underlying36 hi hz0 hz1 hz2 rfl (by decide) _ 0 [] rfl (own_zero w _ _) ad n c news rfl HL.out HC.out H1.out (by unfold maxLen; omega) (by omega) (by simp) ?_); intro v w1 hown hg hnn _; have HNN := Lib.hid hnn; clear hnn)
  go_ret
  exact ⟨v, rfl, by simpa using hown, fun e => (nomatch ((HNN.out.1 e).1)), ((Below.refl _ _).alloc (Nat.le_refl _) _).grown hg (by simp) (fun k hk => Nat.le_of_eq (Option.some.inj hk))⟩

theorem OwnB_blk (v : Value) (w : World) (F : Nat → Prop) (rows : List (List Value)) (hr : Rows w F 1 v rows) (h1 : ∀ u ∈ rows.flatten, u.oneCell' = true) (hn : rows.length ≤ 3518437208000) :
    Calls Tryz.prog 33 #[v] w fun e w' => ∃ g cap, e = .returned (.slice (some ⟨g, 0, none⟩) rows.length cap) ∧ w.heap.size ≤ g ∧ rows.length ≤ cap ∧ RowsBlk w' g 5 1 rows ∧ Below w.heap.size w w' := by
  have hr' := hr
  obtain ⟨A, c, rfl, hc, hl, hne⟩ := hr'
  cases A with
  | none =>
    have h0 : rows = [] := by
      rcases rows with _ | ⟨r, rs⟩
      · rfl
      · obtain ⟨b, off, hA, _⟩ := hne (by simp); cases hA
    subst h0
    refine (OwnB_nil c w).mono ?_
    rintro e w' ⟨rfl, rfl⟩
    exact ⟨_, 0, rfl, Nat.le_refl _, Nat.le_refl _, ⟨#[], heap_alloc_new w _, fun i j r u h => by simp at h, fun r h => by simp at h⟩, (Below.refl _ _).alloc (Nat.le_refl _) _⟩
  | some ad =>
    obtain ⟨hfl, hfc⟩ := hr.flat (by decide)
    refine (OwnB_some ad rows.length c w rows.flatten hfl hfc h1 (by omega)).mono ?_
    rintro e w' ⟨v, rfl, hown, hnn, hb⟩
    obtain ⟨g, cap, rfl, hg, hcap, hrow⟩ := rowsBlk_of_own0 hown hl hnn
    exact ⟨g, cap, rfl, hg, hcap, hrow, hb⟩

set_option maxHeartbeats 400000 in
theorem OwnR_nil (c : Nat) (w : World) :
    Calls Tryz.prog 32 #[.slice none 0 c] w fun e w' => e = .returned (.slice (some ⟨w.heap.size, 0, none⟩) 0 0) ∧ w' = w.alloc (.cells #[] 38) := by
  obtain ⟨i0, hi, hz0, hz1, hz2⟩ := info_parts infoReg
  have h0 := fun (w : World) (a : Addr) => append_none (P := Tryz.prog) w 30 30 38 i0 Tryz.underlying30 hi a c
  clear hz0 hz1 hz2
  go_enter Tryz.func32, Tryz.ntmps32
  go_wp2
  go_ret
  exact ⟨rfl, rfl⟩

set_option maxHeartbeats 400000 in
theorem OwnR_some (ad : Addr) (n c : Nat) (w : World) (news : List Value) (hl : news.length = n * 3) (hc : ∀ (j : Nat) (u : Value), news[j]? = some u → w.cell? (ad.add j) = some u) (h1 : ∀ u ∈ news, u.oneCell' = true) (hn : n ≤ 3518437208000) :
    Calls Tryz.prog 32 #[.slice (some ad) n c] w fun e w' => ∃ v, e = .returned v ∧ w'.ownsRow w.heap.size 38 3 v n news ∧ v ≠ .slice none 0 0 ∧ Below w.heap.size w w' := by
  obtain ⟨i0, hi, hz0, hz1, hz2⟩ := info_parts infoReg
  have hc2 : ∀ (j : Nat) (u : Value), news[j]? = some u → (w.alloc (.cells #[] 38)).cell? (ad.add j) = some u := fun j u hu => by
    have := hc j u hu
    rw [World.cell?_alloc_lt _ _ _ (World.block_lt_of_cell? w _ this)]; exact this
  have HC := Lib.hid hc2
  have HL := Lib.hid hl
  have H1 := Lib.hid h1
  clear hc hc2 hl h1
  go_enter Tryz.func32, Tryz.ntmps32
  go_wp2_with ((at_builtin; refine wpList_append_own_at _ rfl _ _ 30 rfl w.heap.size 38 i0 (.agg #[.int .u64 0, .slice none 0 0, .bool false]) 3 40 Tryz.underlying30 hi hz0 hz1 hz2 rfl (by decide) _ 0 [] rfl (own_zero w _ _) ad n c news rfl HL.out HC.out H1.out (by unfold maxLen; omega) (by omega) (by simp) ?_); intro v w1 hown hg hnn _; have HNN := Lib.hid hnn; clear hnn)
  go_ret
  exact ⟨v, rfl, by simpa using hown, fun e => (nomatch ((HNN.out.1 e).1)), ((Below.refl _ _).alloc (Nat.le_refl _) _).grown hg (by simp) (fun k hk => Nat.le_of_eq (Option.some.inj hk))⟩

theorem OwnR_blk (v : Value) (w : World) (F : Nat → Prop) (rows : List (List Value)) (hr : Rows w F 3 v rows) (h1 : ∀ u ∈ rows.flatten, u.oneCell' = true) (hn : rows.length ≤ 3518437208000) :
    Calls Tryz.prog 32 #[v] w fun e w' => ∃ g cap, e = .returned (.slice (some ⟨g, 0, none⟩) rows.length cap) ∧ w.heap.size ≤ g ∧ rows.length ≤ cap ∧ RowsBlk w' g 38 3 rows ∧ Below w.heap.size w w' := by
  have hr' := hr
  obtain ⟨A, c, rfl, hc, hl, hne⟩ := hr'
  cases A with
  | none =>
    have h0 : rows = [] := by
      rcases rows with _ | ⟨r, rs⟩
      · rfl
      · obtain ⟨b, off, hA, _⟩ := hne (by simp); cases hA
    subst h0
    refine (OwnR_nil c w).mono ?_
    rintro e w' ⟨rfl, rfl⟩
    exact ⟨_, 0, rfl, Nat.le_refl _, Nat.le_refl _, ⟨#[], heap_alloc_new w _, fun i j r u h => by simp at h, fun r h => by simp at h⟩, (Below.refl _ _).alloc (Nat.le_refl _) _⟩
  | some ad =>
    obtain ⟨hfl, hfc⟩ := hr.flat (by decide)
    refine (OwnR_some ad rows.length c w rows.flatten hfl hfc h1 (by omega)).mono ?_
    rintro e w' ⟨v, rfl, hown, hnn, hb⟩
    obtain ⟨g, cap, rfl, hg, hcap, hrow⟩ := rowsBlk_of_own0 hown hl hnn
    exact ⟨g, cap, rfl, hg, hcap, hrow, hb⟩


set_option maxRecDepth 100000 in
set_option maxHeartbeats 800000 in
theorem OwnRegions_any (v : Value) (w : World) (F : Nat → Prop) (l : List Reg) (hl : RegsAt w F v l) (hF : ∀ k, F k → k < w.heap.size) (h8 : l.length ≤ 3518437208000) (hb : ∀ r ∈ l, r.bytes.length ≤ 1048576) :
    Calls Tryz.prog 9 #[v] w fun e w' => ∃ v', e = .returned v' ∧ RegsOwn w' (seg w.heap.size w'.heap.size) v' l ∧ Below w.heap.size w w' := by
  obtain ⟨P, hP, hrows, hsrc⟩ := hl
  have hpl : P.length = l.length := by rw [← hP]; simp
  have HC := Lib.hid (OwnR_blk v w F (P.map fun x => entRow x.2) hrows (entRows_one P) (by simp; omega))
  obtain ⟨A, c, hv, hc, hlen3, hne⟩ := hrows
  subst hP
  have HSRC := Lib.hid hsrc
  have HF := Lib.hid hF
  have HB := Lib.hid hb
  simp only [List.length_map] at hv h8
  subst hv
  clear hsrc hlen3 hne hb hF hc
  simp only [List.length_map] at HC
  generalize hn : P.length = n at *
  have HN := Lib.hid hn
  clear hn hpl
  go_enter Tryz.func9, Tryz.ntmps9
  go_wp2_with ((with_reducible refine (HC.out).mono ?_); rintro e w1 ⟨g, cap, rfl, hg, hcap, hrow, hb1⟩)
  have HROW := Lib.hid hrow
  have HB1 := Lib.hid hb1
  clear hrow hb1 HC
  go_loopg [4] n (fun gg i wr => ∃ (k : Nat) (P1 P2 : List (Reg × Ent)), P1.length = k ∧ k ≤ n ∧ gg = n - k ∧ i = .int .i64 k ∧ (P1 ++ P2).map (·.1) = P.map (·.1) ∧ Below w.heap.size w wr ∧ RowsBlk wr g 38 3 ((P1 ++ P2).map fun x => entRow x.2) ∧
      (∀ x ∈ P1, EntOwn wr (seg w.heap.size wr.heap.size) x.1 x.2) ∧ (P1.map (·.2.ad)).Nodup ∧ (∀ x ∈ P2, EntSrc w F x.1 x.2))
  case atStart => exact ⟨0, [], P, rfl, by omega, rfl, rfl, rfl, HB1.out, HROW.out, by simp, by simp, HSRC.out⟩
  case round =>
    obtain ⟨k, P1, P2, hk1, hk, hgg, rfl, hfst, hbl, hrw, hown, hnd, hsrc⟩ := hrel
    have hg1 := Nat.le_of_eq hgg
    have hg2 := Nat.le_of_eq hgg.symm
    have hlen : (P1 ++ P2).length = n := by have := congrArg List.length hfst; have := HN.out; simp at *; omega
    have HFST := Lib.hid hfst
    have HBL := Lib.hid hbl
    have HRW := Lib.hid hrw
    have HOWN := Lib.hid hown
    have HND := Lib.hid hnd
    have HSRC2 := Lib.hid hsrc
    have HK1 := Lib.hid hk1
    have HLEN := Lib.hid hlen
    clear hfst hbl hrw hown hnd hsrc hk1 hlen HSRC HROW HB1 hgg
    by_cases hlt : k < n
    · obtain ⟨x, P2', rfl⟩ : ∃ x P2', P2 = x :: P2' := by
        cases P2 with
        | nil => have := HLEN.out; have := HK1.out; simp at *; omega
        | cons x P2' => exact ⟨x, P2', rfl⟩
      have hx := HSRC2.out x (List.mem_cons_self ..)
      have hxl := HB.out x.1 (by
        have h1 : x.1 ∈ (P1 ++ x :: P2').map (·.1) := by simp
        rw [HFST.out] at h1; exact h1)
      have hri : ((P1 ++ x :: P2').map fun x => entRow x.2)[k]? = some (entRow x.2) := by
        rw [List.getElem?_map, List.getElem?_append_right (by have := HK1.out; omega), show k - P1.length = 0 from by have := HK1.out; omega]; rfl
      have hcell : wr.cell? ⟨g, k * 3 + 1, none⟩ = some (.slice x.2.ad x.2.n x.2.c) := HRW.out.cell hri (j := 1) (by rfl)
      have hgl := HRW.out.lt
      have HX := Lib.hid hx
      have HRI := Lib.hid hri
      have HCB := Lib.hid (OwnB_blk (.slice x.2.ad x.2.n x.2.c) wr F (byteRows x.1.bytes) (hx.bytes.keep (SameOn.of_below HBL.out HF.out)) (byteRows_one _) (by simp [byteRows]; omega))
      clear hx hxl hri
      have i0 : (0 : Int) ≤ (k : Int) := by omega
      have i1 : (k : Int) < (n : Int) := by omega
      go_wp2_with ((with_reducible refine (HCB.out).mono ?_); rintro e w2 ⟨bb, cap2, rfl, hbb, hcap2, hrow2, hb2⟩; have hcell2 := (hb2.cell (p := ⟨g, k * 3 + 1, none⟩) hgl).trans hcell; have hfr2 := (HRW.out.keep (hb2.block g hgl)).frozen (k * 3 + 1); have HR2 := Lib.hid hrow2; have HC2 := Lib.hid hcap2; have HB2 := Lib.hid hb2; clear hrow2 hcap2 hb2 hcell)
      go_roundg (n - (k + 1))
      case measure => omega
      case rel =>
        have hx := HX.out
        refine ⟨k + 1, P1 ++ [(x.1, ⟨x.2.key, some ⟨bb, 0, none⟩, (byteRows x.1.bytes).length, cap2, x.2.wr⟩)], P2', by have := HK1.out; simp; omega, by omega, rfl, by go_num, ?_, ?_, ?_, ?_, ?_, fun y hy => HSRC2.out y (List.mem_cons_of_mem _ hy)⟩
        · rw [← HFST.out]; simp
        · exact (HBL.out.trans (HB2.out.mono HBL.out.size)).setCell hg _
        · rw [← set_mid P1 P2' x HK1.out]
          exact (HRW.out.keep (HB2.out.block g hgl)).set_ HRI.out (j := 1) (by decide) _
        · intro y hy
          have hsz : (w2.setCell ⟨g, k * 3 + 1, none⟩ (.slice (some ⟨bb, 0, none⟩) (byteRows x.1.bytes).length cap2)).heap.size = w2.heap.size := by simp [World.setCell]
          have hw2 := HB2.out.size
          have hwr := HBL.out.size
          rcases List.mem_append.1 hy with hy | hy
          · refine (HOWN.out y hy).keep2 HRW.out (by decide) (fun q hq hne => (Below.heap_setCell _ _ _ _ hne).trans (HB2.out.block q hq)) (fun q hq hlq => ⟨hq.1, ?_⟩)
            rw [hsz]; omega
          · simp only [List.mem_singleton] at hy
            subst hy
            have hbbne : bb ≠ g := by omega
            refine ⟨hx.key, by simp [byteRows], hx.wr, HC2.out, bb, rfl, ⟨by omega, by rw [hsz]; exact HR2.out.lt⟩, HR2.out.keep (Below.heap_setCell _ _ _ _ hbbne)⟩
        · exact ad_new HOWN.out HND.out hbb _ rfl
    · obtain rfl : P2 = [] := by
        have h1 := HLEN.out; have h2 := HK1.out
        cases P2 with
        | nil => rfl
        | cons => simp at h1; omega
      go_wp2
      go_ret
      have h1 := HFST.out
      have h2 := HRW.out
      have h3 := HN.out
      rw [List.append_nil] at h1 h2
      exact ⟨_, rfl, ⟨_, cap, P1, by simp [h3], by simp [h3]; exact hcap, h1, HOWN.out, HND.out, fun _ => ⟨g, rfl, ⟨hg, h2.lt⟩, h2⟩⟩, HBL.out⟩
end Go.Proofs.YtmanhikpccnfaaaGreat

/- A region's bytes are turned in place, among regions of one's own. -/
namespace Go.Proofs.YtmanhikpccnfaaaGreat
open Go.RowKit

theorem RegsOwn.put {w w' : World} {F : Nat → Prop} {A : Option Addr} {n c i bb g cc m : Nat} {l : List Reg} {r : Reg} {b : List UInt8} (h : RegsOwn w F (.slice A n c) l) (hr : l[i]? = some r) (hA2 : A = some ⟨g, 0, none⟩)
    (hc2 : w.cell? ⟨g, i * 3 + 1, none⟩ = some (.slice (some ⟨bb, 0, none⟩) m cc)) (hch : Chg (· = bb) w w') (hrow : RowsBlk w' bb 5 1 (byteRows b)) (hb : b.length = r.bytes.length) : RegsOwn w' F (.slice A n c) (l.set i { r with bytes := b }) := by
  obtain ⟨A', c', P, hv, hlc, hfst, hent, hnd, hblk2⟩ := h
  cases hv
  have hne : l ≠ [] := fun e => by rw [e] at hr; cases hr
  obtain ⟨g', hA, hFg, hrows⟩ := hblk2 hne
  rw [hA] at hA2
  cases hA2
  have hri := hr
  rw [← hfst, List.getElem?_map] at hri
  cases hpk : P[i]? with
  | none => rw [hpk] at hri; cases hri
  | some x =>
    rw [hpk] at hri
    cases hri
    have hx := hent x (List.mem_of_getElem? hpk)
    have hrowi : (P.map fun x => entRow x.2)[i]? = some (entRow x.2) := by rw [List.getElem?_map, hpk]; rfl
    have hc3 := hrows.cell hrowi (j := 1) (by rfl)
    rw [hc3] at hc2
    have had : x.2.ad = some ⟨bb, 0, none⟩ := by injection hc2 with h1; injection h1
    obtain ⟨bb', hb1, hb2, hb3⟩ := hx.blk
    rw [had] at hb1
    cases hb1
    obtain ⟨hil, hpi⟩ := List.getElem?_eq_some_iff.1 hpk
    have hgl := hrows.lt
    have hgb : g ≠ bb := hrows.ne hb3 (by decide)
    have hsnd : (P.set i ({ x.1 with bytes := b }, x.2)).map (·.2) = P.map (·.2) := by
      rw [List.map_set]
      refine List.ext_getElem? fun q => ?_
      by_cases hq : i = q
      · subst hq
        rw [List.getElem?_set_self (by simpa using hil), List.getElem?_map, hpk]; rfl
      · rw [List.getElem?_set_ne hq]
    have h2 : ∀ {β : Type} (f : Ent → β), (P.set i ({ x.1 with bytes := b }, x.2)).map (fun x => f x.2) = P.map fun x => f x.2 := fun f => by
      have := congrArg (List.map f) hsnd
      simpa [List.map_map, Function.comp_def] using this
    refine ⟨some ⟨g, 0, none⟩, c, P.set i ({ x.1 with bytes := b }, x.2), by rw [hA]; simp, by simpa using hlc, ?_, ?_, ?_, ?_⟩
    · rw [List.map_set, hfst]
    · intro y hy
      obtain ⟨q, hq⟩ := List.mem_iff_getElem?.1 hy
      by_cases hqi : i = q
      · subst hqi
        rw [List.getElem?_set_self hil] at hq
        cases hq
        exact ⟨hx.key, by rw [hx.n]; exact hb.symm, hx.wr, hx.cap, bb, had, hb2, hrow⟩
      · rw [List.getElem?_set_ne hqi] at hq
        have hy' := hent y (List.mem_of_getElem? hq)
        obtain ⟨by_, a1, a2, a3⟩ := hy'.blk
        have hne2 : by_ ≠ bb := by
          rintro rfl
          obtain ⟨hql, hpq⟩ := List.getElem?_eq_some_iff.1 hq
          have h3 := List.pairwise_iff_getElem.1 hnd
          rcases Nat.lt_or_gt_of_ne hqi with hlt | hlt
          · exact h3 i q (by simpa using hil) (by simpa using hql) hlt (by simp only [List.getElem_map]; rw [hpi, hpq, had, a1])
          · exact h3 q i (by simpa using hql) (by simpa using hil) hlt (by simp only [List.getElem_map]; rw [hpi, hpq, had, a1])
        exact ⟨hy'.key, hy'.n, hy'.wr, hy'.cap, by_, a1, a2, a3.keep (hch.block by_ a3.lt hne2)⟩
    · rw [h2 (·.ad)]; exact hnd
    · intro _
      refine ⟨g, rfl, hFg, ?_⟩
      rw [h2 entRow]
      exact hrows.keep (hch.block g hgl hgb)

/-- One byte is stored. -/
theorem RegsOwn.put1 {w : World} {F : Nat → Prop} {A : Option Addr} {n c i bb g cc m q : Nat} {l : List Reg} {r : Reg} (h : RegsOwn w F (.slice A n c) l) (hr : l[i]? = some r) (hA2 : A = some ⟨g, 0, none⟩)
    (hc2 : w.cell? ⟨g, i * 3 + 1, none⟩ = some (.slice (some ⟨bb, 0, none⟩) m cc)) (hrow : RowsBlk w bb 5 1 (byteRows r.bytes)) (hq : q < r.bytes.length) (x : UInt8) :
    RegsOwn (w.setCell ⟨bb, q, none⟩ (byteV x)) F (.slice A n c) (l.set i { r with bytes := r.bytes.set q x }) := by
  obtain ⟨y, hy⟩ := byteRows_at hq
  refine h.put hr hA2 hc2 (Chg.setCell (Chg.refl (· = bb) w) (p := ⟨bb, q, none⟩) (.inl rfl) _) ?_ (by simp)
  have := hrow.set_ hy (j := 0) (by decide) (byteV x)
  rw [byteRows_set]
  simpa using this
end Go.Proofs.YtmanhikpccnfaaaGreat

/- keysmithlaw08.StepSeen: words for its walk. -/
namespace Go.Proofs.YtmanhikpccnfaaaGreat
open Go.RowKit

theorem chk_places {i : Ins} (hc : chkP i = true) : ∃ B : Nat, i.base = B ∧ B < 16 ∧ (i.index = -1 ∨ ∃ X : Nat, i.index = X ∧ X < 16) := by
  by_cases hb : hasB (formF i.op).is 8 = true
  · exact place_two (place_of hc hb)
  · have h := hc
    simp only [chkP, Bool.and_eq_true] at h
    have h2 := h.2.1
    rw [if_neg hb] at h2
    simp only [noPlace, Bool.and_eq_true, decide_eq_true_eq] at h2
    exact ⟨0, by omega, by decide, .inr ⟨0, by omega, by decide⟩⟩

/-- A state in block g that alone is changed. -/
structure One (wf w : World) (g : Nat) (t : St) : Prop where
  at_ : w.heap[g]? = some (.cells (stRow t).toArray 25 (0, 0))
  ok : StOk t
  size : w.heap.size = wf.heap.size
  other : ∀ k, k ≠ g → w.heap[k]? = wf.heap[k]?
  below : ∀ b, b ≤ g → Below b wf w
theorem One.refl {w : World} {g : Nat} {t : St} (h : w.heap[g]? = some (.cells (stRow t).toArray 25 (0, 0))) (ht : StOk t) : One w w g t := ⟨h, ht, rfl, fun _ _ => rfl, fun b _ => Below.refl b w⟩
theorem One.cast {wf w w' : World} {g : Nat} {t : St} (h : One wf w g t) (e : w' = w) : One wf w' g t := e ▸ h
theorem One.drew {wf w : World} {g : Nat} {t : St} (h : One wf w g t) : One wf w.drew g t := ⟨h.at_, h.ok, h.size, h.other, fun b hb => (h.below b hb).drew⟩
theorem One.cell {wf w : World} {g k : Nat} {t : St} {v : Value} (h : One wf w g t) (hv : (stRow t)[k]? = some v) : w.cell? ⟨g, k, none⟩ = some v := by
  simp only [World.cell?, h.at_]
  simpa using hv
theorem One.far {wf w : World} {g j k : Nat} {t : St} {v : Value} (h : One wf w g t) (hj : j ≠ g) (hv : wf.cell? ⟨j, k, none⟩ = some v) : w.cell? ⟨j, k, none⟩ = some v := by
  rw [← hv]
  simp only [World.cell?, h.other j hj]
theorem One.frozen {wf w : World} {g k : Nat} {t : St} (h : One wf w g t) : w.frozen? ⟨g, k, none⟩ = false := by
  simp [World.frozen?, h.at_]
theorem One.setCell {wf w : World} {g : Nat} {t t' : St} (h : One wf w g t) (k : Nat) (v : Value) (hv : (stRow t).set k v = stRow t') (ht : StOk t') : One wf (w.setCell ⟨g, k, none⟩ v) g t' := by
  refine ⟨?_, ht, by rw [← h.size]; simp [World.setCell], fun j hj => (Below.heap_setCell _ _ _ _ hj).trans (h.other j hj), fun b hb => (h.below b hb).setCell hb _⟩
  rw [World.setCell, ← hv]
  simp only [Array.getElem?_modify, if_pos, h.at_, Option.map_some]
  simp

theorem stRow_pc {s : St} (h : s.regs.length = 16) : (stRow s)[16]? = some (.int .u64 s.pc) := by
  rw [stRow, List.getElem?_append_right (by simp [h])]; simp [h]
theorem set_tail {t : St} (h : t.regs.length = 16) (k : Nat) (v : Value) : (stRow t).set (16 + k) v = t.regs.map (fun r => Value.int .u64 (r : Nat)) ++ [Value.int .u64 t.pc, .bool t.cf, .bool t.of_, .bool t.zf].set k v := by
  rw [stRow, List.set_append_right _ _ (by simp [h])]
  simp [h]
theorem row_pc {t : St} {n : Nat} (h : t.regs.length = 16) : (stRow t).set 16 (.int .u64 (n : Nat)) = stRow { t with pc := n } := set_tail h 0 _
theorem row_cf {t : St} {b : Bool} (h : t.regs.length = 16) : (stRow t).set 17 (.bool b) = stRow { t with cf := b } := set_tail h 1 _
theorem row_of {t : St} {b : Bool} (h : t.regs.length = 16) : (stRow t).set 18 (.bool b) = stRow { t with of_ := b } := set_tail h 2 _
theorem row_zf {t : St} {b : Bool} (h : t.regs.length = 16) : (stRow t).set 19 (.bool b) = stRow { t with zf := b } := set_tail h 3 _
theorem three_boxes (w : World) (s t : St) (i : Ins) : ∃ W, W = ((w.alloc (.cells (stRow s).toArray 25)).alloc (.cells (stRow t).toArray 25)).alloc (.cells (insRow i).toArray 29) ∧ Below w.heap.size w W ∧ W.heap.size = w.heap.size + 1 + 1 + 1 ∧
    W.heap[w.heap.size]? = some (.cells (stRow s).toArray 25 (0, 0)) ∧ W.heap[w.heap.size + 1]? = some (.cells (stRow t).toArray 25 (0, 0)) ∧ W.heap[w.heap.size + 1 + 1]? = some (.cells (insRow i).toArray 29 (0, 0)) := by
  obtain ⟨W0, h0, hb, hz, g0, g1⟩ : ∃ W, W = (w.alloc (.cells (stRow s).toArray 25)).alloc (.cells (stRow t).toArray 25) ∧ Below w.heap.size w W ∧ W.heap.size = w.heap.size + 1 + 1 ∧
      W.heap[w.heap.size]? = some (.cells (stRow s).toArray 25 (0, 0)) ∧ W.heap[w.heap.size + 1]? = some (.cells (stRow t).toArray 25 (0, 0)) := by
    have z1 : (w.alloc (.cells (stRow s).toArray 25)).heap.size = w.heap.size + 1 := by simp
    refine ⟨_, rfl, ((Below.refl _ _).alloc (Nat.le_refl _) _).alloc (by simp) _, by simp, ?_, ?_⟩
    · exact (Below.heap_alloc _ _ _ (by omega)).trans (heap_alloc_new w _)
    · rw [← z1]; exact heap_alloc_new _ _
  refine ⟨_, by rw [← h0], hb.alloc (by omega) _, by simp [hz], (Below.heap_alloc _ _ _ (by omega)).trans g0, (Below.heap_alloc _ _ _ (by omega)).trans g1, ?_⟩
  rw [← hz]
  exact heap_alloc_new _ _

/-- Where the second state is set. -/
structure Mid (w wx : World) (s tt : St) (i : Ins) : Prop where
  below : Below w.heap.size w wx
  b0 : wx.heap[w.heap.size]? = some (.cells (stRow s).toArray 25 (0, 0))
  b1 : wx.heap[w.heap.size + 1]? = some (.cells (stRow tt).toArray 25 (0, 0))
  b2 : wx.heap[w.heap.size + 1 + 1]? = some (.cells (insRow i).toArray 29 (0, 0))
  ok : StOk tt
  like : Like i s tt
theorem mid_of {w W w3 wx : World} {s tt : St} {i : Ins} (hbW : Below w.heap.size w W) (hb3 : Below W.heap.size W w3)
    (ks : w3.heap[w.heap.size]? = some (.cells (stRow s).toArray 25 (0, 0))) (ki : w3.heap[w.heap.size + 1 + 1]? = some (.cells (insRow i).toArray 29 (0, 0)))
    (ho : One w3 wx (w.heap.size + 1) tt) (hl : Like i s tt) : Mid w wx s tt i :=
  ⟨(hbW.trans (hb3.mono hbW.size)).trans (ho.below w.heap.size (by omega)), (ho.other _ (by omega)).trans ks, ho.at_, (ho.other _ (by omega)).trans ki, ho.ok, hl⟩

theorem set_getD {s t t' : St} {k q : Nat} (h : t' = { t with regs := t.regs.set k q } ∧ s.regs[k]? = some q) (hl : t.regs.length = 16) (hk : k < 16) :
    t'.regs.length = 16 ∧ ∀ j, (j = k ∨ t.regs.getD j 0 = s.regs.getD j 0) → t'.regs.getD j 0 = s.regs.getD j 0 := by
  obtain ⟨rfl, hq⟩ := h
  refine ⟨by simpa using hl, fun j hj => ?_⟩
  have e : q = s.regs.getD k 0 := by rw [List.getD_eq_getElem?_getD, hq]; rfl
  subst e
  exact agree_set (by omega) hj
theorem like7 {i : Ins} {s t t5 t6 t7 : St} {B a4 aB : Nat} (h5 : t5 = { t with pc := s.pc, cf := s.cf, of_ := s.of_, zf := s.zf }) (h6 : t6 = { t5 with regs := t5.regs.set 4 a4 } ∧ s.regs[4]? = some a4) (h7 : t7 = { t6 with regs := t6.regs.set B aB } ∧ s.regs[B]? = some aB)
    (hl : t.regs.length = 16) (hb : i.base = B) (hB : B < 16) (hx : i.index = -1) : Like i s t7 := by
  have l5 : t5.regs.length = 16 := by rw [h5]; exact hl
  obtain ⟨l6, g6⟩ := set_getD h6 l5 (by decide)
  obtain ⟨_, g7⟩ := set_getD h7 l6 hB
  exact like_regs (by rw [h7.1, h6.1, h5]) (by rw [h7.1, h6.1, h5]) (by rw [h7.1, h6.1, h5]) (by rw [h7.1, h6.1, h5]) (g7 4 (.inr (g6 4 (.inl rfl)))) hb (g7 B (.inl rfl)) (.inl hx)
theorem like8 {i : Ins} {s t t5 t6 t7 t8 : St} {B X a4 aB aX : Nat} (h5 : t5 = { t with pc := s.pc, cf := s.cf, of_ := s.of_, zf := s.zf }) (h6 : t6 = { t5 with regs := t5.regs.set 4 a4 } ∧ s.regs[4]? = some a4) (h7 : t7 = { t6 with regs := t6.regs.set B aB } ∧ s.regs[B]? = some aB)
    (h8 : t8 = { t7 with regs := t7.regs.set X aX } ∧ s.regs[X]? = some aX) (hl : t.regs.length = 16) (hb : i.base = B) (hB : B < 16) (hx : i.index = X) (hX : X < 16) : Like i s t8 := by
  have l5 : t5.regs.length = 16 := by rw [h5]; exact hl
  obtain ⟨l6, g6⟩ := set_getD h6 l5 (by decide)
  obtain ⟨l7, g7⟩ := set_getD h7 l6 hB
  obtain ⟨_, g8⟩ := set_getD h8 l7 hX
  exact like_regs (by rw [h8.1, h7.1, h6.1, h5]) (by rw [h8.1, h7.1, h6.1, h5]) (by rw [h8.1, h7.1, h6.1, h5]) (by rw [h8.1, h7.1, h6.1, h5]) (g8 4 (.inr (g7 4 (.inr (g6 4 (.inl rfl)))))) hb (g8 B (.inr (g7 B (.inl rfl)))) (.inr ⟨X, hx, g8 X (.inl rfl)⟩)

theorem RegsOwn.val8 {w : World} {F : Nat → Prop} {v : Value} {l : List Reg} {a : Addr} {x : UInt8} {u : Int} (h : RegsOwn (w.setCell a (byteV x)) F v l) (hu : u = (x.toNat : Int)) : RegsOwn (w.setCell a (.int .u8 u)) F v l := by
  subst hu; exact h
theorem RegsOwn.drew_ {w : World} {F : Nat → Prop} {v : Value} {l : List Reg} (h : RegsOwn w F v l) : RegsOwn w.drew F v l := h.keep fun _ _ => rfl
theorem byte_ofNat (a x : Nat) : ((a : Int) + (x : Int)) % 256 = ((UInt8.ofNat (a + x)).toNat : Int) := by
  rw [UInt8.toNat_ofNat']; omega

theorem light_len {l : List Reg} (h : lightR l = true) : l.length ≤ 10 ∧ ∀ r ∈ l, r.bytes.length ≤ 300 := by
  simp only [lightR, Bool.and_eq_true, decide_eq_true_eq, List.all_eq_true] at h
  refine ⟨h.2, fun r hr => h.1 r ?_⟩
  rw [List.take_of_length_le (by omega)]
  exact hr
theorem regs_base {w : World} {F : Nat → Prop} {v : Value} {l : List Reg} (h : RegsAt w F v l) : ∀ r ∈ l, r.base < 18446744073709551616 := by
  obtain ⟨P, rfl, _, hs⟩ := h
  intro r hr
  obtain ⟨x, hx, rfl⟩ := List.mem_map.1 hr
  exact (hs x hx).base64
theorem sh_mem {l l' : List Reg} (h : l'.map shR = l.map shR) {r' : Reg} (hr : r' ∈ l') : ∃ r ∈ l, r'.base = r.base ∧ r'.bytes.length = r.bytes.length := by
  have h1 : shR r' ∈ l.map shR := by rw [← h]; exact List.mem_map_of_mem hr
  obtain ⟨r, hr1, e⟩ := List.mem_map.1 h1
  simp only [shR, Prod.mk.injEq] at e
  exact ⟨r, hr1, e.1.symm, e.2.1.symm⟩
theorem sh_set {l : List Reg} {k q : Nat} {r : Reg} (hr : l[k]? = some r) (y : UInt8) : (l.set k { r with bytes := r.bytes.set q y }).map shR = l.map shR := by
  obtain ⟨hk, rfl⟩ := List.getElem?_eq_some_iff.1 hr
  refine List.ext_getElem? fun j => ?_
  rw [List.getElem?_map, List.getElem?_map, List.getElem?_set]
  split
  · rename_i e
    subst e
    (try rw [if_pos hk])
    rw [List.getElem?_eq_getElem hk]
    simp [shR]
  · rfl
theorem SeenAs.one_ {op : Int} {s : St} {R Q : StepR} (h : SeenAs op s R Q) (hc : R.code = 0) (hm : seenM op = false) (hj : seenJ op = false) : R.evs = [⟨1, s.pc⟩] := by
  have h1 := h.len hc
  have h2 := h.first hc
  rw [hm, hj] at h1
  match he : R.evs, h1, h2 with
  | [x], _, h2 => simp at h2; rw [h2]
theorem SeenAs.mem_ {op : Int} {s : St} {R Q : StepR} (h : SeenAs op s R Q) (hc : R.code = 0) (hm : seenM op = true) : ∃ e, R.evs = [⟨1, s.pc⟩, e] := by
  have h1 := h.len hc
  have h2 := h.first hc
  rw [hm] at h1
  match he : R.evs, h1, h2 with
  | [x, y], _, h2 => simp at h2; exact ⟨y, by rw [h2]⟩
theorem SeenAs.jmp_ {op : Int} {s : St} {R Q : StepR} (h : SeenAs op s R Q) (hc : R.code = 0) (hj : seenJ op = true) : R.evs = [⟨1, s.pc⟩, ⟨4, R.st.pc⟩] := by
  have h1 := h.len hc
  have h2 := h.first hc
  have h3 := h.jump hc hj
  rw [hj, Bool.or_true] at h1
  match he : R.evs, h1, h2, h3 with
  | [x, y], _, h2, h3 => simp at h2 h3; rw [h2, h3]
theorem seen_mj {op : Int} (h : seenM op = true) : seenJ op = false := by
  simp only [seenM, seenJ, Bool.or_eq_true, beq_iff_eq, Bool.or_eq_false_iff, beq_eq_false_iff_ne] at h ⊢
  omega
theorem jumpR_seen {i : Ins} (hc : chkP i = true) : jumpR i = seenJ i.op := by
  unfold jumpR seenJ; rw [hc]; rfl
end Go.Proofs.YtmanhikpccnfaaaGreat

/- keysmithlaw08.StepSeen: its last region. -/
namespace Go.Proofs.YtmanhikpccnfaaaGreat
open Go.RowKit

/-- The region of a number in a text. -/
def findR (n : Nat) : Code → Option Code
  | .region id ops d => if id = n then some (.region id ops d) else none
  | .seq a b => match findR n a with
    | some c => some c
    | none => findR n b
  | .cond _ a b => match findR n a with
    | some c => some c
    | none => findR n b
  | .block _ c => findR n c
  | .loop c => findR n c
  | .scope c => findR n c
  | .rangeFunc _ _ a b => match findR n a with
    | some c => some c
    | none => findR n b
  | _ => none
theorem wp_code {P : Program} {c d : Code} {Q : Exit → Act → World → Prop} {a : Act} {w : World} (h : c = d) (k : c.wp P Q a w) : d.wp P Q a w := h ▸ k
noncomputable def seenR32 : Code := ((Tryz.f3.body.bind (findR 32)).getD .skip)
noncomputable def seenR28 : Code := ((Tryz.f3.body.bind (findR 28)).getD .skip)

set_option maxRecDepth 100000 in
set_option maxHeartbeats 40000000 in
theorem seen_mem (i : Ins) (q : Bool) (hq : seenM i.op = q) (bi : Nat) (wz : World) (Q : Exit → Act → World → Prop) (u0 u1 u2 u3 u4 u5 u6 u8 u9 u10 u11 u12 u13 u14 u15 u16 u17 u18 u19 u20 u21 u22 u23 u24 u25 u26 u27 u28 u29 u30 u31 u32 u33 u34 u35 u36 u37 u38 u39 u40 u41 u42 u43 u44 u45 u46 u47 u48 u49 u50 u51 u52 u53 u54 u55 u56 u57 u58 u59 u60 u61 u62 u63 u64 u65 u66 u67 u68 u69 u70 u71 u72 u73 u74 u75 u76 u77 u78 u79 u80 u81 u82 u83 u84 u85 u86 u87 u88 u89 u90 u91 u92 u93 u94 u95 u96 u97 u98 u99 u100 u101 u102 u103 u104 u105 u106 u107 u108 u109 u110 u111 u112 u113 u114 u115 u116 u117 u118 u119 u120 u121 u122 u123 u124 u125 u126 u127 u128 u129 u130 u131 u132 u133 u134 u135 u136 u137 u138 u139 u140 u141 u142 u143 u144 u145 u146 u147 u148 u149 u150 u151 u152 u153 u154 u155 u156 u157 u158 u159 u160 u161 u162 u163 u164 u165 u166 u167 u168 u169 u170 u171 u172 u173 u174 u175 u176 u177 u178 u179 u180 u181 u182 u183 u184 u185 u186 u187 u188 u189 u190 u191 u192 u193 u194 u195 u196 u197 u198 u199 u200 u201 u202 u203 u204 u205 u206 u207 u208 u209 u210 u211 u212 u213 u214 u215 u216 u217 u218 u219 u220 u221 u222 u223 u224 u225 u226 u227 u228 u229 u230 u231 u232 u233 u234 u235 u236 u237 : Value)
    (KI : wz.heap[bi]? = some (.cells (insRow i).toArray 29 (0, 0)))
    (k : ∀ (v176 v177 v178 v179 v180 v181 v182 v183 v184 v185 v186 v187 v188 v189 v190 v191 v192 v193 : Value), Q .normal ⟨#[u0, u1, u2, u3, u4, u5, u6, .pointer (some ⟨bi, 0, none⟩), u8, u9, u10, u11, u12, u13, u14, u15, u16, u17, u18, u19, u20, u21, u22, u23, .bool q, u25, u26, u27, u28, u29, u30, u31, u32, u33, u34, u35, u36, u37, u38, u39, u40, u41, u42, u43, u44, u45, u46, u47, u48, u49, u50, u51, u52, u53, u54, u55, u56, u57, u58, u59, u60, u61, u62, u63, u64, u65, u66, u67, u68, u69, u70, u71, u72, u73, u74, u75, u76, u77, u78, u79, u80, u81, u82, u83, u84, u85, u86, u87, u88, u89, u90, u91, u92, u93, u94, u95, u96, u97, u98, u99, u100, u101, u102, u103, u104, u105, u106, u107, u108, u109, u110, u111, u112, u113, u114, u115, u116, u117, u118, u119, u120, u121, u122, u123, u124, u125, u126, u127, u128, u129, u130, u131, u132, u133, u134, u135, u136, u137, u138, u139, u140, u141, u142, u143, u144, u145, u146, u147, u148, u149, u150, u151, u152, u153, u154, u155, u156, u157, u158, u159, u160, u161, u162, u163, u164, u165, u166, u167, u168, u169, u170, u171, u172, u173, u174, u175, v176, v177, v178, v179, v180, v181, v182, v183, v184, v185, v186, v187, v188, v189, v190, v191, v192, v193, u194, u195, u196, u197, u198, u199, u200, u201, u202, u203, u204, u205, u206, u207, u208, u209, u210, u211, u212, u213, u214, u215, u216, u217, u218, u219, u220, u221, u222, u223, u224, u225, u226, u227, u228, u229, u230, u231, u232, u233, u234, u235, u236, u237], []⟩ wz) : seenR28.wp Tryz.prog Q ⟨#[u0, u1, u2, u3, u4, u5, u6, .pointer (some ⟨bi, 0, none⟩), u8, u9, u10, u11, u12, u13, u14, u15, u16, u17, u18, u19, u20, u21, u22, u23, u24, u25, u26, u27, u28, u29, u30, u31, u32, u33, u34, u35, u36, u37, u38, u39, u40, u41, u42, u43, u44, u45, u46, u47, u48, u49, u50, u51, u52, u53, u54, u55, u56, u57, u58, u59, u60, u61, u62, u63, u64, u65, u66, u67, u68, u69, u70, u71, u72, u73, u74, u75, u76, u77, u78, u79, u80, u81, u82, u83, u84, u85, u86, u87, u88, u89, u90, u91, u92, u93, u94, u95, u96, u97, u98, u99, u100, u101, u102, u103, u104, u105, u106, u107, u108, u109, u110, u111, u112, u113, u114, u115, u116, u117, u118, u119, u120, u121, u122, u123, u124, u125, u126, u127, u128, u129, u130, u131, u132, u133, u134, u135, u136, u137, u138, u139, u140, u141, u142, u143, u144, u145, u146, u147, u148, u149, u150, u151, u152, u153, u154, u155, u156, u157, u158, u159, u160, u161, u162, u163, u164, u165, u166, u167, u168, u169, u170, u171, u172, u173, u174, u175, u176, u177, u178, u179, u180, u181, u182, u183, u184, u185, u186, u187, u188, u189, u190, u191, u192, u193, u194, u195, u196, u197, u198, u199, u200, u201, u202, u203, u204, u205, u206, u207, u208, u209, u210, u211, u212, u213, u214, u215, u216, u217, u218, u219, u220, u221, u222, u223, u224, u225, u226, u227, u228, u229, u230, u231, u232, u233, u234, u235, u236, u237], []⟩ wz := by
  have HK := Lib.hid k
  have HQ := Lib.hid hq
  have yop : wz.cell? ⟨bi, 0, none⟩ = some (.int .i64 i.op) := by simp only [World.cell?, KI]; rfl
  clear k KI hq
  conv => arg 2; whnf
  cases h3 : (i.op == 3)
  · cases h4 : (i.op == 4)
    · cases h28 : (i.op == 28)
      · cases h29 : (i.op == 29)
        · obtain rfl : q = false := by rw [← HQ.out]; unfold seenM; rw [h3, h4, h28, h29]; rfl
          go_wp2_with fail
          exact HK.out _ _ _ _ _ _ _ _ _ _ _ _ _ _ _ _ _ _
        · obtain rfl : q = true := by rw [← HQ.out]; unfold seenM; rw [h3, h4, h28, h29]; rfl
          go_wp2_with fail
          exact HK.out _ _ _ _ _ _ _ _ _ _ _ _ _ _ _ _ _ _
      · obtain rfl : q = true := by rw [← HQ.out]; unfold seenM; rw [h3, h4, h28]; rfl
        go_wp2_with fail
        exact HK.out _ _ _ _ _ _ _ _ _ _ _ _ _ _ _ _ _ _
    · obtain rfl : q = true := by rw [← HQ.out]; unfold seenM; rw [h3, h4]; rfl
      go_wp2_with fail
      exact HK.out _ _ _ _ _ _ _ _ _ _ _ _ _ _ _ _ _ _
  · obtain rfl : q = true := by rw [← HQ.out]; unfold seenM; rw [h3]; rfl
    go_wp2_with fail
    exact HK.out _ _ _ _ _ _ _ _ _ _ _ _ _ _ _ _ _ _

set_option maxRecDepth 100000 in
set_option maxHeartbeats 40000000 in
theorem seen_end1 (s A : St) (i : Ins) (bs ba bi bx ox cx : Nat) (wz : World) (Q : Exit → Act → World → Prop) (u0 u1 u2 u3 u4 u6 u8 u9 u10 u11 u12 u13 u14 u15 u16 u17 u20 u21 u22 u23 u24 u26 u27 u28 u29 u30 u31 u32 u33 u34 u35 u36 u37 u38 u39 u40 u41 u42 u43 u44 u45 u46 u47 u48 u49 u50 u51 u52 u53 u54 u55 u56 u57 u58 u59 u60 u61 u62 u63 u64 u65 u66 u67 u68 u69 u70 u71 u72 u73 u74 u75 u76 u77 u78 u79 u80 u81 u82 u83 u84 u85 u86 u87 u88 u89 u90 u91 u92 u93 u94 u95 u96 u97 u98 u99 u100 u101 u102 u103 u104 u105 u106 u107 u108 u109 u110 u111 u112 u113 u114 u115 u116 u117 u118 u119 u120 u121 u122 u123 u124 u125 u126 u127 u128 u129 u130 u131 u132 u133 u134 u135 u136 u137 u138 u139 u140 u141 u142 u143 u144 u145 u146 u147 u148 u149 u150 u151 u152 u153 u154 u155 u156 u157 u158 u159 u160 u161 u162 u163 u164 u165 u166 u167 u168 u169 u170 u171 u172 u173 u174 u175 u176 u177 u178 u179 u180 u181 u182 u183 u184 u185 u186 u187 u188 u189 u190 u191 u192 u193 u194 u195 u196 u197 u198 u199 u200 u201 u202 u203 u204 u205 u206 u207 u208 u209 u210 u211 u212 u213 u214 u215 u216 u217 u218 u219 u220 u221 u222 u223 u224 u225 u226 u227 u228 u229 u230 u231 u232 u233 u234 u235 u236 u237 : Value)
    (hs : s.regs.length = 16) (ha : A.regs.length = 16) (hc : chkP i = true) (hj : seenJ i.op = false)
    (KS : wz.heap[bs]? = some (.cells (stRow s).toArray 25 (0, 0))) (KA : wz.heap[ba]? = some (.cells (stRow A).toArray 25 (0, 0))) (KI : wz.heap[bi]? = some (.cells (insRow i).toArray 29 (0, 0)))
    (hx : bx < wz.heap.size) (p0 : wz.cell? ⟨bx, ox, none⟩ = some (.int .i64 1)) (p1 : wz.cell? ⟨bx, ox + 1, none⟩ = some (.int .u64 s.pc))
    (hq : IntKind.u64.wrap ((s.pc : Int) + 5) = (A.pc : Int))
    (k : ∀ (v199 v200 v201 v202 v203 v204 v205 v206 v207 v208 v209 v210 v211 v212 v213 v214 v215 v216 v217 v218 v219 v220 v221 v222 v223 v224 v225 v226 v227 v228 v229 v230 v231 v232 v233 v234 v235 v236 v237 : Value) (w' : World), Below wz.heap.size wz w' → Q .normal ⟨#[u0, u1, u2, u3, u4, .pointer (some ⟨bs, 0, none⟩), u6, .pointer (some ⟨bi, 0, none⟩), u8, u9, .bool true, u11, u12, u13, u14, u15, u16, u17, .pointer (some ⟨ba, 0, none⟩), .slice (some ⟨bx, ox, none⟩) 1 cx, u20, u21, u22, u23, u24, .int .i64 1, u26, u27, u28, u29, u30, u31, u32, u33, u34, u35, u36, u37, u38, u39, u40, u41, u42, u43, u44, u45, u46, u47, u48, u49, u50, u51, u52, u53, u54, u55, u56, u57, u58, u59, u60, u61, u62, u63, u64, u65, u66, u67, u68, u69, u70, u71, u72, u73, u74, u75, u76, u77, u78, u79, u80, u81, u82, u83, u84, u85, u86, u87, u88, u89, u90, u91, u92, u93, u94, u95, u96, u97, u98, u99, u100, u101, u102, u103, u104, u105, u106, u107, u108, u109, u110, u111, u112, u113, u114, u115, u116, u117, u118, u119, u120, u121, u122, u123, u124, u125, u126, u127, u128, u129, u130, u131, u132, u133, u134, u135, u136, u137, u138, u139, u140, u141, u142, u143, u144, u145, u146, u147, u148, u149, u150, u151, u152, u153, u154, u155, u156, u157, u158, u159, u160, u161, u162, u163, u164, u165, u166, u167, u168, u169, u170, u171, u172, u173, u174, u175, u176, u177, u178, u179, u180, u181, u182, u183, u184, u185, u186, u187, u188, u189, u190, u191, u192, u193, u194, u195, u196, u197, u198, v199, v200, v201, v202, v203, v204, v205, v206, v207, v208, v209, v210, v211, v212, v213, v214, v215, v216, v217, v218, v219, v220, v221, v222, v223, v224, v225, v226, v227, v228, v229, v230, v231, v232, v233, v234, v235, v236, v237], []⟩ w') : seenR32.wp Tryz.prog Q ⟨#[u0, u1, u2, u3, u4, .pointer (some ⟨bs, 0, none⟩), u6, .pointer (some ⟨bi, 0, none⟩), u8, u9, u10, u11, u12, u13, u14, u15, u16, u17, .pointer (some ⟨ba, 0, none⟩), .slice (some ⟨bx, ox, none⟩) 1 cx, u20, u21, u22, u23, u24, .int .i64 1, u26, u27, u28, u29, u30, u31, u32, u33, u34, u35, u36, u37, u38, u39, u40, u41, u42, u43, u44, u45, u46, u47, u48, u49, u50, u51, u52, u53, u54, u55, u56, u57, u58, u59, u60, u61, u62, u63, u64, u65, u66, u67, u68, u69, u70, u71, u72, u73, u74, u75, u76, u77, u78, u79, u80, u81, u82, u83, u84, u85, u86, u87, u88, u89, u90, u91, u92, u93, u94, u95, u96, u97, u98, u99, u100, u101, u102, u103, u104, u105, u106, u107, u108, u109, u110, u111, u112, u113, u114, u115, u116, u117, u118, u119, u120, u121, u122, u123, u124, u125, u126, u127, u128, u129, u130, u131, u132, u133, u134, u135, u136, u137, u138, u139, u140, u141, u142, u143, u144, u145, u146, u147, u148, u149, u150, u151, u152, u153, u154, u155, u156, u157, u158, u159, u160, u161, u162, u163, u164, u165, u166, u167, u168, u169, u170, u171, u172, u173, u174, u175, u176, u177, u178, u179, u180, u181, u182, u183, u184, u185, u186, u187, u188, u189, u190, u191, u192, u193, u194, u195, u196, u197, u198, u199, u200, u201, u202, u203, u204, u205, u206, u207, u208, u209, u210, u211, u212, u213, u214, u215, u216, u217, u218, u219, u220, u221, u222, u223, u224, u225, u226, u227, u228, u229, u230, u231, u232, u233, u234, u235, u236, u237], []⟩ wz := by
  have HK := Lib.hid k
  have lS := lt_of_block KS
  have lA := lt_of_block KA
  have cS : wz.cell? ⟨bs, 16, none⟩ = some (.int .u64 s.pc) := by simp only [World.cell?, KS]; simpa using stRow_pc hs
  have cA : wz.cell? ⟨ba, 16, none⟩ = some (.int .u64 A.pc) := by simp only [World.cell?, KA]; simpa using stRow_pc ha
  have HC := Lib.hid hc
  have HJ := Lib.hid hj
  have HKI := Lib.hid KI
  have CS := Lib.hid cS
  have CA := Lib.hid cA
  have P0 := Lib.hid p0
  have P1 := Lib.hid p1
  have LS := Lib.hid lS
  have LA := Lib.hid lA
  have LX := Lib.hid hx
  have LI := Lib.hid (lt_of_block KI)
  have HQ := Lib.hid hq
  clear hq
  clear k KS KA KI cS cA p0 p1 lS lA hx hc hj hs ha
  conv => arg 2; whnf
  have hS := (Below.refl wz.heap.size wz).drew
  (refine wp_region_lines (Below wz.heap.size wz) (by kernel_rfl) (by kernel_rfl) (Below.refl wz.heap.size wz).drew ?_)
  (try simp only [])
  repeat (first | (refine runL_no (by rfl) ?_; (try simp only [Act.put, List.setIfInBounds_toArray, List.set_cons_zero, List.set_cons_succ])) | (refine runL_val (v := ?_) (by rfl) ?_ ?_; rotate_left; (focus (intro w_ hw_; have c0_ := (hw_.cell (p := ⟨bs, 16, none⟩) LS.out).trans CS.out; have c1_ := (hw_.cell (p := ⟨ba, 16, none⟩) LA.out).trans CA.out; have c2_ := (hw_.cell (p := ⟨bx, ox, none⟩) LX.out).trans P0.out; have c3_ := (hw_.cell (p := ⟨bx, ox + 1, none⟩) LX.out).trans P1.out; have c4_ := HQ.out; go_simp; (try with_reducible rfl); done)); (try simp only [Act.put, List.setIfInBounds_toArray, List.set_cons_zero, List.set_cons_succ])) | (refine runL_call (f := ?_) (args := ?_) (w1 := ?_) (by rfl) (by rfl) ?_ ?_; rotate_left 3; (focus (go_simp; refine ⟨⟨?_, ?_⟩, ?_⟩ <;> with_reducible rfl)); refine (Jump_any i _).mono ?_; rintro e wA ⟨rfl, hb1⟩; rw [jumpR_seen HC.out, HJ.out]; replace hS := hS.trans (hb1.mono hS.size); clear hb1; refine ⟨_, rfl, .inr hS, ?_⟩; (try simp only [Act.put, List.setIfInBounds_toArray, List.set_cons_zero, List.set_cons_succ])) | (refine runL_val (v := .agg (insRow i).toArray) (by rfl) (fun w_ hw_ => exec_load_row 29 _ rfl bi rfl _ _ _ ((hw_.block _ LI.out).trans HKI.out) _ Tryz.underlying29 rfl infoIns) ?_; (try simp only [Act.put, List.setIfInBounds_toArray, List.set_cons_zero, List.set_cons_succ])))
  (refine runL_nil ?_)
  exact HK.out _ _ _ _ _ _ _ _ _ _ _ _ _ _ _ _ _ _ _ _ _ _ _ _ _ _ _ _ _ _ _ _ _ _ _ _ _ _ _ _ hS

set_option maxRecDepth 100000 in
set_option maxHeartbeats 40000000 in
theorem seen_end2 (s A : St) (i : Ins) (bs ba bi bx ox cx : Nat) (wz : World) (Q : Exit → Act → World → Prop) (u0 u1 u2 u3 u4 u6 u8 u9 u10 u11 u12 u13 u14 u15 u16 u17 u20 u21 u22 u23 u24 u26 u27 u28 u29 u30 u31 u32 u33 u34 u35 u36 u37 u38 u39 u40 u41 u42 u43 u44 u45 u46 u47 u48 u49 u50 u51 u52 u53 u54 u55 u56 u57 u58 u59 u60 u61 u62 u63 u64 u65 u66 u67 u68 u69 u70 u71 u72 u73 u74 u75 u76 u77 u78 u79 u80 u81 u82 u83 u84 u85 u86 u87 u88 u89 u90 u91 u92 u93 u94 u95 u96 u97 u98 u99 u100 u101 u102 u103 u104 u105 u106 u107 u108 u109 u110 u111 u112 u113 u114 u115 u116 u117 u118 u119 u120 u121 u122 u123 u124 u125 u126 u127 u128 u129 u130 u131 u132 u133 u134 u135 u136 u137 u138 u139 u140 u141 u142 u143 u144 u145 u146 u147 u148 u149 u150 u151 u152 u153 u154 u155 u156 u157 u158 u159 u160 u161 u162 u163 u164 u165 u166 u167 u168 u169 u170 u171 u172 u173 u174 u175 u176 u177 u178 u179 u180 u181 u182 u183 u184 u185 u186 u187 u188 u189 u190 u191 u192 u193 u194 u195 u196 u197 u198 u199 u200 u201 u202 u203 u204 u205 u206 u207 u208 u209 u210 u211 u212 u213 u214 u215 u216 u217 u218 u219 u220 u221 u222 u223 u224 u225 u226 u227 u228 u229 u230 u231 u232 u233 u234 u235 u236 u237 : Value)
    (hs : s.regs.length = 16) (ha : A.regs.length = 16) (hc : chkP i = true) (hj : seenJ i.op = false)
    (KS : wz.heap[bs]? = some (.cells (stRow s).toArray 25 (0, 0))) (KA : wz.heap[ba]? = some (.cells (stRow A).toArray 25 (0, 0))) (KI : wz.heap[bi]? = some (.cells (insRow i).toArray 29 (0, 0)))
    (hx : bx < wz.heap.size) (p0 : wz.cell? ⟨bx, ox, none⟩ = some (.int .i64 1)) (p1 : wz.cell? ⟨bx, ox + 1, none⟩ = some (.int .u64 s.pc))
    (hq : IntKind.u64.wrap ((s.pc : Int) + 5) = (A.pc : Int))
    (k : ∀ (v199 v200 v201 v202 v203 v204 v205 v206 v207 v208 v209 v210 v211 v212 v213 v214 v215 v216 v217 v218 v219 v220 v221 v222 v223 v224 v225 v226 v227 v228 v229 v230 v231 v232 v233 v234 v235 v236 v237 : Value) (w' : World), Below wz.heap.size wz w' → Q .normal ⟨#[u0, u1, u2, u3, u4, .pointer (some ⟨bs, 0, none⟩), u6, .pointer (some ⟨bi, 0, none⟩), u8, u9, .bool true, u11, u12, u13, u14, u15, u16, u17, .pointer (some ⟨ba, 0, none⟩), .slice (some ⟨bx, ox, none⟩) 2 cx, u20, u21, u22, u23, u24, .int .i64 2, u26, u27, u28, u29, u30, u31, u32, u33, u34, u35, u36, u37, u38, u39, u40, u41, u42, u43, u44, u45, u46, u47, u48, u49, u50, u51, u52, u53, u54, u55, u56, u57, u58, u59, u60, u61, u62, u63, u64, u65, u66, u67, u68, u69, u70, u71, u72, u73, u74, u75, u76, u77, u78, u79, u80, u81, u82, u83, u84, u85, u86, u87, u88, u89, u90, u91, u92, u93, u94, u95, u96, u97, u98, u99, u100, u101, u102, u103, u104, u105, u106, u107, u108, u109, u110, u111, u112, u113, u114, u115, u116, u117, u118, u119, u120, u121, u122, u123, u124, u125, u126, u127, u128, u129, u130, u131, u132, u133, u134, u135, u136, u137, u138, u139, u140, u141, u142, u143, u144, u145, u146, u147, u148, u149, u150, u151, u152, u153, u154, u155, u156, u157, u158, u159, u160, u161, u162, u163, u164, u165, u166, u167, u168, u169, u170, u171, u172, u173, u174, u175, u176, u177, u178, u179, u180, u181, u182, u183, u184, u185, u186, u187, u188, u189, u190, u191, u192, u193, u194, u195, u196, u197, u198, v199, v200, v201, v202, v203, v204, v205, v206, v207, v208, v209, v210, v211, v212, v213, v214, v215, v216, v217, v218, v219, v220, v221, v222, v223, v224, v225, v226, v227, v228, v229, v230, v231, v232, v233, v234, v235, v236, v237], []⟩ w') : seenR32.wp Tryz.prog Q ⟨#[u0, u1, u2, u3, u4, .pointer (some ⟨bs, 0, none⟩), u6, .pointer (some ⟨bi, 0, none⟩), u8, u9, u10, u11, u12, u13, u14, u15, u16, u17, .pointer (some ⟨ba, 0, none⟩), .slice (some ⟨bx, ox, none⟩) 2 cx, u20, u21, u22, u23, u24, .int .i64 2, u26, u27, u28, u29, u30, u31, u32, u33, u34, u35, u36, u37, u38, u39, u40, u41, u42, u43, u44, u45, u46, u47, u48, u49, u50, u51, u52, u53, u54, u55, u56, u57, u58, u59, u60, u61, u62, u63, u64, u65, u66, u67, u68, u69, u70, u71, u72, u73, u74, u75, u76, u77, u78, u79, u80, u81, u82, u83, u84, u85, u86, u87, u88, u89, u90, u91, u92, u93, u94, u95, u96, u97, u98, u99, u100, u101, u102, u103, u104, u105, u106, u107, u108, u109, u110, u111, u112, u113, u114, u115, u116, u117, u118, u119, u120, u121, u122, u123, u124, u125, u126, u127, u128, u129, u130, u131, u132, u133, u134, u135, u136, u137, u138, u139, u140, u141, u142, u143, u144, u145, u146, u147, u148, u149, u150, u151, u152, u153, u154, u155, u156, u157, u158, u159, u160, u161, u162, u163, u164, u165, u166, u167, u168, u169, u170, u171, u172, u173, u174, u175, u176, u177, u178, u179, u180, u181, u182, u183, u184, u185, u186, u187, u188, u189, u190, u191, u192, u193, u194, u195, u196, u197, u198, u199, u200, u201, u202, u203, u204, u205, u206, u207, u208, u209, u210, u211, u212, u213, u214, u215, u216, u217, u218, u219, u220, u221, u222, u223, u224, u225, u226, u227, u228, u229, u230, u231, u232, u233, u234, u235, u236, u237], []⟩ wz := by
  have HK := Lib.hid k
  have lS := lt_of_block KS
  have lA := lt_of_block KA
  have cS : wz.cell? ⟨bs, 16, none⟩ = some (.int .u64 s.pc) := by simp only [World.cell?, KS]; simpa using stRow_pc hs
  have cA : wz.cell? ⟨ba, 16, none⟩ = some (.int .u64 A.pc) := by simp only [World.cell?, KA]; simpa using stRow_pc ha
  have HC := Lib.hid hc
  have HJ := Lib.hid hj
  have HKI := Lib.hid KI
  have CS := Lib.hid cS
  have CA := Lib.hid cA
  have P0 := Lib.hid p0
  have P1 := Lib.hid p1
  have LS := Lib.hid lS
  have LA := Lib.hid lA
  have LX := Lib.hid hx
  have LI := Lib.hid (lt_of_block KI)
  have HQ := Lib.hid hq
  clear hq
  clear k KS KA KI cS cA p0 p1 lS lA hx hc hj hs ha
  conv => arg 2; whnf
  have hS := (Below.refl wz.heap.size wz).drew
  (refine wp_region_lines (Below wz.heap.size wz) (by kernel_rfl) (by kernel_rfl) (Below.refl wz.heap.size wz).drew ?_)
  (try simp only [])
  repeat (first | (refine runL_no (by rfl) ?_; (try simp only [Act.put, List.setIfInBounds_toArray, List.set_cons_zero, List.set_cons_succ])) | (refine runL_val (v := ?_) (by rfl) ?_ ?_; rotate_left; (focus (intro w_ hw_; have c0_ := (hw_.cell (p := ⟨bs, 16, none⟩) LS.out).trans CS.out; have c1_ := (hw_.cell (p := ⟨ba, 16, none⟩) LA.out).trans CA.out; have c2_ := (hw_.cell (p := ⟨bx, ox, none⟩) LX.out).trans P0.out; have c3_ := (hw_.cell (p := ⟨bx, ox + 1, none⟩) LX.out).trans P1.out; have c4_ := HQ.out; go_simp; (try with_reducible rfl); done)); (try simp only [Act.put, List.setIfInBounds_toArray, List.set_cons_zero, List.set_cons_succ])) | (refine runL_call (f := ?_) (args := ?_) (w1 := ?_) (by rfl) (by rfl) ?_ ?_; rotate_left 3; (focus (go_simp; refine ⟨⟨?_, ?_⟩, ?_⟩ <;> with_reducible rfl)); refine (Jump_any i _).mono ?_; rintro e wA ⟨rfl, hb1⟩; rw [jumpR_seen HC.out, HJ.out]; replace hS := hS.trans (hb1.mono hS.size); clear hb1; refine ⟨_, rfl, .inr hS, ?_⟩; (try simp only [Act.put, List.setIfInBounds_toArray, List.set_cons_zero, List.set_cons_succ])) | (refine runL_val (v := .agg (insRow i).toArray) (by rfl) (fun w_ hw_ => exec_load_row 29 _ rfl bi rfl _ _ _ ((hw_.block _ LI.out).trans HKI.out) _ Tryz.underlying29 rfl infoIns) ?_; (try simp only [Act.put, List.setIfInBounds_toArray, List.set_cons_zero, List.set_cons_succ])))
  (refine runL_nil ?_)
  exact HK.out _ _ _ _ _ _ _ _ _ _ _ _ _ _ _ _ _ _ _ _ _ _ _ _ _ _ _ _ _ _ _ _ _ _ _ _ _ _ _ _ hS

set_option maxRecDepth 100000 in
set_option maxHeartbeats 40000000 in
theorem seen_endJ (s A : St) (i : Ins) (bs ba bi bx ox cx : Nat) (wz : World) (Q : Exit → Act → World → Prop) (u0 u1 u2 u3 u4 u6 u8 u9 u10 u11 u12 u13 u14 u15 u16 u17 u20 u21 u22 u23 u24 u26 u27 u28 u29 u30 u31 u32 u33 u34 u35 u36 u37 u38 u39 u40 u41 u42 u43 u44 u45 u46 u47 u48 u49 u50 u51 u52 u53 u54 u55 u56 u57 u58 u59 u60 u61 u62 u63 u64 u65 u66 u67 u68 u69 u70 u71 u72 u73 u74 u75 u76 u77 u78 u79 u80 u81 u82 u83 u84 u85 u86 u87 u88 u89 u90 u91 u92 u93 u94 u95 u96 u97 u98 u99 u100 u101 u102 u103 u104 u105 u106 u107 u108 u109 u110 u111 u112 u113 u114 u115 u116 u117 u118 u119 u120 u121 u122 u123 u124 u125 u126 u127 u128 u129 u130 u131 u132 u133 u134 u135 u136 u137 u138 u139 u140 u141 u142 u143 u144 u145 u146 u147 u148 u149 u150 u151 u152 u153 u154 u155 u156 u157 u158 u159 u160 u161 u162 u163 u164 u165 u166 u167 u168 u169 u170 u171 u172 u173 u174 u175 u176 u177 u178 u179 u180 u181 u182 u183 u184 u185 u186 u187 u188 u189 u190 u191 u192 u193 u194 u195 u196 u197 u198 u199 u200 u201 u202 u203 u204 u205 u206 u207 u208 u209 u210 u211 u212 u213 u214 u215 u216 u217 u218 u219 u220 u221 u222 u223 u224 u225 u226 u227 u228 u229 u230 u231 u232 u233 u234 u235 u236 u237 : Value)
    (hs : s.regs.length = 16) (ha : A.regs.length = 16) (hc : chkP i = true) (hj : seenJ i.op = true)
    (KS : wz.heap[bs]? = some (.cells (stRow s).toArray 25 (0, 0))) (KA : wz.heap[ba]? = some (.cells (stRow A).toArray 25 (0, 0))) (KI : wz.heap[bi]? = some (.cells (insRow i).toArray 29 (0, 0)))
    (hx : bx < wz.heap.size) (p0 : wz.cell? ⟨bx, ox, none⟩ = some (.int .i64 1)) (p1 : wz.cell? ⟨bx, ox + 1, none⟩ = some (.int .u64 s.pc))
    (q0 : wz.cell? ⟨bx, ox + 1 * 2, none⟩ = some (.int .i64 4)) (q1 : wz.cell? ⟨bx, ox + 1 * 2 + 1, none⟩ = some (.int .u64 A.pc))
    (k : ∀ (v199 v200 v201 v202 v203 v204 v205 v206 v207 v208 v209 v210 v211 v212 v213 v214 v215 v216 v217 v218 v219 v220 v221 v222 v223 v224 v225 v226 v227 v228 v229 v230 v231 v232 v233 v234 v235 v236 v237 : Value) (w' : World), Below wz.heap.size wz w' → Q .normal ⟨#[u0, u1, u2, u3, u4, .pointer (some ⟨bs, 0, none⟩), u6, .pointer (some ⟨bi, 0, none⟩), u8, u9, .bool true, u11, u12, u13, u14, u15, u16, u17, .pointer (some ⟨ba, 0, none⟩), .slice (some ⟨bx, ox, none⟩) 2 cx, u20, u21, u22, u23, u24, .int .i64 2, u26, u27, u28, u29, u30, u31, u32, u33, u34, u35, u36, u37, u38, u39, u40, u41, u42, u43, u44, u45, u46, u47, u48, u49, u50, u51, u52, u53, u54, u55, u56, u57, u58, u59, u60, u61, u62, u63, u64, u65, u66, u67, u68, u69, u70, u71, u72, u73, u74, u75, u76, u77, u78, u79, u80, u81, u82, u83, u84, u85, u86, u87, u88, u89, u90, u91, u92, u93, u94, u95, u96, u97, u98, u99, u100, u101, u102, u103, u104, u105, u106, u107, u108, u109, u110, u111, u112, u113, u114, u115, u116, u117, u118, u119, u120, u121, u122, u123, u124, u125, u126, u127, u128, u129, u130, u131, u132, u133, u134, u135, u136, u137, u138, u139, u140, u141, u142, u143, u144, u145, u146, u147, u148, u149, u150, u151, u152, u153, u154, u155, u156, u157, u158, u159, u160, u161, u162, u163, u164, u165, u166, u167, u168, u169, u170, u171, u172, u173, u174, u175, u176, u177, u178, u179, u180, u181, u182, u183, u184, u185, u186, u187, u188, u189, u190, u191, u192, u193, u194, u195, u196, u197, u198, v199, v200, v201, v202, v203, v204, v205, v206, v207, v208, v209, v210, v211, v212, v213, v214, v215, v216, v217, v218, v219, v220, v221, v222, v223, v224, v225, v226, v227, v228, v229, v230, v231, v232, v233, v234, v235, v236, v237], []⟩ w') : seenR32.wp Tryz.prog Q ⟨#[u0, u1, u2, u3, u4, .pointer (some ⟨bs, 0, none⟩), u6, .pointer (some ⟨bi, 0, none⟩), u8, u9, u10, u11, u12, u13, u14, u15, u16, u17, .pointer (some ⟨ba, 0, none⟩), .slice (some ⟨bx, ox, none⟩) 2 cx, u20, u21, u22, u23, u24, .int .i64 2, u26, u27, u28, u29, u30, u31, u32, u33, u34, u35, u36, u37, u38, u39, u40, u41, u42, u43, u44, u45, u46, u47, u48, u49, u50, u51, u52, u53, u54, u55, u56, u57, u58, u59, u60, u61, u62, u63, u64, u65, u66, u67, u68, u69, u70, u71, u72, u73, u74, u75, u76, u77, u78, u79, u80, u81, u82, u83, u84, u85, u86, u87, u88, u89, u90, u91, u92, u93, u94, u95, u96, u97, u98, u99, u100, u101, u102, u103, u104, u105, u106, u107, u108, u109, u110, u111, u112, u113, u114, u115, u116, u117, u118, u119, u120, u121, u122, u123, u124, u125, u126, u127, u128, u129, u130, u131, u132, u133, u134, u135, u136, u137, u138, u139, u140, u141, u142, u143, u144, u145, u146, u147, u148, u149, u150, u151, u152, u153, u154, u155, u156, u157, u158, u159, u160, u161, u162, u163, u164, u165, u166, u167, u168, u169, u170, u171, u172, u173, u174, u175, u176, u177, u178, u179, u180, u181, u182, u183, u184, u185, u186, u187, u188, u189, u190, u191, u192, u193, u194, u195, u196, u197, u198, u199, u200, u201, u202, u203, u204, u205, u206, u207, u208, u209, u210, u211, u212, u213, u214, u215, u216, u217, u218, u219, u220, u221, u222, u223, u224, u225, u226, u227, u228, u229, u230, u231, u232, u233, u234, u235, u236, u237], []⟩ wz := by
  have HK := Lib.hid k
  have lS := lt_of_block KS
  have lA := lt_of_block KA
  have cS : wz.cell? ⟨bs, 16, none⟩ = some (.int .u64 s.pc) := by simp only [World.cell?, KS]; simpa using stRow_pc hs
  have cA : wz.cell? ⟨ba, 16, none⟩ = some (.int .u64 A.pc) := by simp only [World.cell?, KA]; simpa using stRow_pc ha
  have HC := Lib.hid hc
  have HJ := Lib.hid hj
  have HKI := Lib.hid KI
  have CS := Lib.hid cS
  have CA := Lib.hid cA
  have P0 := Lib.hid p0
  have P1 := Lib.hid p1
  have LS := Lib.hid lS
  have LA := Lib.hid lA
  have LX := Lib.hid hx
  have LI := Lib.hid (lt_of_block KI)
  have Q0 := Lib.hid q0
  have Q1 := Lib.hid q1
  clear q0 q1
  clear k KS KA KI cS cA p0 p1 lS lA hx hc hj hs ha
  conv => arg 2; whnf
  have hS := (Below.refl wz.heap.size wz).drew
  (refine wp_region_lines (Below wz.heap.size wz) (by kernel_rfl) (by kernel_rfl) (Below.refl wz.heap.size wz).drew ?_)
  (try simp only [])
  repeat (first | (refine runL_no (by rfl) ?_; (try simp only [Act.put, List.setIfInBounds_toArray, List.set_cons_zero, List.set_cons_succ])) | (refine runL_val (v := ?_) (by rfl) ?_ ?_; rotate_left; (focus (intro w_ hw_; have c0_ := (hw_.cell (p := ⟨bs, 16, none⟩) LS.out).trans CS.out; have c1_ := (hw_.cell (p := ⟨ba, 16, none⟩) LA.out).trans CA.out; have c2_ := (hw_.cell (p := ⟨bx, ox, none⟩) LX.out).trans P0.out; have c3_ := (hw_.cell (p := ⟨bx, ox + 1, none⟩) LX.out).trans P1.out; have c4_ := (hw_.cell (p := ⟨bx, ox + 1 * 2, none⟩) LX.out).trans Q0.out; have c5_ := (hw_.cell (p := ⟨bx, ox + 1 * 2 + 1, none⟩) LX.out).trans Q1.out; simp only [Nat.one_mul] at c4_ c5_; go_simp; (try with_reducible rfl); done)); (try simp only [Act.put, List.setIfInBounds_toArray, List.set_cons_zero, List.set_cons_succ])) | (refine runL_call (f := ?_) (args := ?_) (w1 := ?_) (by rfl) (by rfl) ?_ ?_; rotate_left 3; (focus (go_simp; refine ⟨⟨?_, ?_⟩, ?_⟩ <;> with_reducible rfl)); refine (Jump_any i _).mono ?_; rintro e wA ⟨rfl, hb1⟩; rw [jumpR_seen HC.out, HJ.out]; replace hS := hS.trans (hb1.mono hS.size); clear hb1; refine ⟨_, rfl, .inr hS, ?_⟩; (try simp only [Act.put, List.setIfInBounds_toArray, List.set_cons_zero, List.set_cons_succ])) | (refine runL_val (v := .agg (insRow i).toArray) (by rfl) (fun w_ hw_ => exec_load_row 29 _ rfl bi rfl _ _ _ ((hw_.block _ LI.out).trans HKI.out) _ Tryz.underlying29 rfl infoIns) ?_; (try simp only [Act.put, List.setIfInBounds_toArray, List.set_cons_zero, List.set_cons_succ])))
  (refine runL_nil ?_)
  exact HK.out _ _ _ _ _ _ _ _ _ _ _ _ _ _ _ _ _ _ _ _ _ _ _ _ _ _ _ _ _ _ _ _ _ _ _ _ _ _ _ _ hS

end Go.Proofs.YtmanhikpccnfaaaGreat

/- keysmithlaw08.StepSeen: from the two steps on. -/
namespace Go.Proofs.YtmanhikpccnfaaaGreat
open Go.RowKit


/-- What follows the region of a number. -/
def headIs (n : Nat) : Code → Bool
  | .region id _ _ => id == n
  | _ => false
def restR (n : Nat) : Code → Option Code
  | .seq a b => if headIs n a then some b else match restR n a with
    | some c => some c
    | none => restR n b
  | .cond _ a b => match restR n a with
    | some c => some c
    | none => restR n b
  | .block _ c => restR n c
  | .loop c => restR n c
  | .scope c => restR n c
  | .rangeFunc _ _ a b => match restR n a with
    | some c => some c
    | none => restR n b
  | _ => none
noncomputable def seenR22 : Code := ((Tryz.f3.body.bind (findR 22)).getD .skip)
noncomputable def seenT22 : Code := ((Tryz.f3.body.bind (restR 22)).getD .skip)
set_option maxRecDepth 100000 in
set_option maxHeartbeats 40000000 in
theorem seen_tail (s tt : St) (i : Ins) (w w4 : World) (za zb bm1 bm2 : Nat) (rs qs : List Reg) (K : Act → World → Prop) (u0 u1 u2 u3 u4 u8 u9 u11 u12 u13 u15 u17 u18 u19 u20 u21 u22 u23 u24 u25 u26 u27 u28 u29 u30 u31 u32 u33 u34 u35 u36 u37 u38 u39 u40 u41 u42 u43 u44 u45 u46 u47 u48 u49 u50 u51 u52 u53 u54 u55 u56 u57 u58 u59 u60 u61 u62 u63 u64 u65 u66 u67 u68 u69 u70 u71 u72 u73 u74 u75 u76 u77 u78 u79 u80 u81 u82 u83 u84 u85 u86 u87 u88 u89 u90 u91 u92 u93 u94 u95 u96 u97 u98 u99 u100 u101 u102 u103 u104 u105 u106 u107 u108 u109 u110 u111 u112 u113 u114 u115 u116 u117 u118 u119 u120 u121 u122 u123 u124 u125 u126 u127 u128 u129 u130 u131 u132 u133 u134 u135 u136 u137 u138 u139 u140 u141 u142 u143 u144 u145 u146 u147 u148 u149 u150 u151 u152 u153 u154 u155 u156 u157 u158 u159 u160 u161 u162 u163 u164 u165 u166 u167 u168 u169 u170 u171 u172 u173 u174 u175 u176 u177 u178 u179 u180 u181 u182 u183 u184 u185 u186 u187 u188 u189 u190 u191 u192 u193 u194 u195 u196 u197 u198 u199 u200 u201 u202 u203 u204 u205 u206 u207 u208 u209 u210 u211 u212 u213 u214 u215 u216 u217 u218 u219 u220 u221 u222 u223 u224 u225 u226 u227 u228 u229 u230 u231 u232 u233 u234 u235 u236 u237 : Value)
    (hK : ∀ a w', seenT22.wp Tryz.prog (bodyPost Tryz.prog Tryz.f3 fun e w' => e = .returned (.bool true) ∧ Below w.heap.size w w') a w' → K a w')
    (h1 : w.heap.size + 1 + 1 < za) (h2 : za ≤ zb) (h3 : zb ≤ w4.heap.size)
    (hH : Held2 w w4 w4 (seg za zb) (fun k => k = w.heap.size + 1 + 1 ∨ seg zb w4.heap.size k) (.pointer (some ⟨bm1, 0, none⟩)) rs [(w.heap.size, s), (w.heap.size + 1, tt)] [])
    (hki : w4.heap[w.heap.size + 1 + 1]? = some (.cells (insRow i).toArray 29 (0, 0))) (hm2 : MemAt w4 (seg zb w4.heap.size) (.pointer (some ⟨bm2, 0, none⟩)) qs)
    (hlk : Like i s tt) (hsh : qs.map shR = rs.map shR) (hs : StOk s) (htt : StOk tt) (hi : InsOk i) (hck : chkP i = true) (h33 : ¬ i.op = 33) :
    seenR22.wp Tryz.prog (Exit.then K (bodyPost Tryz.prog Tryz.f3 fun e w' => e = .returned (.bool true) ∧ Below w.heap.size w w')) ⟨#[u0, u1, u2, u3, u4, .pointer (some ⟨w.heap.size, 0, none⟩), .pointer (some ⟨w.heap.size + 1, 0, none⟩), .pointer (some ⟨w.heap.size + 1 + 1, 0, none⟩), u8, u9, .bool false, u11, u12, u13, .pointer (some ⟨bm1, 0, none⟩), u15, .pointer (some ⟨bm2, 0, none⟩), u17, u18, u19, u20, u21, u22, u23, u24, u25, u26, u27, u28, u29, u30, u31, u32, u33, u34, u35, u36, u37, u38, u39, u40, u41, u42, u43, u44, u45, u46, u47, u48, u49, u50, u51, u52, u53, u54, u55, u56, u57, u58, u59, u60, u61, u62, u63, u64, u65, u66, u67, u68, u69, u70, u71, u72, u73, u74, u75, u76, u77, u78, u79, u80, u81, u82, u83, u84, u85, u86, u87, u88, u89, u90, u91, u92, u93, u94, u95, u96, u97, u98, u99, u100, u101, u102, u103, u104, u105, u106, u107, u108, u109, u110, u111, u112, u113, u114, u115, u116, u117, u118, u119, u120, u121, u122, u123, u124, u125, u126, u127, u128, u129, u130, u131, u132, u133, u134, u135, u136, u137, u138, u139, u140, u141, u142, u143, u144, u145, u146, u147, u148, u149, u150, u151, u152, u153, u154, u155, u156, u157, u158, u159, u160, u161, u162, u163, u164, u165, u166, u167, u168, u169, u170, u171, u172, u173, u174, u175, u176, u177, u178, u179, u180, u181, u182, u183, u184, u185, u186, u187, u188, u189, u190, u191, u192, u193, u194, u195, u196, u197, u198, u199, u200, u201, u202, u203, u204, u205, u206, u207, u208, u209, u210, u211, u212, u213, u214, u215, u216, u217, u218, u219, u220, u221, u222, u223, u224, u225, u226, u227, u228, u229, u230, u231, u232, u233, u234, u235, u236, u237], []⟩ w4 := by
  have HSZ := Lib.hid (And.intro h1 (And.intro h2 h3))
  have H := Lib.hid hH
  have KI := Lib.hid hki
  have HM2 := Lib.hid hm2
  have HLK := Lib.hid hlk
  have HSHS := Lib.hid hsh
  have HS := Lib.hid hs
  have HTT := Lib.hid htt
  have HI := Lib.hid hi
  have HCK := Lib.hid hck
  have H33 := Lib.hid h33
  clear h1 h2 h3 hH hki hm2 hlk hsh hs htt hi hck h33
  conv => arg 2; whnf
  conv at hK => enter [a, w', 1, 2]; whnf
  obtain ⟨R, hR⟩ : ∃ R, R = stepF s i 5 rs := ⟨_, rfl⟩
  have HR := Lib.hid hR
  obtain ⟨Q, hQ⟩ : ∃ Q, Q = stepF tt i 5 qs := ⟨_, rfl⟩
  have HQ := Lib.hid hQ
  have HSA := Lib.hid (show SeenAs i.op s R Q from by rw [hR, hQ]; exact step_seen HLK.out HSHS.out.symm HCK.out H33.out)
  clear hR hQ
  go_wp2_with (first | ((with_reducible refine wl_id ?_); refine H.out.load_row 0 rfl rfl _ rfl rfl ?_) | ((with_reducible refine wl_id ?_); refine H.out.load_ins (.inl rfl) KI.out rfl _ rfl rfl ?_))
  refine (H.out.Do 0 rfl i HI.out 5 HR.out).mono ?_
  rintro e w5 ⟨Ax, cx, rfl, hH⟩
  clear H
  have H := Lib.hid hH
  have HOR := Lib.hid (show StOk R.st from by rw [HR.out]; exact step_ok HS.out i 5 rs)
  have HOQ := Lib.hid (show StOk Q.st from by rw [HQ.out]; exact step_ok HTT.out i 5 qs)
  clear hH
  go_upto_region 23 with ((with_reducible refine wl_id ?_); refine H.out.store_fresh (s := R.st) HOR.out rfl _ _ rfl _ rfl rfl rfl ?_; intro W6 hW; clear H; have H := Lib.hid hW; clear hW)
  have hge : ∀ k, seg zb w4.heap.size k → w.heap.size ≤ k := fun k hk => by obtain ⟨h0, h1, h2⟩ := HSZ.out; have h3 := hk.1; omega
  have hki := (H.out.fix _ (.inl rfl)).1.trans KI.out
  have hsw := H.out.swap HM2.out (fun k hk => .inr hk) hge
  have HNS := Lib.hid (show ¬ seg zb w4.heap.size (w.heap.size + 1 + 1) from fun hk => by obtain ⟨h0, h1, h2⟩ := HSZ.out; have h3 := hk.1; omega)
  clear H KI HM2 hge
  have H := Lib.hid hsw
  have KI := Lib.hid hki
  clear hsw hki
  go_wp2_with (first | ((with_reducible refine wl_id ?_); refine H.out.load_row 2 rfl rfl _ rfl rfl ?_) | ((with_reducible refine wl_id ?_); refine H.out.load_ins (.inl ⟨.inl rfl, HNS.out⟩) KI.out rfl _ rfl rfl ?_))
  refine (H.out.Do 2 rfl i HI.out 5 HQ.out).mono ?_
  rintro e w7 ⟨Ay, cy, rfl, hH⟩
  rw [← HSA.out.evs] at hH
  rw [← HSA.out.code, ← HSA.out.evs]
  clear H
  have H := Lib.hid hH
  clear hH
  go_upto_region 24 with ((with_reducible refine wl_id ?_); refine H.out.store_fresh (s := Q.st) HOQ.out rfl _ _ rfl _ rfl rfl rfl ?_; intro W8 hW; clear H; have H := Lib.hid hW; clear hW)
  have HLE := Lib.hid (show R.evs.length ≤ 9223372036854775807 by have := step_evs s i 5 rs; rw [← HR.out] at this; omega)
  obtain ⟨nx, hnx⟩ : ∃ nx, R.evs.length = nx := ⟨_, rfl⟩
  rw [hnx] at H ⊢
  have HNX := Lib.hid hnx
  clear hnx
  obtain ⟨cd, hcd⟩ : ∃ cd, R.code = cd := ⟨_, rfl⟩
  rw [hcd]
  have HCR := Lib.hid hcd
  clear hcd
  by_cases hcR : cd = 0
  · subst hcR
    go_wp2_with fail
    refine (SameEv_any _ _ _ _ R.evs R.evs HLE.out (H.out.held.evs 1 rfl) (H.out.held.evs 0 rfl) (fun _ hk => hk)).mono ?_
    rintro e w9 ⟨rfl, hb⟩
    rw [sameE_self]
    have hH := H.out.next hb
    clear H hb
    have H := Lib.hid hH
    clear hH
    have y0 := H.out.held.cell 1 16 rfl (stRow_pc HOR.out.len)
    have y1 := H.out.held.cell 0 16 rfl (stRow_pc HOQ.out.len)
    rw [← HSA.out.pc HCR.out] at y1
    have e3 : ((R.st.pc : Int) != (R.st.pc : Int)) = false := by simp
    go_upto_region 28 with fail
    clear y0 y1 e3
    obtain ⟨qm, hqm⟩ : ∃ q, seenM i.op = q := ⟨_, rfl⟩
    refine wp_code (c := seenR28) (by kernel_rfl) ?_
    refine seen_mem i qm hqm _ _ _ _ _ _ _ _ _ _ _ _ _ _ _ _ _ _ _ _ _ _ _ _ _ _ _ _ _ _ _ _ _ _ _ _ _ _ _ _ _ _ _ _ _ _ _ _ _ _ _ _ _ _ _ _ _ _ _ _ _ _ _ _ _ _ _ _ _ _ _ _ _ _ _ _ _ _ _ _ _ _ _ _ _ _ _ _ _ _ _ _ _ _ _ _ _ _ _ _ _ _ _ _ _ _ _ _ _ _ _ _ _ _ _ _ _ _ _ _ _ _ _ _ _ _ _ _ _ _ _ _ _ _ _ _ _ _ _ _ _ _ _ _ _ _ _ _ _ _ _ _ _ _ _ _ _ _ _ _ _ _ _ _ _ _ _ _ _ _ _ _ _ _ _ _ _ _ _ _ _ _ _ _ _ _ _ _ _ _ _ _ _ _ _ _ _ _ _ _ _ _ _ _ _ _ _ _ _ _ _ _ _ _ _ _ _ _ _ _ _ _ _ _ _ _ _ _ _ _ _ _ _ _ _ _ _ _ _ _ ((H.out.fix _ (.inl ⟨.inl rfl, HNS.out⟩)).1.trans KI.out) ?_
    intro _ _ _ _ _ _ _ _ _ _ _ _ _ _ _ _ _ _
    cases hqm' : qm
    · rw [hqm'] at hqm
      clear hqm'
      cases hj : seenJ i.op
      · have hev := HSA.out.one_ HCR.out hqm hj
        obtain rfl : nx = 1 := by have := HNX.out; rw [hev] at this; exact this.symm
        rw [hev] at H
        have HJ := Lib.hid hj
        have hpc := HSA.out.next HCR.out hj
        have HPC := Lib.hid hpc
        clear hj hqm hev hpc
        go_upto_region 29 with fail
        go_wp2_with ((with_reducible refine wl_id ?_); refine wpList_val_w rfl (exec_load_row 29 _ rfl (w.heap.size + 1 + 1) rfl _ _ _ ((H.out.fix _ (.inl ⟨.inl rfl, HNS.out⟩)).1.trans KI.out) _ Tryz.underlying29 rfl infoIns) ?_)
        refine (Jump_any i _).mono ?_
        rintro e wz ⟨rfl, hb⟩
        rw [jumpR_seen HCK.out, HJ.out]
        have hH := H.out.next hb
        clear H hb
        have H := Lib.hid hH
        clear hH
        have hq : IntKind.u64.wrap ((s.pc : Int) + 5) = (R.st.pc : Int) := by rw [HPC.out, wrapU]; omega
        go_upto_region 32 with fail
        obtain ⟨bx, ox, rfl, hFx, p0, p1⟩ := (H.out.held.evs 1 rfl).at_ (k := 0) (x := ⟨1, s.pc⟩) rfl
        simp only [Nat.zero_mul, Nat.add_zero] at p0 p1
        skip
        refine wp_code (c := seenR32) (by kernel_rfl) ?_
        refine seen_end1 s R.st i _ _ _ bx ox _ _ _ _ _ _ _ _ _ _ _ _ _ _ _ _ _ _ _ _ _ _ _ _ _ _ _ _ _ _ _ _ _ _ _ _ _ _ _ _ _ _ _ _ _ _ _ _ _ _ _ _ _ _ _ _ _ _ _ _ _ _ _ _ _ _ _ _ _ _ _ _ _ _ _ _ _ _ _ _ _ _ _ _ _ _ _ _ _ _ _ _ _ _ _ _ _ _ _ _ _ _ _ _ _ _ _ _ _ _ _ _ _ _ _ _ _ _ _ _ _ _ _ _ _ _ _ _ _ _ _ _ _ _ _ _ _ _ _ _ _ _ _ _ _ _ _ _ _ _ _ _ _ _ _ _ _ _ _ _ _ _ _ _ _ _ _ _ _ _ _ _ _ _ _ _ _ _ _ _ _ _ _ _ _ _ _ _ _ _ _ _ _ _ _ _ _ _ _ _ _ _ _ _ _ _ _ _ _ _ _ _ _ _ _ _ _ _ _ _ _ _ _ _ _ _ _ _ _ _ _ _ _ _ _ _ HS.out.len HOR.out.len HCK.out HJ.out (H.out.held.get (i := 2) rfl).1 (H.out.held.get (i := 1) rfl).1 ((H.out.fix _ (.inl ⟨.inl rfl, HNS.out⟩)).1.trans KI.out) hFx p0 p1 hq ?_
        intro _ _ _ _ _ _ _ _ _ _ _ _ _ _ _ _ _ _ _ _ _ _ _ _ _ _ _ _ _ _ _ _ _ _ _ _ _ _ _ w_ hS
        clear p0 p1 hFx
        go_wp2
        go_ret
        exact ⟨rfl, (H.out.next hS).held.below⟩
      · have hev := HSA.out.jmp_ HCR.out hj
        obtain rfl : nx = 2 := by have := HNX.out; rw [hev] at this; exact this.symm
        rw [hev] at H
        have HJ := Lib.hid hj
        clear hj hqm hev
        go_upto_region 29 with fail
        go_wp2_with ((with_reducible refine wl_id ?_); refine wpList_val_w rfl (exec_load_row 29 _ rfl (w.heap.size + 1 + 1) rfl _ _ _ ((H.out.fix _ (.inl ⟨.inl rfl, HNS.out⟩)).1.trans KI.out) _ Tryz.underlying29 rfl infoIns) ?_)
        refine (Jump_any i _).mono ?_
        rintro e wz ⟨rfl, hb⟩
        rw [jumpR_seen HCK.out, HJ.out]
        have hH := H.out.next hb
        clear H hb
        have H := Lib.hid hH
        clear hH
        go_upto_region 32 with fail
        obtain ⟨bx, ox, rfl, hFx, p0, p1⟩ := (H.out.held.evs 1 rfl).at_ (k := 0) (x := ⟨1, s.pc⟩) rfl
        simp only [Nat.zero_mul, Nat.add_zero] at p0 p1
        (obtain ⟨bx2, ox2, hbx, _, q0, q1⟩ := (H.out.held.evs 1 rfl).at_ (k := 1) (x := ⟨4, R.st.pc⟩) rfl; cases hbx)
        refine wp_code (c := seenR32) (by kernel_rfl) ?_
        refine seen_endJ s R.st i _ _ _ bx ox _ _ _ _ _ _ _ _ _ _ _ _ _ _ _ _ _ _ _ _ _ _ _ _ _ _ _ _ _ _ _ _ _ _ _ _ _ _ _ _ _ _ _ _ _ _ _ _ _ _ _ _ _ _ _ _ _ _ _ _ _ _ _ _ _ _ _ _ _ _ _ _ _ _ _ _ _ _ _ _ _ _ _ _ _ _ _ _ _ _ _ _ _ _ _ _ _ _ _ _ _ _ _ _ _ _ _ _ _ _ _ _ _ _ _ _ _ _ _ _ _ _ _ _ _ _ _ _ _ _ _ _ _ _ _ _ _ _ _ _ _ _ _ _ _ _ _ _ _ _ _ _ _ _ _ _ _ _ _ _ _ _ _ _ _ _ _ _ _ _ _ _ _ _ _ _ _ _ _ _ _ _ _ _ _ _ _ _ _ _ _ _ _ _ _ _ _ _ _ _ _ _ _ _ _ _ _ _ _ _ _ _ _ _ _ _ _ _ _ _ _ _ _ _ _ _ _ _ _ _ _ _ _ _ _ _ HS.out.len HOR.out.len HCK.out HJ.out (H.out.held.get (i := 2) rfl).1 (H.out.held.get (i := 1) rfl).1 ((H.out.fix _ (.inl ⟨.inl rfl, HNS.out⟩)).1.trans KI.out) hFx p0 p1 q0 q1 ?_
        intro _ _ _ _ _ _ _ _ _ _ _ _ _ _ _ _ _ _ _ _ _ _ _ _ _ _ _ _ _ _ _ _ _ _ _ _ _ _ _ w_ hS
        clear p0 p1 hFx
        go_wp2
        go_ret
        exact ⟨rfl, (H.out.next hS).held.below⟩
    · rw [hqm'] at hqm
      clear hqm'
      have hj := seen_mj hqm
      obtain ⟨ev, hev⟩ := HSA.out.mem_ HCR.out hqm
      obtain rfl : nx = 2 := by have := HNX.out; rw [hev] at this; exact this.symm
      rw [hev] at H
      have HJ := Lib.hid hj
      have hpc := HSA.out.next HCR.out hj
      have HPC := Lib.hid hpc
      clear hj hqm hev hpc
      have hq : IntKind.u64.wrap ((s.pc : Int) + 5) = (R.st.pc : Int) := by rw [HPC.out, wrapU]; omega
      go_upto_region 32 with fail
      obtain ⟨bx, ox, rfl, hFx, p0, p1⟩ := (H.out.held.evs 1 rfl).at_ (k := 0) (x := ⟨1, s.pc⟩) rfl
      simp only [Nat.zero_mul, Nat.add_zero] at p0 p1
      skip
      refine wp_code (c := seenR32) (by kernel_rfl) ?_
      refine seen_end2 s R.st i _ _ _ bx ox _ _ _ _ _ _ _ _ _ _ _ _ _ _ _ _ _ _ _ _ _ _ _ _ _ _ _ _ _ _ _ _ _ _ _ _ _ _ _ _ _ _ _ _ _ _ _ _ _ _ _ _ _ _ _ _ _ _ _ _ _ _ _ _ _ _ _ _ _ _ _ _ _ _ _ _ _ _ _ _ _ _ _ _ _ _ _ _ _ _ _ _ _ _ _ _ _ _ _ _ _ _ _ _ _ _ _ _ _ _ _ _ _ _ _ _ _ _ _ _ _ _ _ _ _ _ _ _ _ _ _ _ _ _ _ _ _ _ _ _ _ _ _ _ _ _ _ _ _ _ _ _ _ _ _ _ _ _ _ _ _ _ _ _ _ _ _ _ _ _ _ _ _ _ _ _ _ _ _ _ _ _ _ _ _ _ _ _ _ _ _ _ _ _ _ _ _ _ _ _ _ _ _ _ _ _ _ _ _ _ _ _ _ _ _ _ _ _ _ _ _ _ _ _ _ _ _ _ _ _ _ _ _ _ _ _ HS.out.len HOR.out.len HCK.out HJ.out (H.out.held.get (i := 2) rfl).1 (H.out.held.get (i := 1) rfl).1 ((H.out.fix _ (.inl ⟨.inl rfl, HNS.out⟩)).1.trans KI.out) hFx p0 p1 hq ?_
      intro _ _ _ _ _ _ _ _ _ _ _ _ _ _ _ _ _ _ _ _ _ _ _ _ _ _ _ _ _ _ _ _ _ _ _ _ _ _ _ w_ hS
      clear p0 p1 hFx
      go_wp2
      go_ret
      exact ⟨rfl, (H.out.next hS).held.below⟩
  · have hev := HSA.out.bad (by rw [HCR.out]; exact hcR)
    obtain rfl : nx = 0 := by have := HNX.out; rw [hev] at this; exact this.symm
    have e2 : (cd == 0) = false := by simpa using hcR
    have e3 : (cd != 0) = true := by simpa using hcR
    clear hcR hev
    go_wp2_with fail
    refine (SameEv_any _ _ _ _ R.evs R.evs HLE.out (H.out.held.evs 1 rfl) (H.out.held.evs 0 rfl) (fun _ hk => hk)).mono ?_
    rintro e w9 ⟨rfl, hb⟩
    rw [sameE_self]
    have hH := H.out.next hb
    clear H hb
    have H := Lib.hid hH
    clear hH
    go_wp2_with fail
    go_ret
    exact ⟨rfl, H.out.held.below⟩
end Go.Proofs.YtmanhikpccnfaaaGreat
