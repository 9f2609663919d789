/- The stepper's plain, shift, chain, pick, see. -/
import Derived.Test.YtmanhikpccnfaaaGreatStepA
import Derived.Maps.AppendAt
namespace Go.Proofs.YtmanhikpccnfaaaGreat
open Go.RowKit

variable {w : World} {base b : Nat} {x : Stp} {evs : List Ev}

set_option maxRecDepth 100000 in
set_option maxHeartbeats 400000 in
theorem plain_any (h : Run w base b x evs) (r : Nat) :
    Calls Tryz.prog 92 #[.pointer (some ⟨b, 0, none⟩), .int .u64 r] w fun e w' => e = .returned (.int .u64 r) ∧ Below base w w' ∧ Run w' base b { x with st := (valueF.plainS x.st r).1 } evs := by
  have HF := Lib.hid (flags_any h _ #[] false r false (fun _ _ => rfl) (plain1_any w))
  clear h
  go_enter Tryz.func92, Tryz.ntmps92
  go_wp2_with fail
  refine HF.out.mono ?_
  rintro e w1 ⟨rfl, hb, hr⟩
  have HB := Lib.hid (And.intro hb hr)
  clear hb hr
  go_wp2
  go_ret
  exact ⟨rfl, HB.out.1, HB.out.2⟩

theorem odd_bit (b : Nat) (h : b < 18446744073709551616) : Go.bits .and .u64 (b : Int) 1 = ((b % 2 : Nat) : Int) := by
  have := bits_and_u64_nat b 1 h (by decide)
  rw [show ((1 : Nat) : Int) = 1 from rfl] at this
  rw [this, Nat.and_one_is_mod]

set_option maxRecDepth 100000 in
set_option maxHeartbeats 400000 in
theorem shift_any (h : Run w base b x evs) (r bit : Nat) (hbit : bit < 18446744073709551616) :
    Calls Tryz.prog 98 #[.pointer (some ⟨b, 0, none⟩), .int .u64 r, .int .u64 bit] w fun e w' => e = .returned (.int .u64 r) ∧ Below base w w' ∧ Run w' base b { x with st := (valueF.shiftS x.st r bit).1 } evs := by
  have hz : ((r : Int) == 0) = (r == 0) := by rw [Bool.eq_iff_iff, beq_iff_eq, beq_iff_eq]; omega
  have hb1 := odd_bit bit hbit
  have hb2 : (((bit % 2 : Nat) : Int) == 1) = (bit % 2 == 1) := by rw [Bool.eq_iff_iff, beq_iff_eq, beq_iff_eq]; omega
  obtain ⟨z, hze⟩ : ∃ z, z = (r == 0) := ⟨_, rfl⟩
  obtain ⟨o, hoe⟩ : ∃ o, o = (bit % 2 == 1) := ⟨_, rfl⟩
  have e1 : (valueF.shiftS x.st r bit).1 = { x.st with cf := o, zf := z } := by rw [hze, hoe]; rfl
  rw [e1]
  rw [← hze] at hz
  rw [← hoe] at hb2
  generalize bit % 2 = bb at *
  have H := Lib.hid h
  obtain ⟨_, c17, _, c19, _⟩ := h.cells
  have f17 := h.frozen 17
  have f19 := h.frozen 19
  clear h hze hoe e1
  go_enter Tryz.func98, Tryz.ntmps98
  go_wp2
  go_ret
  exact ⟨rfl, ((Below.refl _ _).setCell H.out.le _).setCell H.out.le _, (H.out.setCf o).setZf z⟩

set_option maxRecDepth 100000 in
set_option maxHeartbeats 400000 in
theorem chainC_any (h : Run w base b x evs) (a bb : Nat) (ha : a < 18446744073709551616) (hb : bb < 18446744073709551616) :
    Calls Tryz.prog 101 #[.pointer (some ⟨b, 0, none⟩), .pointer (some ⟨b, 17, none⟩), .int .u64 a, .int .u64 bb] w fun e w' => e = .returned (.int .u64 ((addF a bb x.st.cf).1 : Nat)) ∧ Below base w w' ∧ Run w' base b { x with st := { x.st with cf := (addF a bb x.st.cf).2 } } evs := by
  have HA := Lib.hid (Add_any a bb x.st.cf w ha hb)
  have H := Lib.hid h
  obtain ⟨_, c17, c18, _⟩ := h.cells
  have f17 := h.frozen 17
  clear h
  go_enter Tryz.func101, Tryz.ntmps101
  go_wp2_with ((with_reducible refine (HA.out).mono ?_); rintro e w1 ⟨rfl, rfl⟩)
  go_ret
  exact ⟨rfl, (Below.refl _ _).setCell H.out.le _, H.out.setCf _⟩

set_option maxRecDepth 100000 in
set_option maxHeartbeats 400000 in
theorem chainO_any (h : Run w base b x evs) (a bb : Nat) (ha : a < 18446744073709551616) (hb : bb < 18446744073709551616) :
    Calls Tryz.prog 101 #[.pointer (some ⟨b, 0, none⟩), .pointer (some ⟨b, 18, none⟩), .int .u64 a, .int .u64 bb] w fun e w' => e = .returned (.int .u64 ((addF a bb x.st.of_).1 : Nat)) ∧ Below base w w' ∧ Run w' base b { x with st := { x.st with of_ := (addF a bb x.st.of_).2 } } evs := by
  have HA := Lib.hid (Add_any a bb x.st.of_ w ha hb)
  have H := Lib.hid h
  obtain ⟨_, c17, c18, _⟩ := h.cells
  have f17 := h.frozen 18
  clear h
  go_enter Tryz.func101, Tryz.ntmps101
  go_wp2_with ((with_reducible refine (HA.out).mono ?_); rintro e w1 ⟨rfl, rfl⟩)
  go_ret
  exact ⟨rfl, (Below.refl _ _).setCell H.out.le _, H.out.setOf _⟩

theorem pick_any (c : Bool) (a bb : Nat) (w : World) :
    Calls Tryz.prog 104 #[.bool c, .int .u64 a, .int .u64 bb] w fun e w' => e = .returned (.int .u64 ((if c then a else bb : Nat))) ∧ w = w' := by
  cases c <;>
  · go_enter Tryz.func104, Tryz.ntmps104
    go_wp2
    go_ret
    exact ⟨rfl, rfl⟩

theorem rows_flat (evs : List Ev) : (evs.map evRow).flatten.length = evs.length * 2 := by
  induction evs with
  | nil => rfl
  | cons y ys ih => rw [List.map_cons, List.flatten_cons, List.length_append, ih]; simp [evRow]; omega

theorem Run.seen {w w' : World} {base b : Nat} {x : Stp} {evs evs' : List Ev} (h : Run w base b x evs) {v : Value} (hk : w'.heap[b]? = w.heap[b]?) (hrow : w'.ownsRow base 47 2 v evs'.length (evs'.map evRow).flatten) (hf : evs'.length ≤ 100) :
    Run (w'.setCell ⟨b, 30, none⟩ v) base b { x with l := v } evs' := by
  have hne : ∀ g, v.ownBlock = some g → g ≠ b := by
    intro g hg e
    subst e
    rcases hrow.2 with ⟨h1, _⟩ | ⟨g', cap, cur, h1, _, h2, _⟩
    · rw [h1] at hg; cases hg
    · rw [h1] at hg
      cases hg
      rw [hk, h.at_] at h2
      injection h2 with h2
      injection h2 with _ h2
      exact absurd h2 (by decide)
  refine ⟨?_, h.ok, h.le, own_keep2 hrow fun g hg => Below.heap_setCell _ _ _ _ (hne g hg), hf⟩
  rw [World.setCell, ← set_l x h.ok.len v]
  simp only [Array.getElem?_modify, if_pos, hk, h.at_, Option.map_some]
  simp

set_option maxRecDepth 100000 in
set_option maxHeartbeats 400000 in
theorem see_any (h : Run w base b x evs) (kind : Int) (at_ : Nat) (hf : evs.length ≤ 90) :
    Calls Tryz.prog 37 #[.pointer (some ⟨b, 0, none⟩), .int .i64 kind, .int .u64 at_] w fun e w' => e = .returned (.tuple #[]) ∧ Below base w w' ∧ ∃ v, Run w' base b { x with l := v } (evs ++ [⟨kind, at_⟩]) := by
  obtain ⟨i0, hi, hz0, hz1, hz2⟩ := info_parts infoEv
  have H := Lib.hid h
  obtain ⟨_, _, _, _, _, _, _, _, _, _, _, _, _, _, c30, _⟩ := h.cells
  have f30 := h.frozen 30
  have hbl := h.lt
  have HBS := Lib.hid h.base_le
  have hrow := h.row
  obtain ⟨A30, cp, hxl⟩ : ∃ A30 cp, x.l = .slice A30 evs.length cp := by
    rcases hrow.2 with ⟨h1, h2⟩ | ⟨g', cap', cur, hv, _⟩
    · exact ⟨none, 0, by rw [h1, h2]⟩
    · exact ⟨_, _, hv⟩
  rw [hxl] at hrow c30
  have hap : ∀ k, (Value.slice A30 evs.length cp).ownBlock = some k → k ≠ b := by rw [← hxl]; exact h.apart
  have HROW := Lib.hid hrow
  generalize hen : evs.length = n at *
  have HEN := Lib.hid hen
  have HAP := Lib.hid hap
  clear h hrow hxl hen hap
  go_enter Tryz.func37, Tryz.ntmps37
  go_wp2_with ((at_builtin; refine wpList_append_own_at _ rfl _ _ 42 rfl base 47 i0 (.agg #[.int .i64 0, .int .u64 0]) 2 16 Tryz.underlying42 hi hz0 hz1 hz2 rfl (by decide) _ n _ rfl (HROW.out.alloc _) ⟨w.heap.size, 0, none⟩ 1 1 [.int .i64 kind, .int .u64 at_] rfl (by simp) (World.news_of_block (cs := #[.int .i64 kind, .int .u64 at_]) (t := 47) (fr := (0, 0)) (heap_alloc_new w _)) (by simp [Value.oneCell']) (by unfold maxLen; omega) (by omega) (by have := HBS.out; simp; omega) ?_); intro v w1 hown hg _ _; obtain ⟨A31, cp31, rfl⟩ : ∃ A c, v = .slice A (n + 1) c := by { rcases hown.2 with ⟨h1, h2⟩ | ⟨g', cap', cur, hv, _⟩; exact absurd h2 (by omega); exact ⟨_, _, hv⟩ }; have hne : some b ≠ (Value.slice A30 n cp).ownBlock := fun e => HAP.out b e.symm rfl; have c30' := hg.cell (a := ⟨b, 30, none⟩) (v := .slice A30 n cp) (by go_simp) hne; have f30' := World.frozen?_of_block (a := ⟨b, 30, none⟩) (hg.block b (by simp; omega) hne); rw [show (w.alloc (.cells #[.int .i64 kind, .int .u64 at_] 47)).frozen? ⟨b, 30, none⟩ = false by go_simp] at f30'; have HO := Lib.hid hown; have HG := Lib.hid hg; clear hown hg hne)
  go_end0
  have hlast : (evs ++ [(⟨kind, at_⟩ : Ev)]).length = n + 1 := by rw [List.length_append, HEN.out]; rfl
  have hk : w1.heap[b]? = w.heap[b]? := (HG.out.block b (by simp; omega) (fun e => HAP.out b e.symm rfl)).trans (Below.heap_alloc _ _ _ hbl)
  refine ⟨rfl, ?_, _, H.out.seen hk ?_ (by omega)⟩
  · exact (((Below.refl _ _).alloc HBS.out _).grown HG.out (by have := HBS.out; simp; omega) (fun k hk => (own_lt HROW.out k hk).2)).setCell H.out.le _
  · rw [hlast, List.map_append, List.flatten_append]; exact HO.out
end Go.Proofs.YtmanhikpccnfaaaGreat
