/- The keys of a set of facts, one by one: maps.Keys. -/
import Derived.Test.YtjbabpnepjhllaaGreatKeyF
import Derived.RangeFuncNested
import Derived.RangeFuncGives
import Derived.Sort.MapsRangeIn
import Derived.Sort.KeysCollected
import Derived.Maps.AppendAt
import Derived.Shelf.AbstractIn
import Derived.RegionIn
import Derived.LoopNIn
import Derived.LoopIn
import Derived.TacticsInMore
import Derived.OwnWalkIn
import Derived.Shelf.Abstract
namespace Go.Proofs.YtjbabpnepjhllaaGreat
open Go.RowKit Go.Maps Go.Sort Go.Shelf

/-- Facts that have come. -/
def CollF (D0 : DataW Unit) (left : Lit → Bool) (ss : List Fct) : Prop := (ss.Nodup ∧ ∀ f ∈ ss, FctOk f) ∧ ∀ f, FctOk f → (f ∈ ss ↔ (Maps.has D0 (keyL f) = true ∧ left (keyL f) = false))
theorem CollF.start (D0 : DataW Unit) : CollF D0 (Maps.has D0) [] := ⟨⟨List.nodup_nil, fun f h => by simp at h⟩, fun f _ => by cases Maps.has D0 (keyL f) <;> simp⟩
theorem CollF.step {D0 : DataW Unit} {left : Lit → Bool} {ss : List Fct} (h : CollF D0 left ss) {x : Fct} {y : DataW Unit} (hx : FctOk x) (hlk : left (keyL x) = true) (hat : ∀ zd, D0.atKey (keyL x) zd = y) :
    CollF D0 (fun z => left z && !z.sameKey (keyL x)) (ss ++ [x]) := by
  have hhas : Maps.has D0 (keyL x) = true := has_true_of_atKey hat
  have hnew : x ∉ ss := fun hm => by have := ((h.2 x hx).1 hm).2; rw [hlk] at this; cases this
  refine ⟨⟨List.nodup_append.2 ⟨h.1.1, by simp, fun a ha b hb => by simp at hb; subst hb; exact fun e => hnew (e ▸ ha)⟩, fun f hf => ?_⟩, fun f hf => ?_⟩
  · rcases List.mem_append.1 hf with hf | hf
    · exact h.1.2 f hf
    · simp at hf; subst hf; exact hx
  · by_cases e : f = x
    · subst e; simp [hhas, WideAt.sameKey_self (isKeyF f)]
    · have hne : (keyL f).sameKey (keyL x) = false := sameKey_ne fun e' => e (keyL_inj hf hx e')
      simp [h.2 f hf, e, hne]
/-- The facts of a set, each once, in some order. -/
def AllOf (l ss : List Fct) : Prop := ss.Nodup ∧ ∀ f, f ∈ ss ↔ f ∈ l
theorem CollF.all {D0 : DataW Unit} {left : Lit → Bool} {ss l : List Fct} (h : CollF D0 left ss) (hd : SetD D0 l) (hl : ∀ kl, left kl = false) : AllOf l ss := by
  refine ⟨h.1.1, fun f => ⟨fun hf => ?_, fun hf => ?_⟩⟩
  · exact (hd.has f (h.1.2 f hf)).1 ((h.2 f (h.1.2 f hf)).1 hf).1
  · exact (h.2 f (hd.ok f hf)).2 ⟨(hd.has f (hd.ok f hf)).2 hf, hl _⟩
theorem encF_inj {x y : Fct} (h : factV x = factV y) : x = y := factV_inj h

set_option maxRecDepth 100000 in
set_option maxHeartbeats 1000000 in
theorem keys1_in (F : Fence) (n : Nat) (h10 : F.fn 116) (hro : F.round = none) (hn : 1 ≤ n) (l Bm b nn : Nat) (D0 : DataW Unit) (L : List Fct) (hD : SetD D0 L) (J : List Fct → World → Prop)
    (hY : ∀ pre x W, J pre W → pre.length < Maps.size D0 → YieldAt F (n - 1) Tryz.prog l #[factV x] W fun e W' => e = .returned (.bool true) ∧ J (pre ++ [x]) W' ∧ KeepsWalks W W')
    (W : World) (hJ : AbidesFrom W.heap.size J) (hm : W.cell? ⟨Bm, 0, none⟩ = some (.map (some b))) (hown : W.ownsMap Tryz.prog 45 (unitElem (H := Unit)) b nn D0) (h0 : J [] W) :
    CallsIn F n Tryz.prog 116 #[.func (.yield l) #[] #[], .pointer (some ⟨Bm, 0, none⟩)] W fun e W' => (∃ v, e = .returned v) ∧ ∃ ss : List Fct, AllOf L ss ∧ J ss W' := by
  refine callsIn_of_wp Tryz.func116 rfl h10 ?_ hro
  simp only [Tryz.ntmps116, List.size_toArray, List.length_cons, List.length_nil, Nat.reduceAdd, Nat.reduceSub, Array.replicate_succ, Array.replicate_zero, List.push_toArray, List.append_toArray, List.nil_append, List.cons_append]
  gi_wp2_with (first
    | (gi_at_range; refine wpListIn_range_own _ rfl _ 85 rfl 45 106 keyedF Tryz.underlying85 _ b nn _ rfl hown ?_; intro w0 hrg0 hg0 hs0)
    | gi_in)
  go_frame
  gi_loopw [3] (fun _ wr => ∃ (left : Lit → Bool) (cnt : Nat) (ss : List Fct), wr.ranges Tryz.prog 45 (unitElem (H := Unit)) b W.heap.size nn D0 left cnt ∧ ss.length + cnt ≤ Maps.size D0 ∧ CollF D0 left ss ∧ J ss wr)
    (fun _ wr => wr.rangeLeft b W.heap.size)
  case atStart =>
    exact ⟨_, _, [], hrg0, by simp, CollF.start D0, hJ [] W w0 none h0 hg0 (fun r e => by cases e)⟩
  case round =>
    obtain ⟨left, cnt, ss, hrg, hcs, hC, hJs⟩ := hrel
    gi_wp2_with (first
      | (gi_at_next; refine wpListIn_next_ranges _ rfl _ rfl 45 keyedF (unitElem (H := Unit)) factV (fun _ : Unit => Value.agg #[]) (fun key kl hk => by obtain ⟨f, _, rfl, _⟩ := keyOf_inv hk; exact ⟨f, rfl⟩) (fun v y hv => by obtain ⟨rfl, _⟩ := unitElem_inv hv; exact ⟨(), rfl⟩) b W.heap.size nn _ _ _ rfl hrg ?_ ?_)
      | gi_in)
    · intro hc0 hl0
      gi_wp2
      go_end0
      exact ⟨⟨_, rfl⟩, ss, hC.all hD hl0, hJs⟩
    · intro x c kl yd w2 cnt2 hkey hlk hv hat hrg2 hlt hg2 hs2 hen
      obtain ⟨x', hxo, ex, rfl⟩ := keyOf_inv hkey
      obtain rfl : x = x' := encF_inj ex
      have hJ2 : J ss w2 := hJ ss wr w2 (some W.heap.size) hJs hg2 (fun r e => by cases e; exact ⟨Nat.le_refl _, hrg.iter_walk⟩)
      clear hs2
      have hga : w2.grownBy (w2.alloc (.cells #[.int .i64 x.kind, .int .i64 x.a, .int .i64 x.b] 45)) none := ⟨rfl, rfl, rfl, by simp, fun k hk _ => Below.heap_alloc _ _ k hk⟩
      have hJa := hJ ss w2 _ none hJ2 hga (fun r e => by cases e)
      obtain ⟨fn, tmps, assign, body, hy, hR⟩ := hY ss x _ hJa (by omega)
      unfold factV at hen hy ⊢
      clear hga
      gi_wp2
      refine hR.mono ?_
      rintro e W3 ⟨rfl, hJ3, hk3⟩
      gi_wp2
      have hrg3 := hrg2.of_walks ((KeepsWalks.alloc _ _).trans hk3)
      go_roundw
      case rel => exact ⟨_, cnt2, ss ++ [x], hrg3, by simp; omega, hC.step hxo hlk hat, hJ3⟩
      case measure => rw [hrg3.left_eq, hrg.left_eq]; exact hlt

theorem keys_gives (F : Fence) (n : Nat) (h10 : F.fn 116) (hro : F.round = none) (hn : 1 ≤ n) (Bm b nn : Nat) (D0 : DataW Unit) (L : List Fct) (hD : SetD D0 L) (w : World) (hBm : Bm < w.heap.size)
    (hm : w.cell? ⟨Bm, 0, none⟩ = some (.map (some b))) (hown : w.ownsMap Tryz.prog 45 (unitElem (H := Unit)) b nn D0) :
    SeqGives F n Tryz.prog 116 #[.pointer (some ⟨Bm, 0, none⟩)] factV (AllOf L) (Maps.size D0) w := fun l J W hW hJ hY h0 => by
  have hown' : W.ownsMap Tryz.prog 45 (unitElem (H := Unit)) b nn D0 := by
    have hbl := hown.lt
    obtain ⟨es, clock, hb, Ft, hs, hD⟩ := hown
    exact ⟨es, clock, (hW.block b hbl).trans hb, Ft, hs, hD⟩
  exact keys1_in F n h10 hro hn l Bm b nn D0 L hD J hY W hJ ((hW.cell (p := ⟨Bm, 0, none⟩) hBm).trans hm) hown' h0

set_option maxHeartbeats 1000000 in
/-- maps.Keys: the map is boxed; the function value captures the box. -/
theorem keys_in (F : Fence) (n : Nat) (h7 : F.fn 81) (hro : F.round = none) (mb : Option Nat) (w : World) :
    CallsIn F n Tryz.prog 81 #[.map mb] w fun e w' => e = .returned (.func (.func 116) #[] #[.pointer (some ⟨w.heap.size, 0, none⟩)]) ∧ w' = w.alloc (.cells #[.map mb] 85) := by
  refine callsIn_of_wp Tryz.func81 rfl h7 ?_ hro
  simp only [Tryz.ntmps81, List.size_toArray, List.length_cons, List.length_nil, Nat.reduceAdd, Nat.reduceSub, Array.replicate_succ, Array.replicate_zero, List.push_toArray, List.append_toArray, List.nil_append, List.cons_append]
  gi_wp2
  go_ret
  exact ⟨rfl, rfl⟩
end Go.Proofs.YtjbabpnepjhllaaGreat
