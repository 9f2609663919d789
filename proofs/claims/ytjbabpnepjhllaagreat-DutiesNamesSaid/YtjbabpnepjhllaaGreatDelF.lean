/- maps.DeleteFunc of a set of facts; the question that duties.after asks of each. -/
import Derived.Test.YtjbabpnepjhllaaGreatHasF
import Derived.Maps.RangeWalk
import Derived.Maps.Ext
import Derived.Laws.IdiomRangeMap
import Derived.Deep.LoopGhost
namespace Go.Proofs.YtjbabpnepjhllaaGreat
open Go.RowKit Go.Maps

theorem grownBy_of_below {w w' : World} (h : Below w.heap.size w w') : w.grownBy w' none := ⟨h.os, h.tape, h.output, h.size, fun k hk _ => h.block k hk⟩
open Classical in
noncomputable def onKey (p : Fct → Bool) (kl : Lit) (_ : DataW Unit) : Bool := decide (∃ f, FctOk f ∧ kl = keyL f ∧ p f = true)
open Classical in
theorem onKey_at (p : Fct → Bool) (f : Fct) (d : DataW Unit) (hf : FctOk f) : onKey p (keyL f) d = p f := by
  unfold onKey
  by_cases h : p f = true
  · rw [h]; exact decide_eq_true ⟨f, hf, rfl, h⟩
  · have h' : p f = false := by simpa using h
    rw [h']
    refine decide_eq_false fun ⟨g, hg, e, hp⟩ => ?_
    rw [← keyL_inj hf hg e] at hp
    exact h hp
set_option maxHeartbeats 4000000 in
set_option maxRecDepth 100000 in
theorem DeleteFunc_any (g : Nat) (cb : Array Value) (b n : Nat) (l : List Fct) (w : World) (p : Fct → Bool) (eg : ∀ args w, (callFunc g args).run Tryz.prog w = .ok (.enter g args) w) (hset : SetAt w b n l)
    (hdel : ∀ (W : World) (f : Fct), w.grownBy W (some b) → Calls Tryz.prog g (#[.agg #[.int .i64 f.kind, .int .i64 f.a, .int .i64 f.b], .agg #[]] ++ cb) W fun e w' => e = .returned (.bool (p f)) ∧ Below W.heap.size W w') :
    Calls Tryz.prog 77 #[.map (some b), .func (.func g) #[] cb] w fun e w' => e = .returned (.tuple #[]) ∧ SetAt w' b n (l.filter fun f => !p f) ∧ w.grownBy w' (some b) := by
  obtain ⟨D, hown, hD⟩ := hset
  have HSD := Lib.hid hD
  obtain ⟨es0, rfl, hap, hkeys⟩ := hown.entries keyedF
  have HD := Lib.hid hdel
  have hpd := onKey_at p
  generalize onKey p = pd at hpd
  have HPD := Lib.hid hpd
  clear hdel hD hpd
  go_enter Tryz.func77, Tryz.ntmps77
  go_wp2_with (first
    | (at_range; refine wpList_range_own _ rfl _ 85 rfl 45 106 keyedF Tryz.underlying85 (unitElem (H := Unit)) b n _ rfl hown ?_; intro w0 hrg0 hg0 hs0)
    | go_in)
  go_frame
  go_loopw [8] (fun _ wr => ∃ (left : Lit → Bool) (cnt : Nat), wr.ranges Tryz.prog 45 (unitElem (H := Unit)) b w.heap.size n (Fk pd es0 left) left cnt ∧ w.grownBy wr (some b))
    (fun _ wr => wr.rangeLeft b w.heap.size)
  case atStart => exact ⟨_, _, by rw [Fk_start hkeys]; exact hrg0, hg0.but _⟩
  case round =>
    obtain ⟨left, cnt, hrg, hgw⟩ := hrel
    go_wp2_with (first
      | (at_next; refine wpList_next_ranges _ rfl _ rfl 45 keyedF (unitElem (H := Unit)) factV (fun _ : Unit => Value.agg #[]) (fun key kl hk => by obtain ⟨f, _, rfl, _⟩ := keyOf_inv hk; exact ⟨f, rfl⟩) (fun v y hv => by obtain ⟨rfl, _⟩ := unitElem_inv hv; exact ⟨(), rfl⟩) b w.heap.size n _ _ _ rfl hrg ?_ ?_)
      | go_in)
    · intro _ hl0
      go_wp2
      go_end0
      exact ⟨rfl, ⟨_, by rw [← Fk_end hl0]; exact hrg.owns, HSD.out.filter p HPD.out⟩, hgw⟩
    · intro x c kl y w1 cnt1 hkey hlx hv hat hrg1 hlt hg1 hs1 hen
      obtain ⟨x', hxo, ex, rfl⟩ := keyOf_inv hkey
      obtain rfl : x = x' := encF_inj ex
      unfold factV at hen ⊢
      clear hs1
      go_upto_region 3 with (first | go_in)
      obtain ⟨WA, hWA⟩ : ∃ WA, (w1.alloc (.cells #[.int .i64 x.kind, .int .i64 x.a, .int .i64 x.b] 45)).alloc (.cells #[] 106) = WA := ⟨_, rfl⟩
      have hz : WA.heap.size = w1.heap.size + 2 := by rw [← hWA]; simp
      have hga : w1.grownBy WA none := by rw [← hWA]; exact (World.grownBy_alloc _ _ none).trans (World.grownBy_alloc _ _ none)
      have hc : ∀ i, WA.cell? ⟨w1.heap.size, i, none⟩ = #[Value.int .i64 x.kind, .int .i64 x.a, .int .i64 x.b][i]? := fun i => by rw [← hWA, ((Below.refl _ (w1.alloc _)).alloc (Nat.le_refl _) _).cell (p := ⟨w1.heap.size, i, none⟩) (by simp), World.cell?_alloc_at _ _ _ _ rfl]
      have hc0 := hc 0
      have hc1 := hc 1
      have hc2 := hc 2
      simp only [List.getElem?_toArray, List.getElem?_cons_zero, List.getElem?_cons_succ] at hc0 hc1 hc2
      rw [hWA]
      have hgw1 := hgw.andThen hg1 (fun j hj => by cases hj; exact Or.inl (Nat.le_refl _))
      have hgwA := hgw1.andThen hga (fun j hj => by cases hj)
      have hrgA := hrg1.kept hga (by simp) (by simp)
      have HC := Lib.hid (HD.out WA x hgwA)
      have HGA := Lib.hid hgwA
      have hxk := keyOf_mk hxo
      unfold factV at hxk
      have HXK := Lib.hid hxk
      clear hWA hc hga hgw1 hgwA hxk
      have hlA1 : w1.heap.size < WA.heap.size := by omega
      have hlA2 : w1.heap.size + 1 < WA.heap.size := by omega
      clear hz
      cases hp : p x
      · rw [hp] at HC
        go_wp2_with (first
          | (go_at_fn g; refine HC.out.mono ?_; rintro e w2 ⟨rfl, hb2⟩)
          | go_in)
        have hg2 := grownBy_of_below hb2
        have hrg2 := hrgA.kept hg2 (by simp) (by simp)
        go_roundw
        case rel => exact ⟨_, cnt1, by rw [← Fk_stays hap (keyedF.key (keyOf_mk hxo)) hlx ((HPD.out _ _ hxo).trans hp) hat]; exact hrg2, HGA.out.andThen hg2 (fun j hj => by cases hj)⟩
        case measure => rw [hrg2.left_eq, hrg.left_eq]; exact hlt
      · rw [hp] at HC
        go_wp2_with (first
          | (go_at_fn g; refine HC.out.mono ?_; rintro e w2 ⟨rfl, hb2⟩
             have hg2 := grownBy_of_below hb2
             have hrg2 := hrgA.kept hg2 (by simp) (by simp)
             have k0 := hg2.cell hc0 (by simp)
             have k1 := hg2.cell hc1 (by simp)
             have k2 := hg2.cell hc2 (by simp))
          | (at_delete; refine wpList_delete_ranges _ rfl _ _ 85 45 rfl 106 keyedF Tryz.underlying85 (unitElem (H := Unit)) b w.heap.size n _ _ _ rfl hrg2 _ _ rfl HXK.out ?_; intro w3 cnt3 hrg3 hle hturn; go_frame)
          | go_in)
        rw [strike_twice] at hrg3
        go_roundw
        case rel => exact ⟨_, cnt3, by rw [← Fk_struck hap (keyedF.key (keyOf_mk hxo)) hlx ((HPD.out _ _ hxo).trans hp) hat]; exact hrg3, (HGA.out.andThen hg2 (fun j hj => by cases hj)).andThen hturn.grown (fun j hj => by cases hj; exact Or.inr rfl)⟩
        case measure => rw [hrg3.left_eq, hrg.left_eq]; omega
end Go.Proofs.YtjbabpnepjhllaaGreat
