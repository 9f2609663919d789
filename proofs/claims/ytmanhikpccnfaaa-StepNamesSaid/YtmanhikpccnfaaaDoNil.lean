/- step.Do without a memory; step.Same. -/
import Derived.Test.YtmanhikpccnfaaaHeld
namespace Go.Proofs.Ytmanhikpccnfaaa
open Go.RowKit

set_option maxRecDepth 100000 in
set_option maxHeartbeats 1600000 in
theorem Do_nil (s : St) (i : Ins) (size : Int) (w : World) (hs : StOk s) (hi : InsOk i) (hgood : (chkP i && (decide (1 ≤ size) && decide (size ≤ 15))) = true) :
    Calls Try.prog 8 #[.agg (stRow s).toArray, .agg (insRow i).toArray, .int .i64 size, .pointer none] w fun e w' => e = .returned (.tuple #[.agg (stRow s).toArray, .slice none 0 0, .int .i64 1]) ∧ Below w.heap.size w w' := by
  have HS := Lib.hid hs
  have HCHK := Lib.hid (fun w => iCheck_any i hi w)
  obtain ⟨hz, _⟩ := zero_of_info zeroInfoSt
  obtain ⟨W1, hW1, hb1, hs1, _, _⟩ := boxed w (stRow s).toArray 30
  have k1 : W1.heap[w.heap.size]? = some (.cells (stRow s).toArray 30 (0, 0)) := by rw [hW1]; exact heap_alloc_new w _
  obtain ⟨W2, hW2, hb2, hs2, hn2, _⟩ := boxed W1 (insRow i).toArray 37
  obtain ⟨W3, hW3, hb3, hs3, _, _⟩ := boxed W2 zeroSt.toArray 30
  have HSZ := Lib.hid (stRow_size hs)
  have HONE := Lib.hid (stRow_one s)
  generalize hcs : (stRow s).toArray = cs at *
  generalize hzs : zeroSt.toArray = zs at *
  have HCS := Lib.hid hcs
  have HZS := Lib.hid hzs
  have e1 : W1.heap.size = w.heap.size + 1 := hs1
  have e2 : W2.heap.size = w.heap.size + 1 + 1 := by omega
  have e3 : W3.heap.size = w.heap.size + 1 + 1 + 1 := by omega
  have b0 : W3.heap[w.heap.size]? = some (.cells cs 30 (0, 0)) := (hb3.block _ (by omega)).trans ((hb2.block _ (by omega)).trans k1)
  have b1 : W3.heap[w.heap.size + 1]? = some (.cells (insRow i).toArray 37 (0, 0)) := (hb3.block _ (by omega)).trans (by rw [hW2, ← e1]; exact heap_alloc_new W1 _)
  have b2 : W3.heap[w.heap.size + 1 + 1]? = some (.cells zs 30 (0, 0)) := by rw [hW3, ← e2]; exact heap_alloc_new W2 _
  have HB0 := Lib.hid b0
  have HB1 := Lib.hid b1
  have HB2 := Lib.hid b2
  have HW := Lib.hid (show W3 = ((w.alloc (.cells cs 30)).alloc (.cells (insRow i).toArray 37)).alloc (.cells zs 30) by rw [hW3, hW2, hW1])
  have HBW := Lib.hid (hb1.trans ((hb2.trans (hb3.mono (by omega))).mono (by omega)))
  have HE3 := Lib.hid e3
  clear hs hi hW1 hW2 hW3 hb1 hb2 hb3 hs1 hs2 hs3 k1 hn2 e1 e2 e3 hcs hzs b0 b1 b2
  go_enter Try.func8, Try.ntmps8
  go_wp2_with (rw [← HW.out]; refine wpList_load_row rfl 37 _ rfl (w.heap.size + 1) rfl 37 (insRow i).toArray (0, 0) _ HB1.out Try.underlying37 rfl infoIns ?_)
  refine (HCHK.out W3).mono ?_
  rintro e w4 ⟨rfl, hb4⟩
  have C0 := Lib.hid ((hb4.block _ (by have := HE3.out; omega)).trans HB0.out)
  have C1 := Lib.hid ((hb4.block _ (by have := HE3.out; omega)).trans HB1.out)
  have C2 := Lib.hid ((hb4.block _ (by have := HE3.out; omega)).trans HB2.out)
  have HB4 := Lib.hid (HBW.out.trans (hb4.mono (by have := HE3.out; omega)))
  have HSZ4 := Lib.hid (show w.heap.size + 1 + 1 + 1 ≤ w4.heap.size by have := hb4.size; have := HE3.out; omega)
  clear hb4 HB0 HB1 HB2 HW HBW hz
  have hbad : Below w.heap.size w (w4.setRow (w.heap.size + 1 + 1) cs) := Below.setRow HB4.out (by omega) _
  have HBAD := Lib.hid hbad
  rw [Bool.and_eq_true, Bool.and_eq_true, decide_eq_true_eq, decide_eq_true_eq] at hgood
  obtain ⟨hc, hz1, hz2⟩ := hgood
  have HC := Lib.hid hc
  have d1 : decide (size < 1) = false := by simp; omega
  have d2 : decide (15 < size) = false := by simp; omega
  clear hbad hc hz1 hz2
  rw [HC.out]
  unfold errOf
  go_wp2_with (first | (refine wpList_load_row rfl 30 _ rfl w.heap.size rfl 30 cs (0, 0) _ C0.out Try.underlying30 rfl (by rw [HSZ.out]; exact infoSt) ?_) | (refine wpList_store_row rfl 30 _ _ rfl (w.heap.size + 1 + 1) cs rfl rfl 30 zs C2.out (by rw [HSZ.out]; exact infoSt) (by rw [HSZ.out, ← HZS.out]; rfl) HONE.out ?_))
  refine bodyPost_ret (results3 (ty := 30) rfl _ _ (w.heap.size + 1 + 1) 30 cs (0, 0) _ rfl (setRow_heap _ _ _ _ _ _ C2.out) Try.underlying30 rfl (by rw [HSZ.out]; exact infoSt)) rfl ?_
  exact ⟨rfl, HBAD.out⟩

theorem SSame_any (v u : Value) (w : World) (F : Nat → Prop) (a b : List Ev) (hn : a.length ≤ 9223372036854775807) (ha : EvsAt w F v a) (hb : EvsAt w F u b) (hF : ∀ k, F k → k < w.heap.size) :
    Calls Try.prog 14 #[v, u] w fun e w' => e = .returned (.bool (sameE a b)) ∧ Below w.heap.size w w' := by
  have H := Lib.hid (EqualEv_any v u w F a b hn ha hb hF)
  obtain ⟨A, c, rfl, _⟩ := ha.form
  obtain ⟨B, d, rfl, _⟩ := hb.form
  clear hn ha hb hF
  go_enter Try.func14, Try.ntmps14
  go_wp2_with fail
  refine H.out.mono ?_
  rintro e w1 ⟨rfl, hb1⟩
  have HB := Lib.hid hb1
  clear hb1
  go_wp2
  go_ret
  exact ⟨rfl, HB.out⟩

section
variable {w0 w w' : World} {F : Nat → Prop} {m : Value} {rs rs' : List Reg} {B : List (Nat × St)} {E : List (Value × List Ev)}
theorem Held.same (h : Held w0 w F m rs B E) (i j : Nat) {v u : Value} {l q : List Ev} (hi : E[i]? = some (v, l)) (hj : E[j]? = some (u, q)) (hl : l.length ≤ 100) :
    Calls Try.prog 14 #[v, u] w fun e w' => e = .returned (.bool (sameE l q)) ∧ Held w0 w' F m rs B E :=
  (SSame_any v u w _ l q (by omega) (h.evs i hi) (h.evs j hj) (fun _ hk => hk)).mono fun _ _ ⟨he, hb⟩ => ⟨he, h.next hb⟩
theorem Held.DoNil (h : Held w0 w F m rs B E) (i : Nat) {g : Nat} {s : St} (hi : B[i]? = some (g, s)) (ins : Ins) (hio : InsOk ins) (size : Int) (hgood : (chkP ins && (decide (1 ≤ size) && decide (size ≤ 15))) = true) :
    Calls Try.prog 8 #[.agg (stRow s).toArray, .agg (insRow ins).toArray, .int .i64 size, .pointer none] w fun e w' => e = .returned (.tuple #[.agg (stRow s).toArray, .slice none 0 0, .int .i64 1]) ∧ Held w0 w' F m rs B E :=
  (Do_nil s ins size w (h.ok i hi) hio hgood).mono fun _ _ ⟨he, hb⟩ => ⟨he, h.next hb⟩
theorem Held.Address (h : Held w0 w F m rs B E) {s : St} (hs : StOk s) (i : Ins) :
    Calls Try.prog 13 #[.agg (stRow s).toArray, .agg #[.int .i64 i.base, .int .i64 i.index, .int .i64 i.scale, .int .i64 i.disp]] w fun e w' => e = .returned (.int .u64 (addrF s i)) ∧ Held w0 w' F m rs B E :=
  (Address_any s i hs w).mono fun _ _ ⟨he, hb⟩ => ⟨he, h.next hb⟩
end
end Go.Proofs.Ytmanhikpccnfaaa
