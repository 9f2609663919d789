/- ask where the facts are known: they are told. -/
import Derived.Test.YtjbabpnepjhllaaGreatAskB
namespace Go.Proofs.YtjbabpnepjhllaaGreat
open Go.RowKit

/-- What ask leaves: the box of out holds a slice of one's own with these facts. -/
structure AskOut (bo base : Nat) (v0 : Value) (outs : List Fct) (w : World) (A : Option Addr) (m c : Nat) (w' : World) : Prop where
  box : w'.heap[bo]? = some (.cells #[.slice A m c] 39 (0, 0))
  own : w'.ownsRow base 45 3 (.slice A m c) m (cellsOfF outs)
  len : m = outs.length
  new : ∀ k, (Value.slice A m c).ownBlock = some k → v0.ownBlock = some k ∨ w.heap.size ≤ k
  chg : Chg (fun k => k = bo ∨ v0.ownBlock = some k) w w'
theorem AskOut.cell {bo base : Nat} {v0 : Value} {outs : List Fct} {w w' : World} {A : Option Addr} {m c : Nat} (h : AskOut bo base v0 outs w A m c w') : w'.cell? ⟨bo, 0, none⟩ = some (.slice A m c) := by simp [World.cell?, h.box]
theorem AskOut.to {bo base : Nat} {v0 : Value} {outs : List Fct} {w w' : World} {A : Option Addr} {m c : Nat} {K : Nat → Prop} (h : AskOut bo base v0 outs w A m c w') (hK : ∀ k, K k → k < w.heap.size) (hbo : ¬ K bo) (hv : ∀ k, v0.ownBlock = some k → ¬ K k) : AskTo K w w' :=
  ⟨h.chg.same fun k hk => ⟨hK k hk, fun e => by rcases e with rfl | e
                                                · exact hbo hk
                                                · exact hv k e hk⟩, h.chg.size⟩
set_option maxRecDepth 100000 in
set_option maxHeartbeats 4000000 in
theorem ask_yes (g : Nat) (cap : Array Value) (φ : Int → Fct) (w : World) (K : Nat → Prop) (bl ba bb bt bo base : Nat) (Al : Option Addr) (nl cl : Nat) (At : Option Addr) (nt ct : Nat) (l : List Fct) (a b : Int) (told : List Int) (Ao : Option Addr) (mo co : Nat) (out : List Fct) (eg : ∀ args w, (callFunc g args).run Tryz.prog w = .ok (.enter g args) w)
    (h : AskAt w K bl ba bb bt (.slice Al nl cl) (.slice At nt ct) l a b told) (hof : OfOk K w g cap φ) (hn : l.length ≤ 100000) (hyes : (knowsF l (φ a) && knowsF l (φ b)) = true)
    (hbo : ¬ K bo) (hvo : ∀ k, (Value.slice Ao mo co).ownBlock = some k → ¬ K k ∧ k ≠ bo) (hout : AskOut bo base (.slice Ao mo co) out w Ao mo co w) (hbase : base ≤ w.heap.size) (hm : mo + nt ≤ 100000) :
    Calls Tryz.prog 132 #[.func (.func g) #[] cap, .pointer (some ⟨bl, 0, none⟩), .pointer (some ⟨ba, 0, none⟩), .pointer (some ⟨bb, 0, none⟩), .pointer (some ⟨bt, 0, none⟩), .pointer (some ⟨bo, 0, none⟩)] w fun e w' => e = .returned (.tuple #[]) ∧ ∃ A m c, AskOut bo base (.slice Ao mo co) (out ++ told.map φ) w A m c w' := by
  have HC := Lib.hid h
  have HOF := Lib.hid hof
  have HLT := Lib.hid h.lt
  have HNT := Lib.hid (rows_len h.ft).1
  have HKA := Lib.hid (show ∀ W, AskTo K w W → Calls Tryz.prog 19 #[.slice Al nl cl, .agg #[.int .i64 (φ a).kind, .int .i64 (φ a).a, .int .i64 (φ a).b]] W fun e w' => e = .returned (.bool (knowsF l (φ a))) ∧ Below W.heap.size W w' from fun W hW => Knows_any _ _ l W K ((h.to hW).fl) (h.to hW).lt hn)
  have HKB := Lib.hid (show ∀ W, AskTo K w W → Calls Tryz.prog 19 #[.slice Al nl cl, .agg #[.int .i64 (φ b).kind, .int .i64 (φ b).a, .int .i64 (φ b).b]] W fun e w' => e = .returned (.bool (knowsF l (φ b))) ∧ Below W.heap.size W w' from fun W hW => Knows_any _ _ l W K ((h.to hW).fl) (h.to hW).lt hn)
  rw [Bool.and_eq_true] at hyes
  rw [hyes.1] at HKA
  rw [hyes.2] at HKB
  have HOUT := Lib.hid hout
  have HBO := Lib.hid hbo
  have HVO := Lib.hid hvo
  have HBASE := Lib.hid hbase
  clear h hof hn hyes hout hbo hvo hbase
  go_enter Tryz.func132, Tryz.ntmps132
  go_wp2
  have hS := (Below.refl w.heap.size w).drew
  (refine wp_region_lines (Below w.heap.size w) (by kernel_rfl) (by kernel_rfl) (Below.refl w.heap.size w).drew ?_)
  (try simp only [])
  repeat (first | (refine runL_no (by rfl) ?_; (try simp only [Act.put, List.setIfInBounds_toArray, List.set_cons_zero, List.set_cons_succ])) | (refine runL_val (v := ?_) (by rfl) ?_ ?_; rotate_left; (focus (intro w_ hw_; have hc_ := HC.out.to (AskTo.of HLT.out hw_); have c0_ := hc_.cl; have c1_ := hc_.ca; have c2_ := hc_.cb; go_simp; (try with_reducible rfl); done)); (try simp only [Act.put, List.setIfInBounds_toArray, List.set_cons_zero, List.set_cons_succ])) | (refine runL_call (f := ?_) (args := ?_) (w1 := ?_) (by rfl) (by rfl) ?_ ?_; rotate_left 3; (focus (go_simp; refine ⟨⟨?_, ?_⟩, ?_⟩ <;> with_reducible rfl)); (first | (go_at_fn g; refine (HOF.out a _ (AskTo.of HLT.out hS)).mono ?_) | (go_at_fn g; refine (HOF.out b _ (AskTo.of HLT.out hS)).mono ?_) | (with_reducible refine (HKA.out _ (AskTo.of HLT.out hS)).mono ?_) | (with_reducible refine (HKB.out _ (AskTo.of HLT.out hS)).mono ?_)); rintro e w1 ⟨rfl, hb1⟩; replace hS := hS.trans (hb1.mono hS.size); clear hb1; refine ⟨_, rfl, .inr hS, ?_⟩; (try simp only [Act.put, List.setIfInBounds_toArray, List.set_cons_zero, List.set_cons_succ])))
  (refine runL_nil ?_)
  have hc1 := (HC.out.to (AskTo.of HLT.out hS)).ct
  have HS := Lib.hid hS
  clear hS
  have HO0 := Lib.hid (show AskOut bo base (.slice Ao mo co) out w Ao mo co w1 from ⟨(HS.out.block bo (lt_of_block HOUT.out.box)).trans HOUT.out.box, HOUT.out.own.kept (grownBy_of_below HS.out) (by cases hh : (Value.slice Ao mo co).ownBlock <;> simp), HOUT.out.len, fun k hk => .inl hk, Chg.of_below HS.out⟩)
  go_wp2
  go_loopw [8, 23] (fun _ j wr => ∃ k : Nat, k ≤ nt ∧ j = .int .i64 k ∧ ∃ (A : Option Addr) (m c : Nat), AskOut bo base (.slice Ao mo co) (out ++ (told.take k).map φ) w A m c wr) (fun _ j _ => nt - (intOf j).toNat)
  case atStart => exact ⟨0, by omega, rfl, Ao, mo, co, by simpa using HO0.out⟩
  case round =>
    obtain ⟨k, hk, rfl, A, m, c, hao⟩ := hrel
    by_cases hlt : k < nt
    · have d1 : decide (k < nt) = true := decide_eq_true hlt
      obtain ⟨x, hx⟩ : ∃ s, told[k]? = some s := ⟨_, List.getElem?_eq_getElem (by have := HNT.out; omega)⟩
      have hto := hao.to HLT.out HBO.out (fun k hk => (HVO.out k hk).1)
      obtain ⟨gt, ot, rfl, hgt, c0⟩ := (HC.out.to hto).ft.at_ hx
      have HTO := Lib.hid hto.drew
      have HBX := Lib.hid (show wr.drew.heap[bo]? = some (.cells #[.slice A m c] 39 (0, 0)) from hao.box)
      have HBL := Lib.hid (lt_of_block HBX.out)
      have HCO := Lib.hid (show wr.drew.cell? ⟨bo, 0, none⟩ = some (.slice A m c) from hao.cell)
      have hml : m ≤ mo + k := by
        have h1 := hao.len
        have h2 := HOUT.out.len
        rw [List.length_append, List.length_map, List.length_take] at h1
        omega
      have HM := Lib.hid (show m ≤ 1000000 by omega)
      have HNO := Lib.hid (show some bo ≠ (Value.slice A m c).ownBlock from fun e => by
        rcases hao.new bo e.symm with h1 | h1
        · exact (HVO.out bo h1).2 rfl
        · have := lt_of_block HOUT.out.box; omega)
      have HOWN := Lib.hid (show ∀ w1, Below wr.drew.heap.size wr.drew w1 → (w1.alloc (.cells (factRow (φ x)).toArray 45)).ownsRow base 45 3 (.slice A m c) m (cellsOfF (out ++ (told.take k).map φ)) from fun w1 h1 => (hao.own.drew.kept (grownBy_of_below h1) (by cases hh : (Value.slice A m c).ownBlock <;> simp)).alloc _)
      have HBA := Lib.hid (show ∀ w1, Below wr.drew.heap.size wr.drew w1 → base ≤ (w1.alloc (.cells (factRow (φ x)).toArray 45)).heap.size from fun w1 h1 => by
        have h2 := h1.size
        have h3 := hao.chg.size
        have h4 := HBASE.out
        have h5 : wr.drew.heap.size = wr.heap.size := rfl
        simp; omega)
      have HAO := Lib.hid hao
      have HXK := Lib.hid hx
      have i0 : (0 : Int) ≤ (k : Int) := by omega
      have i1 : (k : Int) < (nt : Int) := by omega
      clear hao hx hto hgt hml
      go_wp2
      (refine wp_region_lines (fun w_ => w_.cell? ⟨bo, 0, none⟩ = some (.slice A m c)) (by kernel_rfl) (by kernel_rfl) HCO.out ?_)
      (try simp only [])
      repeat (first | (refine runL_no (by rfl) ?_; (try simp only [Act.put, List.setIfInBounds_toArray, List.set_cons_zero, List.set_cons_succ])) | (refine runL_val (v := ?_) (by rfl) ?_ ?_; rotate_left; (focus (intro w_ hw_; have f1_ := hw_; go_simp; (try with_reducible rfl); done)); (try simp only [Act.put, List.setIfInBounds_toArray, List.set_cons_zero, List.set_cons_succ])) | (refine runL_call (f := ?_) (args := ?_) (w1 := ?_) (by rfl) (by rfl) ?_ ?_; rotate_left 3; (focus (go_simp; refine ⟨⟨?_, ?_⟩, ?_⟩ <;> with_reducible rfl)); (go_at_fn g; refine (HOF.out x _ HTO.out).mono ?_); rintro e w1 ⟨rfl, hb1⟩; have HB1 := Lib.hid hb1; have HX1 := Lib.hid ((hb1.block bo HBL.out).trans HBX.out); clear hb1; refine ⟨_, rfl, .inr (by simp [World.cell?, HX1.out]), ?_⟩; (try simp only [Act.put, List.setIfInBounds_toArray, List.set_cons_zero, List.set_cons_succ])) | (refine runL_op (by rfl) (by rfl) (exec_fact1 (f := φ x) _ rfl rfl) (.inr (by have h1 := (Below.heap_alloc w1 (.cells (factRow (φ x)).toArray 45) bo (lt_of_block HX1.out)).trans HX1.out; simp [World.cell?, h1])) ?_; (try simp only [Act.put, List.setIfInBounds_toArray, List.set_cons_zero, List.set_cons_succ])) | (refine runL_appendF (by rfl) (by rfl) _ _ rfl (v := .slice A m c) rfl (HOWN.out w1 HB1.out) rfl (heap_alloc_new w1 _) HM.out (HBA.out w1 HB1.out) ?_; intro v2 w2 ho2 hg2 hb2; obtain ⟨A2, c2, rfl⟩ := own_form ho2; have HX2 := Lib.hid ((hg2.block bo (by have := lt_of_block HX1.out; simp; omega) (fun e => HNO.out e)).trans ((Below.heap_alloc w1 _ bo (lt_of_block HX1.out)).trans HX1.out)); have HO2 := Lib.hid ho2; have HG2 := Lib.hid hg2; have HW2 := Lib.hid hb2; clear ho2 hg2 hb2; refine ⟨by simp [World.cell?, HX2.out], ?_⟩; (try simp only [Act.put, List.setIfInBounds_toArray, List.set_cons_zero, List.set_cons_succ])) | (refine runL_skip (w1 := w2.setCell ⟨bo, 0, none⟩ (.slice A2 (m + 1) c2)) (by rfl) (by rfl) (exec_store1 39 _ _ rfl bo 0 (.slice A2 (m + 1) c2) rfl rfl (by kernel_rfl) (by simp [World.cell?, HX2.out]) (by simp [World.frozen?, HX2.out]) rfl) (.inl ⟨rfl, by kernel_rfl⟩) ?_; (try simp only [Act.put])))
      (refine runL_nil ?_)
      have hone : ∀ j, (Value.slice A2 (m + 1) c2).ownBlock = some j → (Value.slice A m c).ownBlock = some j ∨ wr.heap.size ≤ j := fun j hj => by
        rcases HW2.out with h1 | h1
        · exact .inl (h1 ▸ hj)
        · refine .inr ?_
          rw [h1] at hj
          cases hj
          have h2 := HB1.out.size
          have h5 : wr.drew.heap.size = wr.heap.size := rfl
          simp; omega
      have hbw : bo < wr.heap.size := HBL.out
      have HONE := Lib.hid hone
      have HLE := Lib.hid (show out ++ (told.take (k + 1)).map φ = (out ++ (told.take k).map φ) ++ [φ x] by rw [List.take_add_one, HXK.out, Option.toList_some, List.map_append, List.append_assoc]; rfl)
      have HEND := Lib.hid (show AskOut bo base (.slice Ao mo co) (out ++ (told.take (k + 1)).map φ) w A2 (m + 1) c2 (w2.setCell ⟨bo, 0, none⟩ (.slice A2 (m + 1) c2)) from by
        have hsz : wr.heap.size ≤ w2.heap.size := by
          have h1 := HB1.out.size
          have h2 := HG2.out.size
          have h5 : wr.drew.heap.size = wr.heap.size := rfl
          simp at h2; omega
        refine ⟨heap_setCell_box_a _ HX2.out, ?_, by rw [HLE.out, List.length_append, ← HAO.out.len]; rfl, fun j hj => ?_, ⟨?_, ?_, ?_, ?_, fun j hj hne => ?_⟩⟩
        · rw [HLE.out]
          refine HO2.out.kept (grownBy_setCell _ _ _ _) (.inr fun e => ?_)
          rcases HONE.out bo e with h1 | h1
          · exact HNO.out h1.symm
          · omega
        · rcases HONE.out j hj with h1 | h1
          · exact HAO.out.new j h1
          · have := HAO.out.chg.size; exact .inr (by omega)
        · exact HG2.out.os.trans (HB1.out.os.trans HAO.out.chg.os)
        · exact HG2.out.tape.trans (HB1.out.tape.trans HAO.out.chg.tape)
        · exact HG2.out.output.trans (HB1.out.output.trans HAO.out.chg.output)
        · have := HAO.out.chg.size; simp; omega
        · have h0 := HAO.out.chg.size
          have h5 : wr.drew.heap.size = wr.heap.size := rfl
          have h6 := HB1.out.size
          refine (Below.heap_setCell _ _ _ j (fun e => hne (.inl e))).trans ((HG2.out.block j (by simp; omega) (fun e => ?_)).trans ((Below.heap_alloc w1 _ j (by omega)).trans ((HB1.out.block j (by omega)).trans (HAO.out.chg.block j hj hne))))
          rcases HAO.out.new j e.symm with h1 | h1
          · exact hne (.inr h1)
          · omega)
      have n5 : nt ≤ 100000 := by omega
      clear hone hbw
      go_wp2
      go_roundw
      case rel => exact ⟨k + 1, hlt, by go_num, A2, m + 1, c2, HEND.out⟩
      case measure => simp [intOf]; omega
    · have d1 : decide (k < nt) = false := decide_eq_false hlt
      have HE := Lib.hid (show AskOut bo base (.slice Ao mo co) (out ++ told.map φ) w A m c wr by rw [List.take_of_length_le (by have := HNT.out; omega)] at hao; exact hao)
      clear hao
      go_wp2
      go_end0
      exact ⟨rfl, A, m, c, HE.out⟩
end Go.Proofs.YtjbabpnepjhllaaGreat
