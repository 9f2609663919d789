/- both's question: ask. -/
import Derived.Test.YtjbabpnepjhllaaGreatAskA
namespace Go.Proofs.YtjbabpnepjhllaaGreat
open Go.RowKit

/-- What ask reads: four boxes, two rows; K: the blocks that are kept. -/
structure AskAt (w : World) (K : Nat → Prop) (bl ba bb bt : Nat) (vl vt : Value) (l : List Fct) (a b : Int) (told : List Int) : Prop where
  cl : w.cell? ⟨bl, 0, none⟩ = some vl
  ca : w.cell? ⟨ba, 0, none⟩ = some (.int .i64 a)
  cb : w.cell? ⟨bb, 0, none⟩ = some (.int .i64 b)
  ct : w.cell? ⟨bt, 0, none⟩ = some vt
  kl : K bl
  ka : K ba
  kb : K bb
  kt : K bt
  fl : FactsAt w K vl l
  ft : NumsAt w K vt told
  lt : ∀ k, K k → k < w.heap.size
/-- A later world in which K is kept. -/
structure AskTo (K : Nat → Prop) (w w' : World) : Prop where
  same : SameOn K w w'
  size : w.heap.size ≤ w'.heap.size
theorem AskTo.refl (K : Nat → Prop) (w : World) : AskTo K w w := ⟨SameOn.refl _ _, Nat.le_refl _⟩
theorem AskTo.drew {K : Nat → Prop} {w w' : World} (h : AskTo K w w') : AskTo K w w'.drew := ⟨h.same, h.size⟩
theorem AskTo.below {K : Nat → Prop} {w w1 w2 : World} (h : AskTo K w w1) (hb : Below w1.heap.size w1 w2) (hK : ∀ k, K k → k < w.heap.size) : AskTo K w w2 :=
  ⟨h.same.trans (SameOn.of_below hb fun k hk => Nat.lt_of_lt_of_le (hK k hk) h.size), Nat.le_trans h.size hb.size⟩
theorem AskAt.to {w w' : World} {K : Nat → Prop} {bl ba bb bt : Nat} {vl vt : Value} {l : List Fct} {a b : Int} {told : List Int} (h : AskAt w K bl ba bb bt vl vt l a b told) (ht : AskTo K w w') : AskAt w' K bl ba bb bt vl vt l a b told :=
  ⟨(World.cell?_of_block (ht.same _ h.kl)).trans h.cl, (World.cell?_of_block (ht.same _ h.ka)).trans h.ca, (World.cell?_of_block (ht.same _ h.kb)).trans h.cb, (World.cell?_of_block (ht.same _ h.kt)).trans h.ct, h.kl, h.ka, h.kb, h.kt, Rows.keep h.fl ht.same, Rows.keep h.ft ht.same, fun k hk => Nat.lt_of_lt_of_le (h.lt k hk) ht.size⟩
/-- What a function of a variable answers, in whatever later world. -/
def OfOk (K : Nat → Prop) (w : World) (g : Nat) (cap : Array Value) (φ : Int → Fct) : Prop :=
  ∀ (v : Int) (W : World), AskTo K w W → Calls Tryz.prog g (#[.int .i64 v] ++ cap) W fun e w' => e = .returned (.agg #[.int .i64 (φ v).kind, .int .i64 (φ v).a, .int .i64 (φ v).b]) ∧ Below W.heap.size W w'
theorem AskTo.of {K : Nat → Prop} {w w' : World} (hK : ∀ k, K k → k < w.heap.size) (h : Below w.heap.size w w') : AskTo K w w' := ⟨SameOn.of_below h hK, h.size⟩
set_option maxRecDepth 100000 in
set_option maxHeartbeats 4000000 in
/-- ask where the facts are not known: nothing is told. -/
theorem ask_no (g : Nat) (cap : Array Value) (φ : Int → Fct) (w : World) (K : Nat → Prop) (bl ba bb bt bo : Nat) (Al : Option Addr) (nl cl : Nat) (vt : Value) (l : List Fct) (a b : Int) (told : List Int) (eg : ∀ args w, (callFunc g args).run Tryz.prog w = .ok (.enter g args) w)
    (h : AskAt w K bl ba bb bt (.slice Al nl cl) vt l a b told) (hof : OfOk K w g cap φ) (hn : l.length ≤ 100000) (hno : (knowsF l (φ a) && knowsF l (φ b)) = false) :
    Calls Tryz.prog 132 #[.func (.func g) #[] cap, .pointer (some ⟨bl, 0, none⟩), .pointer (some ⟨ba, 0, none⟩), .pointer (some ⟨bb, 0, none⟩), .pointer (some ⟨bt, 0, none⟩), .pointer (some ⟨bo, 0, none⟩)] w fun e w' => e = .returned (.tuple #[]) ∧ Below w.heap.size w w' := by
  have HC := Lib.hid h
  have HOF := Lib.hid hof
  have HLT := Lib.hid h.lt
  have HKA := Lib.hid (show ∀ W, AskTo K w W → Calls Tryz.prog 19 #[.slice Al nl cl, .agg #[.int .i64 (φ a).kind, .int .i64 (φ a).a, .int .i64 (φ a).b]] W fun e w' => e = .returned (.bool (knowsF l (φ a))) ∧ Below W.heap.size W w' from fun W hW => Knows_any _ _ l W K ((h.to hW).fl) (h.to hW).lt hn)
  have HKB := Lib.hid (show ∀ W, AskTo K w W → Calls Tryz.prog 19 #[.slice Al nl cl, .agg #[.int .i64 (φ b).kind, .int .i64 (φ b).a, .int .i64 (φ b).b]] W fun e w' => e = .returned (.bool (knowsF l (φ b))) ∧ Below W.heap.size W w' from fun W hW => Knows_any _ _ l W K ((h.to hW).fl) (h.to hW).lt hn)
  generalize knowsF l (φ a) = p at HKA hno
  generalize knowsF l (φ b) = q at HKB hno
  clear h hof hn
  cases p
  · clear hno
    go_enter Tryz.func132, Tryz.ntmps132
    go_wp2
    have hS := (Below.refl w.heap.size w).drew
    (refine wp_region_lines (Below w.heap.size w) (by kernel_rfl) (by kernel_rfl) (Below.refl w.heap.size w).drew ?_)
    (try simp only [])
    repeat (first | (refine runL_no (by rfl) ?_; (try simp only [Act.put, List.setIfInBounds_toArray, List.set_cons_zero, List.set_cons_succ])) | (refine runL_val (v := ?_) (by rfl) ?_ ?_; rotate_left; (focus (intro w_ hw_; have hc_ := HC.out.to (AskTo.of HLT.out hw_); have c0_ := hc_.cl; have c1_ := hc_.ca; have c2_ := hc_.cb; go_simp; (try with_reducible rfl); done)); (try simp only [Act.put, List.setIfInBounds_toArray, List.set_cons_zero, List.set_cons_succ])) | (refine runL_call (f := ?_) (args := ?_) (w1 := ?_) (by rfl) (by rfl) ?_ ?_; rotate_left 3; (focus (go_simp; refine ⟨⟨?_, ?_⟩, ?_⟩ <;> with_reducible rfl)); (first | (go_at_fn g; refine (HOF.out a _ (AskTo.of HLT.out hS)).mono ?_) | (go_at_fn g; refine (HOF.out b _ (AskTo.of HLT.out hS)).mono ?_) | (with_reducible refine (HKA.out _ (AskTo.of HLT.out hS)).mono ?_) | (with_reducible refine (HKB.out _ (AskTo.of HLT.out hS)).mono ?_)); rintro e w1 ⟨rfl, hb1⟩; replace hS := hS.trans (hb1.mono hS.size); clear hb1; refine ⟨_, rfl, .inr hS, ?_⟩; (try simp only [Act.put, List.setIfInBounds_toArray, List.set_cons_zero, List.set_cons_succ])))
    (refine runL_nil ?_)
    go_wp2
    go_end0
    exact ⟨rfl, hS⟩
  · cases q
    · clear hno
      go_enter Tryz.func132, Tryz.ntmps132
      go_wp2
      have hS := (Below.refl w.heap.size w).drew
      (refine wp_region_lines (Below w.heap.size w) (by kernel_rfl) (by kernel_rfl) (Below.refl w.heap.size w).drew ?_)
      (try simp only [])
      repeat (first | (refine runL_no (by rfl) ?_; (try simp only [Act.put, List.setIfInBounds_toArray, List.set_cons_zero, List.set_cons_succ])) | (refine runL_val (v := ?_) (by rfl) ?_ ?_; rotate_left; (focus (intro w_ hw_; have hc_ := HC.out.to (AskTo.of HLT.out hw_); have c0_ := hc_.cl; have c1_ := hc_.ca; have c2_ := hc_.cb; go_simp; (try with_reducible rfl); done)); (try simp only [Act.put, List.setIfInBounds_toArray, List.set_cons_zero, List.set_cons_succ])) | (refine runL_call (f := ?_) (args := ?_) (w1 := ?_) (by rfl) (by rfl) ?_ ?_; rotate_left 3; (focus (go_simp; refine ⟨⟨?_, ?_⟩, ?_⟩ <;> with_reducible rfl)); (first | (go_at_fn g; refine (HOF.out a _ (AskTo.of HLT.out hS)).mono ?_) | (go_at_fn g; refine (HOF.out b _ (AskTo.of HLT.out hS)).mono ?_) | (with_reducible refine (HKA.out _ (AskTo.of HLT.out hS)).mono ?_) | (with_reducible refine (HKB.out _ (AskTo.of HLT.out hS)).mono ?_)); rintro e w1 ⟨rfl, hb1⟩; replace hS := hS.trans (hb1.mono hS.size); clear hb1; refine ⟨_, rfl, .inr hS, ?_⟩; (try simp only [Act.put, List.setIfInBounds_toArray, List.set_cons_zero, List.set_cons_succ])))
      (refine runL_nil ?_)
      go_wp2
      go_end0
      exact ⟨rfl, hS⟩
    · cases hno
end Go.Proofs.YtjbabpnepjhllaaGreat
