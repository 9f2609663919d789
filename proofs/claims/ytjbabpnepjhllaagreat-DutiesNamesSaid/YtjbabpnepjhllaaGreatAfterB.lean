/- duties.after. -/
import Derived.Test.YtjbabpnepjhllaaGreatNewsF
import Derived.Test.YtjbabpnepjhllaaGreatPlainBound
namespace Go.Proofs.YtjbabpnepjhllaaGreat
open Go.RowKit

theorem flat_facts (l : List Fct) : (l.map factRow).flatten = cellsOfF l := rfl
theorem facts_own {w : World} {base : Nat} {v : Value} {l : List Fct} (h : w.ownsRow base 45 3 v l.length (cellsOfF l)) : FactsAt w (fun k => v.ownBlock = some k) v l := by
  have hsz : ∀ r ∈ (l.map factRow), r.length = 3 := by intro r hr; obtain ⟨x, _, rfl⟩ := List.mem_map.1 hr; rfl
  rcases Nat.eq_zero_or_pos l.length with h0 | hpos
  · obtain rfl := List.eq_nil_of_length_eq_zero h0
    rcases h.2 with ⟨rfl, _⟩ | ⟨g, cap, cur, rfl, _, _, hnc, _⟩
    · exact ⟨none, 0, rfl, by simp, by simp, fun h => absurd rfl h⟩
    · exact ⟨_, cap, rfl, by simp, by simp, fun h => absurd rfl h⟩
  · rw [← flat_facts] at h
    obtain ⟨g, cap, rfl, hg, hnc, hrow⟩ := rowsBlk_of_own h hsz hpos
    refine ⟨_, cap, by simp, by simpa using hnc, hsz, fun _ => ⟨g, 0, rfl, rfl, fun i j r u hr hu => ?_⟩⟩
    rw [Nat.zero_add]
    exact hrow.cell hr hu
/-- A row of facts is told. -/
def FactsSay (l : List Fct) (w : World) (e : Ending) (w' : World) : Prop := ∃ A n c, e = .returned (.slice A n c) ∧ FactsAt w' (fun k => k < w'.heap.size) (.slice A n c) l ∧ Below w.heap.size w w'
theorem FactsSay.of {base : Nat} {l : List Fct} {w : World} {e : Ending} {w' : World} (h : SortedSays base l w e w') : FactsSay l w e w' := by
  obtain ⟨v, rfl, ho, hb⟩ := h
  obtain ⟨A, c, rfl⟩ := own_form ho
  exact ⟨A, _, c, rfl, Rows.mono (facts_own ho) (fun k hk => (own_lt ho k hk).1), hb⟩
/-- A row of facts is told: in the blocks of F, or new ones. -/
def FactsIn (F : Nat → Prop) (l : List Fct) (w : World) (e : Ending) (w' : World) : Prop := ∃ A n c, e = .returned (.slice A n c) ∧ FactsAt w' (fun k => F k ∨ (w.heap.size ≤ k ∧ k < w'.heap.size)) (.slice A n c) l ∧ Below w.heap.size w w'
theorem FactsIn.say {F : Nat → Prop} {l : List Fct} {w : World} {e : Ending} {w' : World} (h : FactsIn F l w e w') (hF : ∀ k, F k → k < w.heap.size) : FactsSay l w e w' := by
  obtain ⟨A, n, c, he, hf, hb⟩ := h
  exact ⟨A, n, c, he, Rows.mono hf fun k hk => by have := hb.size; rcases hk with hk | hk; (have := hF k hk; omega); exact hk.2, hb⟩
theorem FactsIn.of {F : Nat → Prop} {l : List Fct} {w : World} {e : Ending} {w' : World} (h : SortedSays w.heap.size l w e w') : FactsIn F l w e w' := by
  obtain ⟨v, rfl, ho, hb⟩ := h
  obtain ⟨A, c, rfl⟩ := own_form ho
  exact ⟨A, _, c, rfl, Rows.mono (facts_own ho) (fun k hk => .inr ⟨(own_lt ho k hk).2, (own_lt ho k hk).1⟩), hb⟩
theorem FactsSay.to {w W : World} {l : List Fct} {e : Ending} {w' : World} (h : FactsSay l W e w') (hb : Below w.heap.size w W) : FactsSay l w e w' := by
  obtain ⟨A, n, c, he, hf, hb2⟩ := h
  exact ⟨A, n, c, he, hf, hb.trans (hb2.mono hb.size)⟩
theorem cell_grown {w w' : World} {m : Nat} {p : Addr} (h : w.grownBy w' (some m)) (hp : p.block < w.heap.size) (hn : p.block ≠ m) : w'.cell? p = w.cell? p :=
  World.cell?_of_block (h.block p.block hp (fun e => hn (by cases e; rfl)))
set_option maxRecDepth 100000 in
set_option maxHeartbeats 4000000 in
theorem after_in (w : World) (F : Nat → Prop) (Av Al : Option Addr) (nv cv nl cl : Nat) (vo vr : Value) (vs : List KVar) (o : KOp) (l : List Fct) (hv : KVarsAt w F (.slice Av nv cv) vs) (hf : FactsAt w F (.slice Al nl cl) l) (hF : ∀ k, F k → k < w.heap.size)
    (hp : PartsK vs.length o) (ho : KOpOk o) (hl : ∀ f ∈ l, FctOk f) (hn : l.length ≤ 40000) (hvn : vs.length ≤ 256) :
    Calls Tryz.prog 50 #[.agg #[.slice Av nv cv, vo, vr], .agg #[.int .i64 o.kind, .int .i64 o.d, .int .i64 o.e, .int .i64 o.a, .int .i64 o.b, .int .i64 o.c, .int .u64 o.imm], .slice Al nl cl] w (FactsIn F (afterF vs o l) w) := by
  obtain ⟨W, hW⟩ : ∃ W, W = (w.alloc (.cells #[.slice Av nv cv, vo, vr] 25)).alloc (.cells #[.int .i64 o.kind, .int .i64 o.d, .int .i64 o.e, .int .i64 o.a, .int .i64 o.b, .int .i64 o.c, .int .u64 o.imm] 43) := ⟨_, rfl⟩
  obtain ⟨h, hb⟩ := news_start w F Av nv cv vo vr (.slice Al nl cl) vs o l hv hf hF
  rw [show (w.alloc (.cells #[.slice Av nv cv, vo, vr] 25)).alloc (.cells (kopRow o).toArray 43) = W from hW.symm] at h hb
  have hz : W.heap.size = w.heap.size + 2 := by rw [hW]; simp
  have hnl := (rows_len hf).1
  have hlen := newsF_len vs o l
  have HF0 := Lib.hid (show FactsAt W F (.slice Al nl cl) l from Rows.keep hf (SameOn.of_below hb hF))
  have HW := Lib.hid hW
  have H := Lib.hid h
  have HB := Lib.hid hb
  have HZ := Lib.hid hz
  have HNW := Lib.hid (news_any W (fun k => k < W.heap.size) Av Al nv cv nl cl vo vr vs o l h.vars h.facts (fun k hk => hk) hp (by omega) hvn)
  have HOF := Lib.hid (fun (w1 : World) (h1 : Below W.heap.size W w1) => of_any w1 (fun k => k < w1.heap.size) (h.next h1).facts (fun k hk => hk) hl (by omega))
  have HDEL := Lib.hid (fun (w1 w2 : World) (h1 : Below W.heap.size W w1) (h2 : Below w1.heap.size w1 w2) (h3 : SetAt w2 w1.heap.size nl (sortF l)) => DeleteFunc_any 78 #[.pointer (some ⟨w.heap.size + 1, 0, none⟩)] w1.heap.size nl (sortF l) w2 (goneF o) (enters_of Tryz.func78 (by kernel_rfl) rfl) h3
    (fun W3 f hg => after1_any o f (w.heap.size + 1) W3
      ((cell_grown hg (show w.heap.size + 1 < _ by have := h1.size; have := h2.size; omega) (show w.heap.size + 1 ≠ _ by have := h1.size; omega)).trans ((h.next h1).next h2).op.d)
      ((cell_grown hg (show w.heap.size + 1 < _ by have := h1.size; have := h2.size; omega) (show w.heap.size + 1 ≠ _ by have := h1.size; omega)).trans ((h.next h1).next h2).op.e)
      (by have := hg.size; have := h1.size; have := h2.size; omega)))
  have HPUT := Lib.hid (fun (w1 w2 w3 : World) (v1 : Value) (h1 : Below W.heap.size W w1) (h2 : Below w1.heap.size w1 w2) (h3 : w2.grownBy w3 (some w1.heap.size)) (h4 : SetAt w3 w1.heap.size nl ((sortF l).filter fun f => !goneF o f)) (h5 : w1.ownsRow W.heap.size 45 3 v1 (newsF vs o l).length (cellsOfF (newsF vs o l))) =>
    (show ∃ A c, v1 = .slice A (newsF vs o l).length c ∧ Calls Tryz.prog 53 #[.map (some w1.heap.size), .slice A (newsF vs o l).length c] w3 fun e w' => e = .returned (.tuple #[]) ∧ SetAt w' w1.heap.size (nl + (newsF vs o l).length) (putsF ((sortF l).filter fun f => !goneF o f) (newsF vs o l)) ∧ Chg (fun k => k = w1.heap.size) w3 w' from by
      obtain ⟨A, c, rfl⟩ := own_form h5
      refine ⟨A, c, rfl, put_any w3 (fun k => (Value.slice A (newsF vs o l).length c).ownBlock = some k) h4 (Rows.keep (facts_own h5) (fun k hk => ?_)) (fun k hk => ?_) (newsF_ok ho hl (by omega)) (by omega)⟩
      · have := own_lt h5 k hk
        rw [h3.block k (by have := h2.size; omega) (fun e => by cases e; omega), h2.block k this.1]
      · have := own_lt h5 k hk
        exact ⟨by have := h2.size; have := h3.size; omega, by omega⟩))
  have HSRT := Lib.hid (fun (w4 : World) (b : Nat) (h4 : SetAt w4 b (nl + (newsF vs o l).length) (putsF ((sortF l).filter fun f => !goneF o f) (newsF vs o l))) => sorted_any w4 h4 (ord_putsF ((ord_sortF l).filter _)) (by omega))
  clear hW h hb hz hv hf hF hnl hlen
  by_cases k2 : o.kind = 2 ∧ o.d = o.a
  · have HAF := Lib.hid (show afterF vs o l = l by unfold afterF; rw [if_pos k2])
    have d1 : (o.kind == 2) = true := by rw [beq_iff_eq]; exact k2.1
    have d2 : (o.d == o.a) = true := by rw [beq_iff_eq]; exact k2.2
    clear k2 HNW HOF HDEL HPUT HSRT
    go_enter Tryz.func50, Tryz.ntmps50
    go_upto_region 1 with (first | go_in)
    rw [← HW.out]
    clear HW
    have c0 := H.out.op.kind
    have c1 := H.out.op.d
    have c3 := H.out.op.a
    go_wp2
    go_ret
    rw [HAF.out]
    exact ⟨_, _, _, rfl, Rows.mono HF0.out (fun k hk => .inl hk), HB.out⟩
  have HAF := Lib.hid (show afterF vs o l = putsF ((sortF l).filter fun f => !goneF o f) (newsF vs o l) by unfold afterF; rw [if_neg k2])
  have HPUT := Lib.hid (fun (w1 w2 w3 : World) (A : Option Addr) (c : Nat) (h1 : Below W.heap.size W w1) (h2 : Below w1.heap.size w1 w2) (h3 : w2.grownBy w3 (some w1.heap.size)) (h4 : SetAt w3 w1.heap.size nl ((sortF l).filter fun f => !goneF o f)) (h5 : w1.ownsRow W.heap.size 45 3 (.slice A (newsF vs o l).length c) (newsF vs o l).length (cellsOfF (newsF vs o l))) => show Calls Tryz.prog 53 #[.map (some w1.heap.size), .slice A (newsF vs o l).length c] w3 fun e w' => e = .returned (.tuple #[]) ∧ SetAt w' w1.heap.size (nl + (newsF vs o l).length) (putsF ((sortF l).filter fun f => !goneF o f) (newsF vs o l)) ∧ Chg (fun k => k = w1.heap.size) w3 w' from by
    obtain ⟨A', c', e, hc⟩ := HPUT.out w1 w2 w3 (.slice A (newsF vs o l).length c) h1 h2 h3 h4 h5
    cases e
    exact hc)
  cases d1 : (o.kind == 2)
  · clear k2
    go_enter Tryz.func50, Tryz.ntmps50
    go_upto_region 1 with (first | go_in)
    rw [← HW.out]
    clear HW
    have c0 := H.out.op.kind
    have c1 := H.out.op.d
    have c3 := H.out.op.a
    have c2 := H.out.op.e
    have c4 := H.out.op.b
    have c5 := H.out.op.c
    have c6 := H.out.op.imm
    have c7 := H.out.c0
    have c8 := H.out.c1
    have c9 := H.out.c2
    go_wp2_with (first
      | ((with_reducible refine HNW.out.mono ?_); rintro e w1 ⟨v1, rfl, ho1, hb1⟩; have HO1 := Lib.hid ho1; have HB1 := Lib.hid hb1; obtain ⟨A1, e1, rfl⟩ := own_form ho1; clear ho1 hb1)
      | ((with_reducible refine (HOF.out w1 HB1.out).mono ?_); rintro e w2 ⟨rfl, hs2, hb2⟩; have HS2 := Lib.hid hs2; have HB2 := Lib.hid hb2; clear hs2 hb2)
      | ((with_reducible refine (HDEL.out w1 w2 HB1.out HB2.out HS2.out).mono ?_); rintro e w3 ⟨rfl, hs3, hg3⟩; have HS3 := Lib.hid hs3; have HG3 := Lib.hid hg3; clear hs3 hg3)
      | ((with_reducible refine (HPUT.out w1 w2 w3 _ _ HB1.out HB2.out HG3.out HS3.out HO1.out).mono ?_); rintro e w4 ⟨rfl, hs4, hc4⟩; have HS4 := Lib.hid hs4; have HC4 := Lib.hid hc4; clear hs4 hc4)
      | ((with_reducible refine (HSRT.out w4 w1.heap.size HS4.out).mono ?_); rintro e w5 ⟨v5, rfl, ho5, hb5⟩; have HO5 := Lib.hid ho5; have HB5 := Lib.hid hb5; clear ho5 hb5)
      | go_in)
    go_ret
    have hb3 : Below W.heap.size W w3 := by
      have h1 := HB1.out
      have h2 := HB2.out
      have h3 := HG3.out
      exact (h1.trans (h2.mono h1.size)).trans ⟨h3.os, h3.tape, h3.output, h3.size, fun k hk => h3.block k (by have := h1.size; have := h2.size; omega) (fun e => by cases e; have := h1.size; omega)⟩
    have hb4 : Below W.heap.size W w4 := hb3.trans (HC4.out.below (fun k hk e => by subst e; have := HB1.out.size; omega) hb3.size)
    rw [HAF.out]
    exact FactsIn.of ⟨v5, rfl, ownsRow_base HO5.out (Nat.le_trans HB.out.size hb4.size), HB.out.trans ((hb4.trans (HB5.out.mono hb4.size)).mono HB.out.size)⟩
  · have d2 : (o.d == o.a) = false := beq_eq_false_iff_ne.2 fun e => k2 ⟨by simpa using d1, e⟩
    clear k2
    go_enter Tryz.func50, Tryz.ntmps50
    go_upto_region 1 with (first | go_in)
    rw [← HW.out]
    clear HW
    have c0 := H.out.op.kind
    have c1 := H.out.op.d
    have c3 := H.out.op.a
    have c2 := H.out.op.e
    have c4 := H.out.op.b
    have c5 := H.out.op.c
    have c6 := H.out.op.imm
    have c7 := H.out.c0
    have c8 := H.out.c1
    have c9 := H.out.c2
    go_wp2_with (first
      | ((with_reducible refine HNW.out.mono ?_); rintro e w1 ⟨v1, rfl, ho1, hb1⟩; have HO1 := Lib.hid ho1; have HB1 := Lib.hid hb1; obtain ⟨A1, e1, rfl⟩ := own_form ho1; clear ho1 hb1)
      | ((with_reducible refine (HOF.out w1 HB1.out).mono ?_); rintro e w2 ⟨rfl, hs2, hb2⟩; have HS2 := Lib.hid hs2; have HB2 := Lib.hid hb2; clear hs2 hb2)
      | ((with_reducible refine (HDEL.out w1 w2 HB1.out HB2.out HS2.out).mono ?_); rintro e w3 ⟨rfl, hs3, hg3⟩; have HS3 := Lib.hid hs3; have HG3 := Lib.hid hg3; clear hs3 hg3)
      | ((with_reducible refine (HPUT.out w1 w2 w3 _ _ HB1.out HB2.out HG3.out HS3.out HO1.out).mono ?_); rintro e w4 ⟨rfl, hs4, hc4⟩; have HS4 := Lib.hid hs4; have HC4 := Lib.hid hc4; clear hs4 hc4)
      | ((with_reducible refine (HSRT.out w4 w1.heap.size HS4.out).mono ?_); rintro e w5 ⟨v5, rfl, ho5, hb5⟩; have HO5 := Lib.hid ho5; have HB5 := Lib.hid hb5; clear ho5 hb5)
      | go_in)
    go_ret
    have hb3 : Below W.heap.size W w3 := by
      have h1 := HB1.out
      have h2 := HB2.out
      have h3 := HG3.out
      exact (h1.trans (h2.mono h1.size)).trans ⟨h3.os, h3.tape, h3.output, h3.size, fun k hk => h3.block k (by have := h1.size; have := h2.size; omega) (fun e => by cases e; have := h1.size; omega)⟩
    have hb4 : Below W.heap.size W w4 := hb3.trans (HC4.out.below (fun k hk e => by subst e; have := HB1.out.size; omega) hb3.size)
    rw [HAF.out]
    exact FactsIn.of ⟨v5, rfl, ownsRow_base HO5.out (Nat.le_trans HB.out.size hb4.size), HB.out.trans ((hb4.trans (HB5.out.mono hb4.size)).mono HB.out.size)⟩
theorem after_any (w : World) (F : Nat → Prop) (Av Al : Option Addr) (nv cv nl cl : Nat) (vo vr : Value) (vs : List KVar) (o : KOp) (l : List Fct) (hv : KVarsAt w F (.slice Av nv cv) vs) (hf : FactsAt w F (.slice Al nl cl) l) (hF : ∀ k, F k → k < w.heap.size)
    (hp : PartsK vs.length o) (ho : KOpOk o) (hl : ∀ f ∈ l, FctOk f) (hn : l.length ≤ 40000) (hvn : vs.length ≤ 256) :
    Calls Tryz.prog 50 #[.agg #[.slice Av nv cv, vo, vr], .agg #[.int .i64 o.kind, .int .i64 o.d, .int .i64 o.e, .int .i64 o.a, .int .i64 o.b, .int .i64 o.c, .int .u64 o.imm], .slice Al nl cl] w (FactsSay (afterF vs o l) w) :=
  (after_in w F Av Al nv cv nl cl vo vr vs o l hv hf hF hp ho hl hn hvn).mono fun _ _ h => h.say hF
end Go.Proofs.YtjbabpnepjhllaaGreat
