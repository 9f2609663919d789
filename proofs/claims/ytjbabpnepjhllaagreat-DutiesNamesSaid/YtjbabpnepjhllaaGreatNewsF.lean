/- duties.news. -/
import Derived.Test.YtjbabpnepjhllaaGreatBothC
import Derived.Test.YtjbabpnepjhllaaGreatLenA
namespace Go.Proofs.YtjbabpnepjhllaaGreat
open Go.RowKit

theorem SortedSays.to {w W : World} {l : List Fct} {e : Ending} {w' : World} (h : SortedSays W.heap.size l W e w') (hb : Below w.heap.size w W) : SortedSays w.heap.size l w e w' := by
  obtain ⟨v, he, ho, hb2⟩ := h
  exact ⟨v, he, ownsRow_base ho hb.size, hb.trans (hb2.mono hb.size)⟩
/-- What news reads. -/
structure NewsAt (W : World) (bk bo : Nat) (Av : Option Addr) (nv cv : Nat) (vo vr vl : Value) (vs : List KVar) (o : KOp) (l : List Fct) : Prop where
  c0 : W.cell? ⟨bk, 0, none⟩ = some (.slice Av nv cv)
  c1 : W.cell? ⟨bk, 1, none⟩ = some vo
  c2 : W.cell? ⟨bk, 2, none⟩ = some vr
  op : OpBox W bo o
  lk : bk < W.heap.size
  lo : bo < W.heap.size
  vars : KVarsAt W (fun k => k < W.heap.size) (.slice Av nv cv) vs
  facts : FactsAt W (fun k => k < W.heap.size) vl l
theorem NewsAt.next {W w' : World} {bk bo : Nat} {Av : Option Addr} {nv cv : Nat} {vo vr vl : Value} {vs : List KVar} {o : KOp} {l : List Fct} (h : NewsAt W bk bo Av nv cv vo vr vl vs o l) (hb : Below W.heap.size W w') : NewsAt w' bk bo Av nv cv vo vr vl vs o l :=
  ⟨(hb.cell (p := ⟨bk, 0, none⟩) h.lk).trans h.c0, (hb.cell (p := ⟨bk, 1, none⟩) h.lk).trans h.c1, (hb.cell (p := ⟨bk, 2, none⟩) h.lk).trans h.c2, h.op.next hb h.lo, Nat.lt_of_lt_of_le h.lk hb.size, Nat.lt_of_lt_of_le h.lo hb.size, rows_next h.vars hb, rows_next h.facts hb⟩
theorem news_start (w : World) (F : Nat → Prop) (Av : Option Addr) (nv cv : Nat) (vo vr vl : Value) (vs : List KVar) (o : KOp) (l : List Fct) (hv : KVarsAt w F (.slice Av nv cv) vs) (hf : FactsAt w F vl l) (hF : ∀ k, F k → k < w.heap.size) :
    NewsAt ((w.alloc (.cells #[.slice Av nv cv, vo, vr] 25)).alloc (.cells (kopRow o).toArray 43)) w.heap.size (w.heap.size + 1) Av nv cv vo vr vl vs o l ∧ Below w.heap.size w ((w.alloc (.cells #[.slice Av nv cv, vo, vr] 25)).alloc (.cells (kopRow o).toArray 43)) := by
  have hb1 : Below w.heap.size w (w.alloc (.cells #[.slice Av nv cv, vo, vr] 25)) := (Below.refl _ _).alloc (Nat.le_refl _) _
  have hb2 : Below (w.alloc (.cells #[.slice Av nv cv, vo, vr] 25)).heap.size (w.alloc (.cells #[.slice Av nv cv, vo, vr] 25)) ((w.alloc (.cells #[.slice Av nv cv, vo, vr] 25)).alloc (.cells (kopRow o).toArray 43)) := (Below.refl _ _).alloc (Nat.le_refl _) _
  have hz : (w.alloc (.cells #[.slice Av nv cv, vo, vr] 25)).heap.size = w.heap.size + 1 := by simp
  have hz2 : ((w.alloc (.cells #[.slice Av nv cv, vo, vr] 25)).alloc (.cells (kopRow o).toArray 43)).heap.size = w.heap.size + 2 := by simp
  have hn : ((w.alloc (.cells #[.slice Av nv cv, vo, vr] 25)).alloc (.cells (kopRow o).toArray 43)).heap[w.heap.size + 1]? = some (.cells (kopRow o).toArray 43 (0, 0)) := by
    have h := heap_alloc_new (w.alloc (.cells #[.slice Av nv cv, vo, vr] 25)) (.cells (kopRow o).toArray 43)
    rw [hz] at h
    exact h
  have hc : ∀ (j : Nat) (v : Value), #[Value.slice Av nv cv, vo, vr][j]? = some v → ((w.alloc (.cells #[.slice Av nv cv, vo, vr] 25)).alloc (.cells (kopRow o).toArray 43)).cell? ⟨w.heap.size, j, none⟩ = some v := fun j v h => (hb2.cell (p := ⟨w.heap.size, j, none⟩) (show w.heap.size < _ by omega)).trans (cell_new w _ _ h)
  have hb := hb1.trans (hb2.mono hb1.size)
  have hsame : SameOn F w ((w.alloc (.cells #[.slice Av nv cv, vo, vr] 25)).alloc (.cells (kopRow o).toArray 43)) := SameOn.of_below hb hF
  refine ⟨⟨hc 0 _ rfl, hc 1 _ rfl, hc 2 _ rfl, OpBox.of (t := 43) (fr := (0, 0)) hn, by omega, by omega, Rows.mono (Rows.keep hv hsame) fun k hk => by have := hF k hk; omega, Rows.mono (Rows.keep hf hsame) fun k hk => by have := hF k hk; omega⟩, hb⟩
set_option maxRecDepth 100000 in
set_option maxHeartbeats 4000000 in
theorem news_any (w : World) (F : Nat → Prop) (Av Al : Option Addr) (nv cv nl cl : Nat) (vo vr : Value) (vs : List KVar) (o : KOp) (l : List Fct) (hv : KVarsAt w F (.slice Av nv cv) vs) (hf : FactsAt w F (.slice Al nl cl) l) (hF : ∀ k, F k → k < w.heap.size)
    (hp : PartsK vs.length o) (hn : l.length ≤ 100000) (hvn : vs.length ≤ 256) :
    Calls Tryz.prog 76 #[.agg #[.slice Av nv cv, vo, vr], .agg #[.int .i64 o.kind, .int .i64 o.d, .int .i64 o.e, .int .i64 o.a, .int .i64 o.b, .int .i64 o.c, .int .u64 o.imm], .slice Al nl cl] w (SortedSays w.heap.size (newsF vs o l) w) := by
  obtain ⟨W, hW⟩ : ∃ W, W = (w.alloc (.cells #[.slice Av nv cv, vo, vr] 25)).alloc (.cells #[.int .i64 o.kind, .int .i64 o.d, .int .i64 o.e, .int .i64 o.a, .int .i64 o.b, .int .i64 o.c, .int .u64 o.imm] 43) := ⟨_, rfl⟩
  obtain ⟨h, hb⟩ := news_start w F Av nv cv vo vr (.slice Al nl cl) vs o l hv hf hF
  rw [show (w.alloc (.cells #[.slice Av nv cv, vo, vr] 25)).alloc (.cells (kopRow o).toArray 43) = W from hW.symm] at h hb
  have hz : W.heap.size = w.heap.size + 2 := by rw [hW]; simp
  have hnl := (rows_len hf).1
  have hnv := (rows_len hv).1
  have HW := Lib.hid hW
  have H := Lib.hid h
  have HB := Lib.hid hb
  have HZ := Lib.hid hz
  have HNL := Lib.hid hnl
  have HNV := Lib.hid hnv
  clear hW h hb hz hv hf hF hnl hnv
  obtain ⟨i0, hi, hz0, hz1, hz2⟩ := info_parts infoFact
  obtain ⟨k, hk⟩ : ∃ k, o.kind = k := ⟨_, rfl⟩
  have HP := Lib.hid hp
  have hk17 := hp.kind
  rw [hk] at hk17
  have HN := Lib.hid (show newsF vs o l = (if k = 1 then (if o.imm % 2 = 1 then [aloneF 1 o.d] else []) ++ (if 0 < o.imm then [aloneF 3 o.d] else [])
    else if k = 2 then (if limbsF vs o.a ≤ limbsF vs o.d then copyF l o.a o.d else [])
    else if k = 9 ∨ k = 10 ∨ k = 11 ∨ k = 12 ∨ k = 13 then (if o.d ≠ o.c then [lessF o.d o.c] else [])
    else if k = 8 then bothF vs.length l o.a o.b o.d o.d [o.d]
    else if k = 14 then bothF vs.length l o.d o.e o.d o.e [o.d, o.e]
    else if k = 17 then needsF o else []) by unfold newsF; rw [hk])
  have HK := Lib.hid hk
  clear hk
  have HA := Lib.hid alone_any
  have HL := Lib.hid less_any
  clear hp
  by_cases k1 : k = 1
  · subst k1
    have hN := HN.out
    rw [if_pos rfl] at hN
    clear HN hk17
    have HNN := Lib.hid hN
    clear hN
    by_cases hod : o.imm % 2 = 1
    · have HS := Lib.hid (show newsF vs o l = [aloneF 1 o.d] ++ [aloneF 3 o.d] by rw [HNN.out, if_pos hod, if_pos (by omega)])
      have x1 : ((o.imm : Int) % 2 == 1) = true := by rw [beq_iff_eq]; omega
      have x2 : decide (0 < o.imm) = true := decide_eq_true (by omega)
      clear hod HNN
      go_enter Tryz.func76, Tryz.ntmps76
      go_upto_region 1 with (first | go_in)
      rw [← HW.out]
      clear HW
      have c0 := H.out.op.kind
      rw [HK.out] at c0
      have c1 := H.out.op.d
      have c6 := H.out.op.imm
      go_upto_region 5 with (first
        | ((with_reducible refine (HA.out _ _ _).mono ?_); rintro e w1 ⟨rfl, hb1⟩; have HB1 := Lib.hid (HB.out.trans (hb1.mono HB.out.size)); have c1 := (H.out.next hb1).op.d; have c6 := (H.out.next hb1).op.imm; have HH1 := Lib.hid (H.out.next hb1); clear hb1)
        | (at_builtin; refine wpList_append_own_at _ rfl _ _ 39 rfl w.heap.size 45 i0 (.agg #[.int .i64 0, .int .i64 0, .int .i64 0]) 3 24 Tryz.underlying39 hi hz0 hz1 hz2 rfl (by decide) (.slice none 0 0) 0 (cellsOfF []) rfl (World.ownsRow_nil _ _ _ _) ⟨w1.heap.size, 0, none⟩ 1 1 [Value.int .i64 1, .int .i64 o.d, .int .i64 (-1)] rfl (by rfl) (cells_new_at w1 #[Value.int .i64 1, .int .i64 o.d, .int .i64 (-1)] 45) (by simp [Value.oneCell']) (by unfold maxLen; omega) (by omega) (by have := HB1.out.size; simp; omega) ?_; intro v' w6 ho6 hg6 _ hw6
           have HO6 := Lib.hid ho6
           obtain ⟨A6, c6', rfl⟩ := own_form ho6
           have hb6 : Below w1.heap.size w1 w6 := (((Below.refl w1.heap.size w1).alloc (Nat.le_refl _) _).grown hg6 (by simp) (fun j e => by cases e))
           have HB6 := Lib.hid (HB1.out.trans (hb6.mono HB1.out.size))
           have c1 := (HH1.out.next hb6).op.d
           have c6 := (HH1.out.next hb6).op.imm
           clear ho6 hg6 hw6 hb6)
        | go_in)
      go_wp2_with (first
        | ((with_reducible refine (HA.out _ _ _).mono ?_); rintro e w7 ⟨rfl, hb7⟩; have HB7 := Lib.hid (HB6.out.trans (hb7.mono HB6.out.size)); have HO7 := Lib.hid (HO6.out.kept (grownBy_of_below hb7) (by cases hh : (Value.slice A6 (0 + 1) c6').ownBlock <;> simp)); clear hb7)
        | (at_builtin; refine wpList_append_own_at _ rfl _ _ 39 rfl w.heap.size 45 i0 (.agg #[.int .i64 0, .int .i64 0, .int .i64 0]) 3 24 Tryz.underlying39 hi hz0 hz1 hz2 rfl (by decide) (.slice A6 1 c6') 1 _ rfl (HO7.out.alloc _) ⟨w7.heap.size, 0, none⟩ 1 1 [Value.int .i64 3, .int .i64 o.d, .int .i64 (-1)] rfl (by rfl) (cells_new_at w7 #[Value.int .i64 3, .int .i64 o.d, .int .i64 (-1)] 45) (by simp [Value.oneCell']) (by unfold maxLen; omega) (by omega) (by have := HB7.out.size; simp; omega) ?_; intro v' w8 ho8 hg8 _ hw8
           have HO8 := Lib.hid ho8
           have HG8 := Lib.hid hg8
           have HLT := Lib.hid (show ∀ g, (Value.slice A6 1 c6').ownBlock = some g → g < w7.heap.size ∧ w.heap.size ≤ g from own_lt HO7.out)
           clear ho8 hg8 hw8)
        | go_in)
      go_ret
      rw [HS.out]
      exact ⟨_, rfl, HO8.out, (HB7.out.alloc HB7.out.size _).grown HG8.out (by have := HB7.out.size; simp; omega) (fun j e => (HLT.out j e).2)⟩
    by_cases h0 : 0 < o.imm
    · have HS := Lib.hid (show newsF vs o l = [aloneF 3 o.d] by rw [HNN.out, if_neg hod, if_pos h0]; rfl)
      have x1 : ((o.imm : Int) % 2 == 1) = false := beq_eq_false_iff_ne.2 (by omega)
      have x2 : decide (0 < o.imm) = true := decide_eq_true (by omega)
      clear hod HNN h0
      go_enter Tryz.func76, Tryz.ntmps76
      go_upto_region 1 with (first | go_in)
      rw [← HW.out]
      clear HW
      have c0 := H.out.op.kind
      rw [HK.out] at c0
      have c1 := H.out.op.d
      have c6 := H.out.op.imm
      go_wp2_with (first
        | ((with_reducible refine (HA.out _ _ _).mono ?_); rintro e w1 ⟨rfl, hb1⟩; have HB1 := Lib.hid (HB.out.trans (hb1.mono HB.out.size)); clear hb1)
        | (at_builtin; refine wpList_append_own_at _ rfl _ _ 39 rfl w.heap.size 45 i0 (.agg #[.int .i64 0, .int .i64 0, .int .i64 0]) 3 24 Tryz.underlying39 hi hz0 hz1 hz2 rfl (by decide) (.slice none 0 0) 0 (cellsOfF []) rfl (World.ownsRow_nil _ _ _ _) ⟨w1.heap.size, 0, none⟩ 1 1 [Value.int .i64 3, .int .i64 o.d, .int .i64 (-1)] rfl (by rfl) (cells_new_at w1 #[Value.int .i64 3, .int .i64 o.d, .int .i64 (-1)] 45) (by simp [Value.oneCell']) (by unfold maxLen; omega) (by omega) (by have := HB1.out.size; simp; omega) ?_; intro v' w6 ho6 hg6 _ hw6
           have HO6 := Lib.hid ho6
           have HG6 := Lib.hid hg6
           clear ho6 hg6 hw6)
        | go_in)
      go_ret
      rw [HS.out]
      exact ⟨_, rfl, HO6.out, (HB1.out.alloc HB1.out.size _).grown HG6.out (by have := HB1.out.size; simp; omega) (fun j e => by cases e)⟩
    · have HS := Lib.hid (show newsF vs o l = [] by rw [HNN.out, if_neg hod, if_neg h0]; rfl)
      have x1 : ((o.imm : Int) % 2 == 1) = false := beq_eq_false_iff_ne.2 (by omega)
      have x2 : decide (0 < o.imm) = false := decide_eq_false (by omega)
      clear hod HNN h0
      go_enter Tryz.func76, Tryz.ntmps76
      go_upto_region 1 with (first | go_in)
      rw [← HW.out]
      clear HW
      have c0 := H.out.op.kind
      rw [HK.out] at c0
      have c6 := H.out.op.imm
      go_wp2
      go_ret
      exact ⟨_, rfl, by rw [HS.out]; exact World.ownsRow_nil _ _ _ _, HB.out⟩
  by_cases k2 : k = 2
  · subst k2
    have hN := HN.out
    rw [if_neg (by omega), if_pos rfl] at hN
    have HNN := Lib.hid hN
    clear HN hk17 k1 hN
    have hpd : 0 ≤ o.d ∧ o.d < (vs.length : Int) := by have h := HP.out.d; rw [HK.out, if_pos (by omega)] at h; exact h
    have hpa : 0 ≤ o.a ∧ o.a < (vs.length : Int) := HP.out.a (by rw [HK.out]; omega)
    obtain ⟨d, hd⟩ : ∃ d : Nat, o.d = d := ⟨o.d.toNat, by omega⟩
    obtain ⟨a, ha⟩ : ∃ a : Nat, o.a = a := ⟨o.a.toNat, by omega⟩
    obtain ⟨vd, hvd⟩ : ∃ v, vs[d]? = some v := ⟨_, List.getElem?_eq_getElem (by omega)⟩
    obtain ⟨va, hva⟩ : ∃ v, vs[a]? = some v := ⟨_, List.getElem?_eq_getElem (by omega)⟩
    have hld : limbsF vs o.d = vd.limbs := by unfold limbsF; rw [hd, Int.toNat_natCast, List.getD_eq_getElem?_getD, hvd]; rfl
    have hla : limbsF vs o.a = va.limbs := by unfold limbsF; rw [ha, Int.toNat_natCast, List.getD_eq_getElem?_getD, hva]; rfl
    obtain ⟨g, off, rfl, hg, f0, _, _⟩ := H.out.vars.at_ hvd
    obtain ⟨g', off', hA, hg', f1, _, _⟩ := H.out.vars.at_ hva
    cases hA
    have l0 : d < nv := by have := HNV.out; omega
    have l1 : a < nv := by have := HNV.out; omega
    have i0 : (0 : Int) ≤ (d : Int) := by omega
    have i1 : (0 : Int) ≤ (a : Int) := by omega
    have HD := Lib.hid hd
    have HAA := Lib.hid ha
    have hcp := fun (w1 : World) (h1 : Below W.heap.size W w1) => copied_any o.a o.d w1 (fun k => k < w1.heap.size) (H.out.next h1).facts (fun k hk => hk) (by have := HNL.out; omega)
    have HL2 := Lib.hid (And.intro hld hla)
    replace hcp : ∀ w1, Below W.heap.size W w1 → Calls Tryz.prog 111 #[.slice Al nl cl, .int .i64 (a : Int), .int .i64 (d : Int)] w1 (SortedSays w1.heap.size (copyF l o.a o.d) w1) := fun w1 h1 => by rw [← hd, ← ha]; exact hcp w1 h1
    have HCP := Lib.hid hcp
    have HG := Lib.hid hg
    clear hcp hd ha hld hla hpd hpa hvd hva hg hg'
    have HFA := Lib.hid (show ∀ w_, Below W.heap.size W w_ → w_.cell? ⟨w.heap.size, 0, none⟩ = some (.slice (some ⟨g, off, none⟩) nv cv) ∧ w_.cell? ⟨w.heap.size + 1, 1, none⟩ = some (.int .i64 (d : Int)) ∧ w_.cell? ⟨w.heap.size + 1, 3, none⟩ = some (.int .i64 (a : Int)) ∧ w_.cell? ⟨g, off + d * 3, none⟩ = some (.int .i64 vd.limbs) ∧ w_.cell? ⟨g, off + a * 3, none⟩ = some (.int .i64 va.limbs) from fun w_ hw => by
      have h1 := H.out.next hw
      have e1 := h1.op.d
      have e3 := h1.op.a
      rw [HD.out] at e1
      rw [HAA.out] at e3
      exact ⟨h1.c0, e1, e3, (hw.cell (p := ⟨g, off + d * 3, none⟩) HG.out).trans f0, (hw.cell (p := ⟨g, off + a * 3, none⟩) HG.out).trans f1⟩)
    have i2 : (d : Int) < (nv : Int) := by omega
    have i3 : (a : Int) < (nv : Int) := by omega
    have i4 : IntKind.i64.wrap (d : Int) = d := by rw [IntKind.wrap_i64]; have := HNV.out; omega
    have i5 : IntKind.i64.wrap (a : Int) = a := by rw [IntKind.wrap_i64]; have := HNV.out; omega
    clear f0 f1
    cases q : decide (va.limbs ≤ vd.limbs)
    · have HS := Lib.hid (show newsF vs o l = [] by rw [HNN.out, HL2.out.1, HL2.out.2, if_neg (by simpa using q)])
      go_enter Tryz.func76, Tryz.ntmps76
      go_upto_region 1 with (first | go_in)
      rw [← HW.out]
      clear HW
      have c0 := H.out.op.kind
      rw [HK.out] at c0
      go_upto_region 8 with fail
      have hS := (Below.refl W.heap.size W).drew
      (refine wp_region_lines (Below W.heap.size W) (by kernel_rfl) (by kernel_rfl) (Below.refl W.heap.size W).drew ?_)
      (try simp only [])
      repeat (first | (refine runL_no (by rfl) ?_; (try simp only [Act.put, List.setIfInBounds_toArray, List.set_cons_zero, List.set_cons_succ])) | (refine runL_val (v := ?_) (by rfl) ?_ ?_; rotate_left; (focus (intro w_ hw_; obtain ⟨f0_, f1_, f2_, f3_, f4_⟩ := HFA.out w_ hw_; go_simp; (try with_reducible rfl); done)); (try simp only [Act.put, List.setIfInBounds_toArray, List.set_cons_zero, List.set_cons_succ])))
      (refine runL_nil ?_)
      have HB1 := Lib.hid hS
      go_wp2
      go_ret
      exact ⟨_, rfl, by rw [HS.out]; exact World.ownsRow_nil _ _ _ _, HB.out.trans (HB1.out.mono HB.out.size)⟩
    · have HS := Lib.hid (show newsF vs o l = copyF l o.a o.d by rw [HNN.out, HL2.out.1, HL2.out.2, if_pos (by simpa using q)])
      go_enter Tryz.func76, Tryz.ntmps76
      go_upto_region 1 with (first | go_in)
      rw [← HW.out]
      clear HW
      have c0 := H.out.op.kind
      rw [HK.out] at c0
      go_upto_region 8 with fail
      have hS := (Below.refl W.heap.size W).drew
      (refine wp_region_lines (Below W.heap.size W) (by kernel_rfl) (by kernel_rfl) (Below.refl W.heap.size W).drew ?_)
      (try simp only [])
      repeat (first | (refine runL_no (by rfl) ?_; (try simp only [Act.put, List.setIfInBounds_toArray, List.set_cons_zero, List.set_cons_succ])) | (refine runL_val (v := ?_) (by rfl) ?_ ?_; rotate_left; (focus (intro w_ hw_; obtain ⟨f0_, f1_, f2_, f3_, f4_⟩ := HFA.out w_ hw_; go_simp; (try with_reducible rfl); done)); (try simp only [Act.put, List.setIfInBounds_toArray, List.set_cons_zero, List.set_cons_succ])))
      (refine runL_nil ?_)
      have HB1 := Lib.hid hS
      obtain ⟨e0, e1, e2, _, _⟩ := HFA.out _ hS
      have HC1 := Lib.hid (HCP.out _ hS)
      clear hS
      go_wp2_with (first | ((with_reducible refine HC1.out.mono ?_); rintro e w2 ⟨v2, rfl, ho2, hb2⟩; have HO2 := Lib.hid ho2; have HB2 := Lib.hid hb2; clear ho2 hb2) | go_in)
      go_ret
      rw [HS.out]
      exact SortedSays.to ⟨_, rfl, HO2.out, HB2.out⟩ (HB.out.trans (HB1.out.mono HB.out.size))
  by_cases k9 : k = 9 ∨ k = 10 ∨ k = 11 ∨ k = 12 ∨ k = 13
  · have hN := HN.out
    rw [if_neg k1, if_neg k2, if_pos k9] at hN
    have HNN := Lib.hid hN
    clear HN hk17 k1 k2 hN
    cases dc : (o.d == o.c)
    · have HS := Lib.hid (show newsF vs o l = [lessF o.d o.c] by rw [HNN.out, if_pos (by simpa using dc)])
      have nc : (o.d != o.c) = true := by rw [bne, dc]; rfl
      clear HNN dc
      rcases k9 with rfl | rfl | rfl | rfl | rfl
      all_goals
        go_enter Tryz.func76, Tryz.ntmps76
        go_upto_region 1 with (first | go_in)
        rw [← HW.out]
        clear HW
        have c0 := H.out.op.kind
        rw [HK.out] at c0
        have c1 := H.out.op.d
        have c5 := H.out.op.c
        go_wp2_with (first | ((with_reducible refine (HL.out _ _ _).mono ?_); rintro e w1 ⟨rfl, hb1⟩; have HB1 := Lib.hid hb1; clear hb1) | go_in)
        go_ret
        exact ⟨_, rfl, by rw [HS.out]; exact own_lit (l := [lessF o.d o.c]) (heap_alloc_new w1 _) (by have := HB.out.size; have := HB1.out.size; omega) (by simp), below_lit HB.out HB1.out _⟩
    · have HS := Lib.hid (show newsF vs o l = [] by rw [HNN.out, if_neg (by simpa using dc)])
      have nc : (o.d != o.c) = false := by rw [bne, dc]; rfl
      clear HNN dc
      rcases k9 with rfl | rfl | rfl | rfl | rfl
      all_goals
        go_enter Tryz.func76, Tryz.ntmps76
        go_upto_region 1 with (first | go_in)
        rw [← HW.out]
        clear HW
        have c0 := H.out.op.kind
        rw [HK.out] at c0
        have c1 := H.out.op.d
        have c5 := H.out.op.c
        go_wp2
        go_ret
        exact ⟨_, rfl, by rw [HS.out]; exact World.ownsRow_nil _ _ _ _, HB.out⟩
  by_cases k8 : k = 8
  · subst k8
    have hN := HN.out
    rw [if_neg k1, if_neg k2, if_neg k9, if_pos rfl] at hN
    have HNN := Lib.hid hN
    clear HN hk17 k1 k2 k9 hN
    have HBO := Lib.hid (fun (w1 : World) (h1 : NewsAt w1 w.heap.size (w.heap.size + 1) Av nv cv vo vr (.slice Al nl cl) vs o l) (At : Option Addr) (nt ct : Nat) (told : List Int) (h2 : NumsAt w1 (fun k => k < w1.heap.size) (.slice At nt ct) told) (h3 : told.length ≤ 2) (a b p q : Int) => both_any w1 (fun k => k < w1.heap.size) vo vr Av Al At nv cv nl cl nt ct l a b p q told h1.facts h2 (fun k hk => hk) (by have := HNL.out; omega) (by have := HNV.out; omega) h3)
    have HB8 := Lib.hid (HBO.out (W.alloc (.cells #[.int .i64 o.d] 3)) (H.out.next ((Below.refl _ _).alloc (Nat.le_refl _) _)) (some ⟨W.heap.size, 0, none⟩) 1 1 [o.d] (Rows.mono (nums_blk (g := W.heap.size) (l := [o.d]) (t := 3) (heap_alloc_new W (.cells #[.int .i64 o.d] 3))) (fun k hk => by subst hk; simp)) (by simp) o.a o.b o.d o.d)
    go_enter Tryz.func76, Tryz.ntmps76
    go_upto_region 1 with (first | go_in)
    rw [← HW.out]
    clear HW
    have c0 := H.out.op.kind
    rw [HK.out] at c0
    have c1 := H.out.op.d
    have c3 := H.out.op.a
    have c4 := H.out.op.b
    have c7 := H.out.c0
    have c8 := H.out.c1
    have c9 := H.out.c2
    go_wp2_with (first
      | ((with_reducible refine HB8.out.mono ?_); rintro e w1 ⟨v1, rfl, ho1, hb1⟩; have HO1 := Lib.hid ho1; have HB1 := Lib.hid hb1; clear ho1 hb1)
      | go_in)
    go_ret
    rw [HNN.out, ← HNV.out]
    exact SortedSays.to ⟨_, rfl, HO1.out, HB1.out⟩ (HB.out.alloc HB.out.size _)
  by_cases k14 : k = 14
  · subst k14
    have hN := HN.out
    rw [if_neg k1, if_neg k2, if_neg k9, if_neg k8, if_pos rfl] at hN
    have HNN := Lib.hid hN
    clear HN hk17 k1 k2 k9 k8 hN
    have HBO := Lib.hid (fun (w1 : World) (h1 : NewsAt w1 w.heap.size (w.heap.size + 1) Av nv cv vo vr (.slice Al nl cl) vs o l) (At : Option Addr) (nt ct : Nat) (told : List Int) (h2 : NumsAt w1 (fun k => k < w1.heap.size) (.slice At nt ct) told) (h3 : told.length ≤ 2) (a b p q : Int) => both_any w1 (fun k => k < w1.heap.size) vo vr Av Al At nv cv nl cl nt ct l a b p q told h1.facts h2 (fun k hk => hk) (by have := HNL.out; omega) (by have := HNV.out; omega) h3)
    have HB8 := Lib.hid (HBO.out (W.alloc (.cells #[.int .i64 o.d, .int .i64 o.e] 3)) (H.out.next ((Below.refl _ _).alloc (Nat.le_refl _) _)) (some ⟨W.heap.size, 0, none⟩) 2 2 [o.d, o.e] (Rows.mono (nums_blk (g := W.heap.size) (l := [o.d, o.e]) (t := 3) (heap_alloc_new W (.cells #[.int .i64 o.d, .int .i64 o.e] 3))) (fun k hk => by subst hk; simp)) (by simp) o.d o.e o.d o.e)
    go_enter Tryz.func76, Tryz.ntmps76
    go_upto_region 1 with (first | go_in)
    rw [← HW.out]
    clear HW
    have c0 := H.out.op.kind
    rw [HK.out] at c0
    have c1 := H.out.op.d
    have c2 := H.out.op.e
    have c7 := H.out.c0
    have c8 := H.out.c1
    have c9 := H.out.c2
    go_wp2_with (first
      | ((with_reducible refine HB8.out.mono ?_); rintro e w1 ⟨v1, rfl, ho1, hb1⟩; have HO1 := Lib.hid ho1; have HB1 := Lib.hid hb1; clear ho1 hb1)
      | go_in)
    go_ret
    rw [HNN.out, ← HNV.out]
    exact SortedSays.to ⟨_, rfl, HO1.out, HB1.out⟩ (HB.out.alloc HB.out.size _)
  by_cases k17 : k = 17
  · subst k17
    have hN := HN.out
    rw [if_neg k1, if_neg k2, if_neg k9, if_neg k8, if_neg k14, if_pos rfl] at hN
    have HNN := Lib.hid hN
    have hr := Needs_any o W
    rw [show (Value.agg (kopRow o).toArray) = .agg #[.int .i64 17, .int .i64 o.d, .int .i64 o.e, .int .i64 o.a, .int .i64 o.b, .int .i64 o.c, .int .u64 o.imm] from by simp only [kopRow, HK.out]] at hr
    have HR := Lib.hid hr
    clear hr
    clear HN hk17 k1 k2 k9 k8 k14 hN
    go_enter Tryz.func76, Tryz.ntmps76
    go_upto_region 1 with (first | go_in)
    rw [← HW.out]
    clear HW
    have c0 := H.out.op.kind
    rw [HK.out] at c0
    have c1 := H.out.op.d
    have c2 := H.out.op.e
    have c3 := H.out.op.a
    have c4 := H.out.op.b
    have c5 := H.out.op.c
    have c6 := H.out.op.imm
    go_wp2_with (first | ((with_reducible refine HR.out.mono ?_); rintro e w1 ⟨v1, rfl, ho1, hb1⟩; have HO1 := Lib.hid ho1; have HB1 := Lib.hid hb1; clear ho1 hb1) | go_in)
    go_ret
    rw [HNN.out]
    exact SortedSays.to ⟨_, rfl, HO1.out, HB1.out⟩ HB.out
  have HNN := Lib.hid (show newsF vs o l = [] by rw [HN.out, if_neg k1, if_neg k2, if_neg k9, if_neg k8, if_neg k14, if_neg k17])
  clear HN
  have hk7 : k = 3 ∨ k = 4 ∨ k = 5 ∨ k = 6 ∨ k = 7 ∨ k = 15 ∨ k = 16 := by omega
  clear hk17 k1 k2 k9 k8 k14 k17
  rcases hk7 with rfl | rfl | rfl | rfl | rfl | rfl | rfl
  all_goals
    go_enter Tryz.func76, Tryz.ntmps76
    go_upto_region 1 with (first | go_in)
    rw [← HW.out]
    clear HW
    have c0 := H.out.op.kind
    rw [HK.out] at c0
    go_wp2
    go_ret
    exact ⟨_, rfl, by rw [HNN.out]; exact World.ownsRow_nil _ _ _ _, HB.out⟩
end Go.Proofs.YtjbabpnepjhllaaGreat
