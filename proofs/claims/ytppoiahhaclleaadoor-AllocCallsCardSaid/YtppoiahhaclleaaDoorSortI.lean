/- alloc.Build's order: its cmp, the insertion sort of ints by it. -/
import Derived.Test.YtppoiahhaclleaaDoorAllocA
import Derived.Shelf.RegionOpenPlain
namespace Go.Proofs.YtppoiahhaclleaaDoor
open Go.RowKit

theorem lt_cell {w : World} {p : Addr} {v : Value} (h : w.cell? p = some v) : p.block < w.heap.size := by
  rcases Nat.lt_or_ge p.block w.heap.size with h' | h'
  · exact h'
  · simp [World.cell?, Array.getElem?_eq_none h'] at h
def keyF (sp : List (Int × Int)) (x : Int) : Int := (sp.getD x.toNat (-1, -1)).1
/-- The spans behind a captured variable. -/
structure KeysAt (w : World) (gb gs n : Nat) (sp : List (Int × Int)) : Prop where
  box : w.cell? ⟨gb, 0, none⟩ = some (.slice (some ⟨gs, 0, none⟩) n n)
  row : SpansAt w gs sp
  len : sp.length = n
theorem KeysAt.next {w w' : World} {gb gs n : Nat} {sp : List (Int × Int)} (h : KeysAt w gb gs n sp) (hb : Below w.heap.size w w') : KeysAt w' gb gs n sp :=
  ⟨(hb.cell (p := ⟨gb, 0, none⟩) (lt_cell h.box)).trans h.box, h.row.next hb, h.len⟩
theorem KeysAt.chg {F : Nat → Prop} {w w' : World} {gb gs n : Nat} {sp : List (Int × Int)} (h : KeysAt w gb gs n sp) (hb : Chg F w w') (h1 : ¬ F gb) (h2 : ¬ F gs) : KeysAt w' gb gs n sp := by
  refine ⟨?_, (hb.block gs (lt_of_block h.row) h2).trans h.row, h.len⟩
  have hlt := lt_cell h.box
  have hbl := hb.block gb hlt h1
  have := h.box
  simp only [World.cell?, hbl] at this ⊢
  exact this
theorem KeysAt.cell {w : World} {gb gs n : Nat} {sp : List (Int × Int)} (h : KeysAt w gb gs n sp) {x : Int} (h0 : 0 ≤ x) (h1 : x < n) : w.cell? ⟨gs, x.toNat * 2, none⟩ = some (.int .i64 (keyF sp x)) := by
  obtain ⟨s, hs⟩ : ∃ s, sp[x.toNat]? = some s := ⟨_, List.getElem?_eq_getElem (by have := h.len; omega)⟩
  have := (h.row.cells hs).1
  rw [this]
  unfold keyF
  rw [List.getD_eq_getElem?_getD, hs]
  rfl
theorem cmp_lt (a b : Int) : decide (Lib.compareInt a b < 0) = decide (a < b) := by
  unfold Lib.compareInt
  (repeat' split) <;> simp <;> omega

set_option maxRecDepth 100000 in
set_option maxHeartbeats 4000000 in
theorem cmp_any {gb gs n : Nat} {sp : List (Int × Int)} (x y : Int) (w : World) (hk : KeysAt w gb gs n sp) (hn : n ≤ 1000) (hx0 : 0 ≤ x) (hx1 : x < n) (hy0 : 0 ≤ y) (hy1 : y < n) :
    Calls Tryd.prog 35 #[.int .i64 x, .int .i64 y, .pointer (some ⟨gb, 0, none⟩)] w fun e w' => e = .returned (.int .i64 (Lib.compareInt (keyF sp x) (keyF sp y))) ∧ Below w.heap.size w w' := by
  obtain ⟨a, ha⟩ : ∃ a : Nat, a = x.toNat := ⟨_, rfl⟩
  obtain ⟨b, hb⟩ : ∃ a : Nat, a = y.toNat := ⟨_, rfl⟩
  obtain rfl : x = (a : Int) := by omega
  obtain rfl : y = (b : Int) := by omega
  have HK := Lib.hid hk
  have hca : ∀ w_, KeysAt w_ gb gs n sp → w_.cell? ⟨gs, a * 2, none⟩ = some (.int .i64 (keyF sp a)) := fun w_ h => h.cell (x := (a : Int)) hx0 hx1
  have hcb : ∀ w_, KeysAt w_ gb gs n sp → w_.cell? ⟨gs, b * 2, none⟩ = some (.int .i64 (keyF sp b)) := fun w_ h => h.cell (x := (b : Int)) hy0 hy1
  have HX := Lib.hid (And.intro hca hcb)
  obtain ⟨u, hu⟩ : ∃ u, keyF sp a = u := ⟨_, rfl⟩
  obtain ⟨v, hv⟩ : ∃ u, keyF sp b = u := ⟨_, rfl⟩
  rw [hu, hv] at HX ⊢
  have HM := Lib.hid (Tryd.cmp_Compare_int u v w.drew)
  have q1 : IntKind.i64.wrap (a : Int) = a := by simp [IntKind.wrap, IntKind.bits, IntKind.signed]; omega
  have q2 : IntKind.i64.wrap (b : Int) = b := by simp [IntKind.wrap, IntKind.bits, IntKind.signed]; omega
  clear hk hn hca hcb hu hv ha hb
  go_enter Tryd.func35, Tryd.ntmps35
  go_wp2
  (refine wp_region_lines (fun w_ => KeysAt w_ gb gs n sp) (by kernel_rfl) (by kernel_rfl) (HK.out.next (Below.refl _ _).drew) ?_)
  (try simp only [])
  repeat (first | (refine runL_no (by rfl) ?_; (try simp only [Act.put, List.setIfInBounds_toArray, List.set_cons_zero, List.set_cons_succ])) | (refine runL_val (v := ?_) (by rfl) ?_ ?_; rotate_left; (focus (intro w_ hw_; have f1_ := hw_.box; have f2_ := HX.out.1 _ hw_; have f3_ := HX.out.2 _ hw_; go_simp; (try with_reducible rfl); done)); (try simp only [Act.put, List.setIfInBounds_toArray, List.set_cons_zero, List.set_cons_succ])) | (refine runL_call (f := ?_) (args := ?_) (w1 := ?_) (by rfl) (by rfl) ?_ ?_; rotate_left 3; (focus (go_simp; refine ⟨⟨?_, ?_⟩, ?_⟩ <;> with_reducible rfl)); (with_reducible refine (HM.out).mono ?_); rintro e w1 ⟨rfl, rfl⟩; refine ⟨_, rfl, .inr (HK.out.next (Below.refl _ _).drew), ?_⟩; (try simp only [Act.put, List.setIfInBounds_toArray, List.set_cons_zero, List.set_cons_succ])))
  (refine runL_nil ?_)
  go_wp2
  go_ret
  exact ⟨rfl, (Below.refl _ _).drew⟩

def swapL (l : List Int) (i j : Nat) : List Int := (l.set i (l.getD j 0)).set j (l.getD i 0)
theorem swapL_len (l : List Int) (i j : Nat) : (swapL l i j).length = l.length := by simp [swapL]
theorem swapL_perm {l : List Int} {i j : Nat} (hi : i < l.length) (hj : j < l.length) : (swapL l i j).Perm l := by
  unfold swapL
  rw [List.getD_eq_getElem?_getD, List.getD_eq_getElem?_getD, List.getElem?_eq_getElem hi, List.getElem?_eq_getElem hj]
  exact List.set_set_perm hi hj
/-- Let the one at a place sink, not below a. -/
def siftF (key : Int → Int) (a : Nat) (l : List Int) : Nat → List Int
  | 0 => l
  | j + 1 => if a < j + 1 ∧ key (l.getD (j + 1) 0) < key (l.getD j 0) then siftF key a (swapL l (j + 1) j) j else l
def insF (key : Int → Int) (a : Nat) : Nat → Nat → List Int → List Int
  | 0, _, l => l
  | m + 1, i, l => insF key a m (i + 1) (siftF key a l i)
theorem siftF_go {key : Int → Int} {a j : Nat} {l : List Int} {x y : Int} (h : a < j + 1) (hx : l[j + 1]? = some x) (hy : l[j]? = some y) (hk : key x < key y) : siftF key a l (j + 1) = siftF key a (swapL l (j + 1) j) j := by
  rw [siftF, if_pos ⟨h, by rw [List.getD_eq_getElem?_getD, List.getD_eq_getElem?_getD, hx, hy]; exact hk⟩]
theorem siftF_no {key : Int → Int} {a j : Nat} {l : List Int} {x y : Int} (hx : l[j + 1]? = some x) (hy : l[j]? = some y) (hk : ¬ key x < key y) : siftF key a l (j + 1) = l := by
  rw [siftF, if_neg (fun h => hk (by have := h.2; rw [List.getD_eq_getElem?_getD, List.getD_eq_getElem?_getD, hx, hy] at this; exact this))]
theorem siftF_end {key : Int → Int} {a j : Nat} {l : List Int} (h : ¬ a < j) : siftF key a l j = l := by
  cases j with
  | zero => rfl
  | succ j => rw [siftF, if_neg (fun h' => h h'.1)]
/-- Ints at the beginning of a block. -/
def OrdAt (w : World) (g : Nat) (l : List Int) (rest : List Value) : Prop := w.heap[g]? = some (.cells (intV l ++ rest).toArray 3 (0, 0))
theorem OrdAt.cell {w : World} {g : Nat} {l : List Int} {rest : List Value} (h : OrdAt w g l rest) {k : Nat} {x : Int} (hx : l[k]? = some x) : w.cell? ⟨g, k, none⟩ = some (.int .i64 x) :=
  cell_row h (by rw [List.getElem?_append_left (by rw [intV_len]; exact (List.getElem?_eq_some_iff.1 hx).1)]; exact intV_get hx)
theorem OrdAt.set {w : World} {g : Nat} {l : List Int} {rest : List Value} (h : OrdAt w g l rest) {k : Nat} (x : Int) (hk : k < l.length) : OrdAt (w.setCell ⟨g, k, none⟩ (.int .i64 x)) g (l.set k x) rest := by
  have := setCell_row h k (.int .i64 x)
  rw [List.set_append_left _ _ (by rw [intV_len]; exact hk)] at this
  unfold OrdAt
  rw [this]
  unfold intV
  rw [List.map_set]
theorem OrdAt.next {w w' : World} {g : Nat} {l : List Int} {rest : List Value} (h : OrdAt w g l rest) (hb : Below w.heap.size w w') : OrdAt w' g l rest := (hb.block g (lt_of_block h)).trans h
theorem OrdAt.swap {w : World} {g : Nat} {l : List Int} {rest : List Value} (h : OrdAt w g l rest) {i j : Nat} {x y : Int} (hx : l[i]? = some x) (hy : l[j]? = some y) : OrdAt ((w.setCell ⟨g, i, none⟩ (.int .i64 y)).setCell ⟨g, j, none⟩ (.int .i64 x)) g (swapL l i j) rest := by
  have := (h.set (k := i) y (List.getElem?_eq_some_iff.1 hx).1).set (k := j) x (by rw [List.length_set]; exact (List.getElem?_eq_some_iff.1 hy).1)
  unfold swapL
  rw [List.getD_eq_getElem?_getD, List.getD_eq_getElem?_getD, hx, hy]
  exact this
set_option maxRecDepth 100000 in
set_option maxHeartbeats 4000000 in
theorem isort_l2 {g n c gb gs m a i : Nat} {sp : List (Int × Int)} {l : List Int} {rest : List Value} (w : World) (Q : Exit → Act → World → Prop) {u2 u4 u5 u6 u7 u8 u10 u11 u12 u13 u14 u15 u16 u17 u18 u19 u20 u21 u22 u23 u24 u25 u26 u27 u28 u29 u30 u31 u32 u33 u34 u35 u36 u37 u38 u39 u40 u41 u42 u43 u44 u45 u46 u47 u48 u49 u50 u51 u52 : Value} (hr : OrdAt w g l rest) (hl : l.length = n) (hk : KeysAt w gb gs m sp) (hm : m ≤ 1000) (hn : n ≤ 1000) (hmem : ∀ x ∈ l, 0 ≤ x ∧ x < (m : Int)) (hg : gb ≠ g ∧ gs ≠ g) (hai : a ≤ i) (hin : i < n)
    (k1 : ∀ (v9 v18 v19 v20 v21 v22 v23 v24 v25 v26 v27 v28 v29 v30 v31 v32 v33 v34 v35 v36 v37 v38 v39 v40 v41 v42 v43 v44 v45 v46 v47 v48 v49 v50 v51 v52 : Value) (w' : World), OrdAt w' g (siftF (keyF sp) a l i) rest ∧ Chg (fun k => k = g) w w' → Q (.exit 2) ⟨#[.slice (some ⟨g, 0, none⟩) n c, .int .i64 a, u2, .func (.func 35) #[] #[.pointer (some ⟨gb, 0, none⟩)], u4, u5, u6, u7, u8, v9, u10, u11, u12, u13, u14, u15, u16, u17, v18, v19, v20, v21, v22, v23, v24, v25, v26, v27, v28, v29, v30, v31, v32, v33, v34, v35, v36, v37, v38, v39, v40, v41, v42, v43, v44, v45, v46, v47, v48, v49, v50, v51, v52], []⟩ w') : (partL Tryd.f72 2).wp Tryd.prog Q ⟨#[.slice (some ⟨g, 0, none⟩) n c, .int .i64 a, u2, .func (.func 35) #[] #[.pointer (some ⟨gb, 0, none⟩)], u4, u5, u6, u7, u8, .int .i64 i, u10, u11, u12, u13, u14, u15, u16, u17, u18, u19, u20, u21, u22, u23, u24, u25, u26, u27, u28, u29, u30, u31, u32, u33, u34, u35, u36, u37, u38, u39, u40, u41, u42, u43, u44, u45, u46, u47, u48, u49, u50, u51, u52], []⟩ w := by
  have HI := Lib.hid hr
  have HL := Lib.hid hl
  have HK := Lib.hid hk
  have HM := Lib.hid hmem
  have HG := Lib.hid hg
  have K1 := Lib.hid k1
  clear hr hl hk hmem hg k1
  conv => arg 2; whnf
  go_wp2
  go_loopw [9] (fun vj wr => ∃ (j : Nat) (lj : List Int), vj = .int .i64 j ∧ a ≤ j ∧ j ≤ i ∧ Hid (lj.length = n ∧ OrdAt wr g lj rest ∧ Chg (fun k => k = g) w wr ∧ (∀ x ∈ lj, 0 ≤ x ∧ x < (m : Int)) ∧ siftF (keyF sp) a lj j = siftF (keyF sp) a l i)) (fun vj _ => (intOf vj).toNat)
  case atStart => exact ⟨i, l, rfl, hai, Nat.le_refl _, Lib.hid ⟨HL.out, HI.out, Chg.refl _ _, HM.out, rfl⟩⟩
  case round =>
    clear HI HM
    obtain ⟨j, lj, rfl, haj, hji, HJ⟩ := hrel
    by_cases hja : a < j
    · obtain ⟨jp, hjp⟩ : ∃ q, q + 1 = j := ⟨j - 1, by omega⟩
      obtain ⟨x, hx⟩ : ∃ s, lj[j]? = some s := ⟨_, List.getElem?_eq_getElem (by have := HJ.out.1; omega)⟩
      obtain ⟨y, hy⟩ : ∃ s, lj[jp]? = some s := ⟨_, List.getElem?_eq_getElem (by have := HJ.out.1; omega)⟩
      have mx := HJ.out.2.2.2.1 x (List.mem_of_getElem? hx)
      have my := HJ.out.2.2.2.1 y (List.mem_of_getElem? hy)
      have HKw := Lib.hid (KeysAt.chg HK.out HJ.out.2.2.1 HG.out.1 HG.out.2)
      have HC := cmp_any x y wr.drew (HKw.out.next (Below.refl _ _).drew) hm mx.1 mx.2 my.1 my.2
      have HX := Lib.hid (And.intro hx hy)
      obtain ⟨q, hq⟩ : ∃ q, Lib.compareInt (keyF sp x) (keyF sp y) = q := ⟨_, rfl⟩
      have hlt : decide (q < 0) = decide (keyF sp x < keyF sp y) := by rw [← hq]; exact cmp_lt _ _
      rw [hq] at HC
      have HCM := Lib.hid HC
      clear HC mx my hq hx hy
      have zjp : (j : Int) = (jp : Int) + 1 := by omega
      obtain ⟨iN, hiN⟩ : ∃ q, q = j := ⟨_, rfl⟩
      obtain ⟨jN, hjN⟩ : ∃ q, q = jp := ⟨_, rfl⟩
      have hjad : decide ((jp : Int) + 1 > (a : Int)) = true := decide_eq_true (by omega)
      have ea : ((jp : Int) + 1).toNat = iN := by omega
      have pa : (0 : Int) ≤ (jp : Int) + 1 := by omega
      have ba : (jp : Int) + 1 < (n : Int) := by omega
      have ra : IntKind.i64.wrap ((jp : Int) + 1) = (jp : Int) + 1 := by rw [IntKind.wrap_i64]; omega
      have ec : ((jp : Int)).toNat = jN := by omega
      have pc : (0 : Int) ≤ (jp : Int) := by omega
      have bc : (jp : Int) < (n : Int) := by omega
      have rc : IntKind.i64.wrap ((jp : Int)) = (jp : Int) := by rw [IntKind.wrap_i64]; omega
      have HXi := HX
      rw [← hiN, ← hjN] at HXi
      have HIJ := Lib.hid (And.intro hiN hjN)
      have HJP := Lib.hid hjp
      clear hiN hjN hjp
      go_wp2_with fail
      cases hd : decide (q < 0)
      · rw [hd] at hlt
        have HLT := Lib.hid hlt
        clear hlt
        (refine wp_region_lines (fun w_ => OrdAt w_ g lj rest) (by kernel_rfl) (by kernel_rfl) (HJ.out.2.1.next (Below.refl _ _).drew) ?_)
        (try simp only [])
        repeat (first | (refine runL_no (by rfl) ?_; (try simp only [Act.put, List.setIfInBounds_toArray, List.set_cons_zero, List.set_cons_succ])) | (refine runL_val (v := ?_) (by rfl) ?_ ?_; rotate_left; (focus (intro w_ hw_; have f1_ := hw_.cell HXi.out.1; have f2_ := hw_.cell HXi.out.2; go_simp; (try with_reducible rfl); done)); (try simp only [Act.put, List.setIfInBounds_toArray, List.set_cons_zero, List.set_cons_succ])) | (refine runL_call (f := ?_) (args := ?_) (w1 := ?_) (by rfl) (by rfl) ?_ ?_; rotate_left 3; (focus (go_simp; refine ⟨⟨?_, ?_⟩, ?_⟩ <;> with_reducible rfl)); (with_reducible refine (HCM.out).mono ?_); rintro e w1 ⟨rfl, hb⟩; have HB6 := Lib.hid ((Below.refl wr.heap.size wr).drew.trans hb); clear hb; refine ⟨_, rfl, .inr (HJ.out.2.1.next HB6.out), ?_⟩; (try simp only [Act.put, List.setIfInBounds_toArray, List.set_cons_zero, List.set_cons_succ])))
        (refine runL_nil ?_)
        go_wp2
        have hend : siftF (keyF sp) a l i = lj := by
          rw [← HJ.out.2.2.2.2, ← HJP.out]
          exact siftF_no (by rw [HJP.out]; exact HX.out.1) HX.out.2 (of_decide_eq_false HLT.out.symm)
        exact K1.out _ _ _ _ _ _ _ _ _ _ _ _ _ _ _ _ _ _ _ _ _ _ _ _ _ _ _ _ _ _ _ _ _ _ _ _ _ ⟨by rw [hend]; exact HJ.out.2.1.next HB6.out, HJ.out.2.2.1.trans (.of_below HB6.out)⟩
      · rw [hd] at hlt
        have HLT := Lib.hid hlt
        clear hlt
        (refine wp_region_lines (fun w_ => OrdAt w_ g lj rest) (by kernel_rfl) (by kernel_rfl) (HJ.out.2.1.next (Below.refl _ _).drew) ?_)
        (try simp only [])
        repeat (first | (refine runL_no (by rfl) ?_; (try simp only [Act.put, List.setIfInBounds_toArray, List.set_cons_zero, List.set_cons_succ])) | (refine runL_val (v := ?_) (by rfl) ?_ ?_; rotate_left; (focus (intro w_ hw_; have f1_ := hw_.cell HXi.out.1; have f2_ := hw_.cell HXi.out.2; go_simp; (try with_reducible rfl); done)); (try simp only [Act.put, List.setIfInBounds_toArray, List.set_cons_zero, List.set_cons_succ])) | (refine runL_call (f := ?_) (args := ?_) (w1 := ?_) (by rfl) (by rfl) ?_ ?_; rotate_left 3; (focus (go_simp; refine ⟨⟨?_, ?_⟩, ?_⟩ <;> with_reducible rfl)); (with_reducible refine (HCM.out).mono ?_); rintro e w1 ⟨rfl, hb⟩; have HB6 := Lib.hid ((Below.refl wr.heap.size wr).drew.trans hb); clear hb; refine ⟨_, rfl, .inr (HJ.out.2.1.next HB6.out), ?_⟩; (try simp only [Act.put, List.setIfInBounds_toArray, List.set_cons_zero, List.set_cons_succ])))
        (refine runL_nil ?_)
        have HO := Lib.hid (HJ.out.2.1.next HB6.out)
        have S3 := Lib.hid (And.intro (HO.out.swap HXi.out.1 HXi.out.2) (((HJ.out.2.2.1.trans (.of_below HB6.out)).setCell (p := ⟨g, iN, none⟩) (.inl rfl) (.int .i64 y)).setCell (p := ⟨g, jN, none⟩) (.inl rfl) (.int .i64 x)))
        have HS2 := Lib.hid (HO.out.set (k := iN) y (List.getElem?_eq_some_iff.1 HXi.out.1).1)
        have HC2 := Lib.hid (HS2.out.cell (k := jN) (x := y) (by rw [List.getElem?_set_ne (by have := HIJ.out.1; have := HIJ.out.2; have := HJP.out; omega)]; exact HXi.out.2))
        go_wp2_with fail
        (refine wp_region_stages (fun k_ w_ => ((fun k => k == 9 || k == 13) k_ = true → (fun w_ => OrdAt w_ g lj rest) w_) ∧ (fun _ => True) w_) (by kernel_rfl) (by kernel_rfl) (fun _ => ⟨fun _ => ((And.intro (HO.out.next (Below.refl _ _).drew) trivial)).1, ((And.intro (HO.out.next (Below.refl _ _).drew) trivial)).2⟩) ?_)
        (try simp only [])
        repeat (first | (refine runK_no (by rfl) ?_; (try simp only [Act.put, List.setIfInBounds_toArray, List.set_cons_zero, List.set_cons_succ])) | (refine runK_val (v := ?_) (by rfl) ?_ ?_; rotate_left; (focus (intro w_ hw_; obtain ⟨hE_, f2_⟩ := hw_; (try (replace hE_ := hE_ (by decide); have f1_ := hE_.cell HXi.out.1; have f2_ := hE_.cell HXi.out.2)); go_simp; (try with_reducible rfl); done)); (try simp only [Act.put, List.setIfInBounds_toArray, List.set_cons_zero, List.set_cons_succ])) | (refine runK_skip (w1 := w1.drew.setCell ⟨g, iN, none⟩ (.int .i64 y)) (by rfl) (by rfl) (exec_store1 3 _ _ rfl g iN _ rfl rfl (by kernel_rfl) (by show (World.cell? w1 _).isSome = true; rw [HO.out.cell HXi.out.1]; rfl) (frozen_row HO.out _) rfl) (fun k_ hk_ => ⟨fun hc_ => (free_crit (C := (fun k => k == 9 || k == 13)) (by kernel_rfl) k_ hk_ hc_).elim, trivial⟩) ?_; (try simp only [Act.put])) | (refine runK_skip (w1 := (w1.drew.setCell ⟨g, iN, none⟩ (.int .i64 y)).setCell ⟨g, jN, none⟩ (.int .i64 x)) (by rfl) (by rfl) (exec_store1 3 _ _ rfl g jN _ rfl rfl (by kernel_rfl) (by show (World.cell? (w1.setCell _ _) _).isSome = true; rw [HC2.out]; rfl) (frozen_row HS2.out _) rfl) (fun k_ hk_ => ⟨fun hc_ => (free_crit (C := (fun k => k == 9 || k == 13)) (by kernel_rfl) k_ hk_ hc_).elim, trivial⟩) ?_; (try simp only [Act.put])))
        (refine runK_nil ?_)
        go_wp2
        go_roundw
        case rel => exact ⟨jp, swapL lj j jp, by first | rfl | go_num | (congr 1; omega), by omega, by omega, Lib.hid ⟨by rw [swapL_len]; exact HJ.out.1, by rw [← HIJ.out.1, ← HIJ.out.2]; exact S3.out.1, S3.out.2.drew, fun z hz => HJ.out.2.2.2.1 z ((swapL_perm (by have := HJ.out.1; have := HJP.out; omega) (by have := HJ.out.1; have := HJP.out; omega)).mem_iff.1 hz), by
          rw [← HJ.out.2.2.2.2, ← HJP.out]
          exact (siftF_go (by have := HJP.out; omega) (by rw [HJP.out]; exact HX.out.1) HX.out.2 (of_decide_eq_true HLT.out.symm)).symm⟩⟩
        case measure => simp [intOf]; omega
    · have hjad : decide ((j : Int) > (a : Int)) = false := decide_eq_false (by omega)
      have hjab : decide (a < j) = false := decide_eq_false hja
      have HJA := Lib.hid hja
      clear hja
      go_wp2_with fail
      (refine wp_region_lines (fun w_ => OrdAt w_ g lj rest) (by kernel_rfl) (by kernel_rfl) (HJ.out.2.1.next (Below.refl _ _).drew) ?_)
      (try simp only [])
      repeat (first | (refine runL_no (by rfl) ?_; (try simp only [Act.put, List.setIfInBounds_toArray, List.set_cons_zero, List.set_cons_succ])) | (refine runL_val (v := ?_) (by rfl) ?_ ?_; rotate_left; (focus (intro w_ hw_; skip; go_simp; (try with_reducible rfl); done)); (try simp only [Act.put, List.setIfInBounds_toArray, List.set_cons_zero, List.set_cons_succ])))
      (refine runL_nil ?_)
      go_wp2
      have hend : siftF (keyF sp) a l i = lj := by
        rw [← HJ.out.2.2.2.2]
        exact siftF_end HJA.out
      exact K1.out _ _ _ _ _ _ _ _ _ _ _ _ _ _ _ _ _ _ _ _ _ _ _ _ _ _ _ _ _ _ _ _ _ _ _ _ _ ⟨by rw [hend]; exact HJ.out.2.1.next (Below.refl _ _).drew, HJ.out.2.2.1.drew⟩
end Go.Proofs.YtppoiahhaclleaaDoor
