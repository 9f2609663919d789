/- slices.SortFunc over regions, by their bases, of at most 12. -/
import Derived.Test.YtmanhikpccnfaaaGreatWordsB
import Derived.Test.YtmanhikpccnfaaaGreatShelf
import Derived.Test.YtmanhikpccnfaaaGreatPlainSort
namespace Go.Proofs.YtmanhikpccnfaaaGreat
open Go.RowKit

def cmpN (x y : Nat) : Int := if x < y then -1 else if y < x then 1 else 0

set_option maxHeartbeats 400000 in
theorem Compare_any (x y : Nat) (w : World) : Calls Tryz.prog 59 #[.int .u64 x, .int .u64 y] w fun e w' => e = .returned (.int .i64 (cmpN x y)) ∧ w = w' := by
  have hb : ∀ z : Nat, ((z : Int) == z) = true := fun z => by simp
  have hn : ∀ z : Nat, ((z : Int) != z) = false := fun z => by simp
  by_cases h1 : x < y
  · have hd : decide (x < y) = true := by simpa using h1
    have hr : cmpN x y = -1 := by simp [cmpN, h1]
    have HR := Lib.hid hr; clear hr
    go_enter Tryz.func59, Tryz.ntmps59
    go_wp2
    go_ret
    exact ⟨ret_int HR.out.symm, rfl⟩
  · have hd : decide (x < y) = false := by simpa using h1
    by_cases h2 : y < x
    · have hd2 : decide (y < x) = true := by simpa using h2
      have hr : cmpN x y = 1 := by simp [cmpN, h1, h2]
      have HR := Lib.hid hr; clear hr
      go_enter Tryz.func59, Tryz.ntmps59
      go_wp2
      go_ret
      exact ⟨ret_int HR.out.symm, rfl⟩
    · have hd2 : decide (y < x) = false := by simpa using h2
      have hr : cmpN x y = 0 := by simp [cmpN, h1, h2]
      have HR := Lib.hid hr; clear hr
      go_enter Tryz.func59, Tryz.ntmps59
      go_wp2
      go_ret
      exact ⟨ret_int HR.out.symm, rfl⟩

set_option maxHeartbeats 400000 in
theorem own1_any (x y : Nat) (x1 x2 y1 y2 : Value) (w : World) :
    Calls Tryz.prog 58 #[.agg #[.int .u64 x, x1, x2], .agg #[.int .u64 y, y1, y2]] w fun e w' => e = .returned (.int .i64 (cmpN x y)) ∧ Below w.heap.size w w' := by
  have hb : Below w.heap.size w ((w.alloc (.cells #[.int .u64 x, x1, x2] 38)).alloc (.cells #[.int .u64 y, y1, y2] 38)) := ((Below.refl _ _).alloc (Nat.le_refl _) _).alloc (by simp) _
  have HB := Lib.hid hb; clear hb
  go_enter Tryz.func58, Tryz.ntmps58
  go_wp2_with (go_at_call 59; refine (Compare_any _ _ _).mono ?_; rintro e w' ⟨rfl, rfl⟩)
  go_ret
  exact ⟨rfl, HB.out⟩
/-- So many are sorted. -/
def sortTo (E : List Ent) (k : Nat) : List Ent := ((E.take k).foldl (insBy Ent.key) []).reverse ++ E.drop k
def sortEnts (E : List Ent) : List Ent := sortBy Ent.key E

theorem sortTo_length (E : List Ent) (k : Nat) : (sortTo E k).length = E.length := by
  simp [sortTo, foldl_insBy_length]; omega
theorem sortTo_start (E : List Ent) : sortTo E 1 = E := by
  cases E with
  | nil => rfl
  | cons x E => simp [sortTo, insBy]
theorem sortTo_end (E : List Ent) {k : Nat} (h : E.length ≤ k) : sortTo E k = sortEnts E := by
  simp [sortTo, sortEnts, sortBy, List.take_of_length_le h, List.drop_eq_nil_of_le h]
theorem sortTo_step (E : List Ent) {k : Nat} (h : k < E.length) : ∃ A x B, sortTo E k = A ++ x :: B ∧ A.length = k ∧ sortTo E (k + 1) = (insBy Ent.key A.reverse x).reverse ++ B := by
  refine ⟨((E.take k).foldl (insBy Ent.key) []).reverse, E[k], E.drop (k + 1), ?_, ?_, ?_⟩
  · rw [sortTo, ← List.drop_eq_getElem_cons h]
  · simp [foldl_insBy_length]; omega
  · rw [sortTo, List.take_succ_eq_append_getElem h, List.foldl_append, List.reverse_reverse]; rfl

/-- The row of number i, where one is taken out of the middle. -/
theorem row_at (A : List Ent) (x : Ent) (B : List Ent) : ((A ++ x :: B).map entRow)[A.length]? = some (entRow x) := by
  rw [List.getElem?_map, List.getElem?_append_right (Nat.le_refl _)]; simp

theorem swap_rows (A : List Ent) (p x : Ent) (B : List Ent) {q : Nat} (h : A.length = q) :
    (((A.concat p ++ x :: B).map entRow).set (q + 1) (entRow p)).set q (entRow x) = (A ++ x :: p :: B).map entRow := by
  subst h
  have : (A.concat p ++ x :: B).map entRow = A.map entRow ++ entRow p :: entRow x :: B.map entRow := by simp
  rw [this, List.set_append_right _ _ (by simp), List.set_append_right _ _ (by simp)]
  simp
theorem insRev_step (A : List Ent) (p x : Ent) (B : List Ent) (h : x.key < p.key) : (insBy Ent.key (A.concat p).reverse x).reverse ++ B = (insBy Ent.key A.reverse x).reverse ++ p :: B := by
  simp [insBy, h]
theorem insRev_stop (A : List Ent) (x : Ent) (B : List Ent) (h : ∀ (p : Ent) (A' : List Ent), A = A'.concat p → ¬ x.key < p.key) : (insBy Ent.key A.reverse x).reverse ++ B = A ++ x :: B := by
  rcases List.eq_nil_or_concat A with rfl | ⟨A', p, rfl⟩
  · rfl
  · have := h p A' rfl
    simp [insBy, this]

set_option maxRecDepth 100000 in
set_option maxHeartbeats 1600000 in
theorem insertionSort_any (g cap n : Nat) (E : List Ent) (w : World) (hn : E.length = n) (hn2 : n ≤ 140737488351232) (hr : RowsBlk w g 38 3 (E.map entRow)) :
    Calls Tryz.prog 110 #[.slice (some ⟨g, 0, none⟩) n cap, .int .i64 0, .int .i64 n, .func (.func 58) #[] #[]] w fun e w' =>
      e = .returned (.tuple #[]) ∧ Chg (· = g) w w' ∧ RowsBlk w' g 38 3 ((sortEnts E).map entRow) := by
  have HR := Lib.hid hr
  have HN := Lib.hid hn
  clear hr hn
  go_enter Tryz.func110, Tryz.ntmps110
  go_wp2
  go_loopw [8] (fun i wr => ∃ k : Nat, 1 ≤ k ∧ k ≤ n + 1 ∧ i = .int .i64 k ∧ Chg (· = g) w wr ∧ RowsBlk wr g 38 3 ((sortTo E k).map entRow)) (fun i _ => n + 1 - (intOf i).toNat)
  case atStart => exact ⟨1, by omega, by omega, rfl, Chg.refl _ _, by rw [sortTo_start]; exact HR.out⟩
  case round =>
    obtain ⟨k, hk1, hk, rfl, hch, hrow⟩ := hrel
    have HROW := Lib.hid hrow
    have HCH := Lib.hid hch
    clear hrow hch
    by_cases hlt : k < n
    · obtain ⟨A0, x, B0, hs0, hA0, hs1⟩ := sortTo_step E (k := k) (by have := HN.out; omega)
      have HS0 := Lib.hid hs0
      have HS1 := Lib.hid hs1
      have HA0 := Lib.hid hA0
      clear hs0 hs1 hA0
      go_wp2
      obtain ⟨wo, rfl⟩ : ∃ wo : World, wo = wr := ⟨_, rfl⟩
      go_loopw [9] (fun j wr => ∃ (q : Nat) (A B : List Ent), A.length = q ∧ q ≤ k ∧ j = .int .i64 q ∧ Chg (· = g) w wr ∧ RowsBlk wr g 38 3 ((A ++ x :: B).map entRow) ∧ (insBy Ent.key A.reverse x).reverse ++ B = sortTo E (k + 1)) (fun j _ => (intOf j).toNat)
      case atStart => exact ⟨k, A0, B0, HA0.out, by omega, rfl, HCH.out, by rw [← HS0.out]; exact HROW.out, HS1.out.symm⟩
      case round =>
        obtain ⟨q, A, B, hA, hq, rfl, hch, hrow, hfin⟩ := hrel
        have HFIN := Lib.hid hfin
        have HROW := Lib.hid hrow
        have HCH := Lib.hid hch
        have HA := Lib.hid hA
        clear hrow hfin hch hA
        rcases List.eq_nil_or_concat A with rfl | ⟨A', p, rfl⟩
        · obtain rfl : q = 0 := by have := HA.out; simp at this; omega
          clear HA
          go_wp2
          (refine wp_region_lines (Below wr.heap.size wr) (by kernel_rfl) (by kernel_rfl) (Below.refl _ _).drew ?_)
          have hS := (Below.refl wr.heap.size wr).drew
          (try simp only [])
          repeat (first | (refine runL_no (by rfl) ?_; (try simp only [Act.put, List.setIfInBounds_toArray, List.set_cons_zero, List.set_cons_succ])) | (refine runL_val (v := ?_) (by rfl) ?_ ?_; rotate_left; (focus (intro w_ hw_; have hc_ := bcell hw_; go_simp; (try with_reducible rfl); done)); (try simp only [Act.put, List.setIfInBounds_toArray, List.set_cons_zero, List.set_cons_succ])) | (refine runL_call (f := ?_) (args := ?_) (w1 := ?_) (by rfl) (by rfl) ?_ ?_; rotate_left 3; (focus (go_simp; refine ⟨⟨?_, ?_⟩, ?_⟩ <;> with_reducible rfl)); refine (own1_any _ _ _ _ _ _ _).mono ?_; rintro e w1 ⟨rfl, hb1⟩; replace hS := hS.trans (hb1.mono hS.size); refine ⟨_, rfl, .inr hS, ?_⟩; clear hb1; (try simp only [Act.put, List.setIfInBounds_toArray, List.set_cons_zero, List.set_cons_succ])))
          (refine runL_nil ?_)
          have hch1 : Chg (· = g) w wr.drew := HCH.out.drew
          have HCH1 := Lib.hid hch1
          clear hch1 hS HCH
          go_wp2
          go_roundw
          case rel => exact ⟨k + 1, by omega, by omega, by go_num, HCH1.out, by rw [← HFIN.out]; exact HROW.out⟩
          case measure => simp [intOf]; omega
        · obtain ⟨q', rfl⟩ : ∃ q', q = q' + 1 := ⟨A'.length, by have := HA.out; simp at this; omega⟩
          have hA' : A'.length = q' := by have := HA.out; simp at this; omega
          have e1 : (A'.concat p ++ x :: B).map entRow = (A'.concat p).map entRow ++ entRow x :: B.map entRow := by simp
          have r1 : ((A'.concat p ++ x :: B).map entRow)[q' + 1]? = some (entRow x) := by rw [← hA']; have := row_at (A'.concat p) x B; rw [List.length_concat] at this; exact this
          have r0 : ((A'.concat p ++ x :: B).map entRow)[q']? = some (entRow p) := by rw [← hA']; have := row_at A' p (x :: B); rw [List.concat_eq_append, List.append_assoc]; exact this
          have c0 := HROW.out.cell r0 (j := 0) (by rfl)
          have c1 := HROW.out.cell r0 (j := 1) (by rfl)
          have c2 := HROW.out.cell r0 (j := 2) (by rfl)
          have d0 := HROW.out.cell r1 (j := 0) (by rfl)
          have d1 := HROW.out.cell r1 (j := 1) (by rfl)
          have d2 := HROW.out.cell r1 (j := 2) (by rfl)
          have hg := HROW.out.lt
          simp only [Nat.add_zero] at c0 d0
          clear r0 r1 e1 hA'
          have i0 : (0 : Int) ≤ (q' : Int) + 1 := by omega
          have i1 : (q' : Int) + 1 < (n : Int) := by omega
          have i2 : (0 : Int) ≤ (q' : Int) := by omega
          have i3 : (q' : Int) < (n : Int) := by omega
          have i5 : IntKind.i64.wrap (q' : Int) = (q' : Int) := IntWalk.i64_in _ (by omega)
          by_cases hc : x.key < p.key
          · have hd : decide (cmpN x.key p.key < 0) = true := by simp [cmpN, hc]
            go_wp2
            (refine wp_region_lines (Below wr.heap.size wr) (by kernel_rfl) (by kernel_rfl) (Below.refl _ _).drew ?_)
            have hS := (Below.refl wr.heap.size wr).drew
            (try simp only [])
            repeat (first | (refine runL_no (by rfl) ?_; (try simp only [Act.put, List.setIfInBounds_toArray, List.set_cons_zero, List.set_cons_succ])) | (refine runL_val (v := ?_) (by rfl) ?_ ?_; rotate_left; (focus (intro w_ hw_; have hc_ := bcell hw_; go_simp; (try with_reducible rfl); done)); (try simp only [Act.put, List.setIfInBounds_toArray, List.set_cons_zero, List.set_cons_succ])) | (refine runL_call (f := ?_) (args := ?_) (w1 := ?_) (by rfl) (by rfl) ?_ ?_; rotate_left 3; (focus (go_simp; refine ⟨⟨?_, ?_⟩, ?_⟩ <;> with_reducible rfl)); refine (own1_any _ _ _ _ _ _ _).mono ?_; rintro e w1 ⟨rfl, hb1⟩; replace hS := hS.trans (hb1.mono hS.size); refine ⟨_, rfl, .inr hS, ?_⟩; clear hb1; (try simp only [Act.put, List.setIfInBounds_toArray, List.set_cons_zero, List.set_cons_succ])))
            (refine runL_nil ?_)
            have hrw : RowsBlk w1 g 38 3 ((A'.concat p ++ x :: B).map entRow) := HROW.out.keep (hS.block g hg)
            have hch1 : Chg (· = g) w w1 := HCH.out.trans (.of_below hS)
            have HRW := Lib.hid hrw
            have HCH1 := Lib.hid hch1
            have c0' := (hS.cell (p := ⟨g, q' * 3, none⟩) hg).trans c0
            have c1' := (hS.cell (p := ⟨g, q' * 3 + 1, none⟩) hg).trans c1
            have c2' := (hS.cell (p := ⟨g, q' * 3 + 2, none⟩) hg).trans c2
            have d0' := (hS.cell (p := ⟨g, (q' + 1) * 3, none⟩) hg).trans d0
            have d1' := (hS.cell (p := ⟨g, (q' + 1) * 3 + 1, none⟩) hg).trans d1
            have d2' := (hS.cell (p := ⟨g, (q' + 1) * 3 + 2, none⟩) hg).trans d2
            have f0 := hrw.frozen
            have hlen : ((A'.concat p ++ x :: B).map entRow).length = A'.length + 2 + B.length := by simp; omega
            have hA' : A'.length = q' := by have := HA.out; simp at this; omega
            obtain ⟨_, ⟨t1, k1⟩, ⟨t2, k2⟩⟩ := hrw.mid3 (i := q' + 1) (by omega) (.int .u64 p.key) (.slice p.ad p.n p.c)
            have hr2 := hrw.set3 (i := q' + 1) (by omega) (.int .u64 p.key) (.slice p.ad p.n p.c) (.bool p.wr)
            obtain ⟨⟨t3, k3⟩, ⟨t4, k4⟩, ⟨t5, k5⟩⟩ := hr2.mid3 (i := q') (by simp; omega) (.int .u64 x.key) (.slice x.ad x.n x.c)
            have hr3 := hr2.set3 (i := q') (by simp; omega) (.int .u64 x.key) (.slice x.ad x.n x.c) (.bool x.wr)
            have HR3 := Lib.hid hr3
            have HA' := Lib.hid hA'
            clear hlen hA' hr2 hr3
            clear hrw hch1 c0 c1 c2 d0 d1 d2 hd hS HROW HCH
            go_wp2
            go_region
            go_wp2
            go_roundw
            case rel => exact ⟨q', A', p :: B, HA'.out, by omega, by go_num, (((((((HCH1.out.setCell (.inl rfl) _).setCell (.inl rfl) _).setCell (.inl rfl) _).setCell (.inl rfl) _).setCell (.inl rfl) _).setCell (.inl rfl) _).drew), (by rw [← swap_rows A' p x B HA'.out]; exact (RowsBlk.drew HR3.out)), by rw [← insRev_step A' p x B hc]; exact HFIN.out⟩
            case measure => simp [intOf]
          · have hd : decide (cmpN x.key p.key < 0) = false := by simp only [cmpN, if_neg hc]; split <;> decide
            go_wp2
            (refine wp_region_lines (Below wr.heap.size wr) (by kernel_rfl) (by kernel_rfl) (Below.refl _ _).drew ?_)
            have hS := (Below.refl wr.heap.size wr).drew
            (try simp only [])
            repeat (first | (refine runL_no (by rfl) ?_; (try simp only [Act.put, List.setIfInBounds_toArray, List.set_cons_zero, List.set_cons_succ])) | (refine runL_val (v := ?_) (by rfl) ?_ ?_; rotate_left; (focus (intro w_ hw_; have hc_ := bcell hw_; go_simp; (try with_reducible rfl); done)); (try simp only [Act.put, List.setIfInBounds_toArray, List.set_cons_zero, List.set_cons_succ])) | (refine runL_call (f := ?_) (args := ?_) (w1 := ?_) (by rfl) (by rfl) ?_ ?_; rotate_left 3; (focus (go_simp; refine ⟨⟨?_, ?_⟩, ?_⟩ <;> with_reducible rfl)); refine (own1_any _ _ _ _ _ _ _).mono ?_; rintro e w1 ⟨rfl, hb1⟩; replace hS := hS.trans (hb1.mono hS.size); refine ⟨_, rfl, .inr hS, ?_⟩; clear hb1; (try simp only [Act.put, List.setIfInBounds_toArray, List.set_cons_zero, List.set_cons_succ])))
            (refine runL_nil ?_)
            have hrw : RowsBlk w1 g 38 3 ((A'.concat p ++ x :: B).map entRow) := HROW.out.keep (hS.block g hg)
            have hch1 : Chg (· = g) w w1 := HCH.out.trans (.of_below hS)
            have HRW := Lib.hid hrw
            have HCH1 := Lib.hid hch1
            clear hrw hch1 c0 c1 c2 d0 d1 d2 hd hS HROW HCH
            go_wp2
            go_roundw
            case rel => exact ⟨k + 1, by omega, by omega, by go_num, HCH1.out, by
              rw [← HFIN.out, insRev_stop _ _ _ (fun p' A'' he => by rw [List.concat_eq_append, List.concat_eq_append] at he; obtain ⟨_, h2⟩ := List.append_inj' he rfl; cases h2; exact hc)]
              exact HRW.out⟩
            case measure => simp [intOf]; omega
    · go_wp2
      go_end0
      exact ⟨rfl, HCH.out, by rw [← sortTo_end E (k := k) (by have := HN.out; omega)]; exact HROW.out⟩
end Go.Proofs.YtmanhikpccnfaaaGreat
