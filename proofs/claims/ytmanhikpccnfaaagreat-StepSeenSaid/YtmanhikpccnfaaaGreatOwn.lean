/- memory.own: regions on their own, by their addresses. -/
import Derived.Test.YtmanhikpccnfaaaGreatSortB
import Derived.Test.YtmanhikpccnfaaaGreatClone
namespace Go.Proofs.YtmanhikpccnfaaaGreat
open Go.RowKit

def byteRows (l : List UInt8) : List (List Value) := l.map fun x => [byteV x]
theorem byteRows_len (l : List UInt8) : ∀ r ∈ byteRows l, r.length = 1 := by
  intro r hr
  obtain ⟨x, _, rfl⟩ := List.mem_map.1 hr
  rfl
theorem byteRows_one (l : List UInt8) : ∀ u ∈ (byteRows l).flatten, u.oneCell' = true := by
  intro u hu
  obtain ⟨r, hr, hu⟩ := List.mem_flatten.1 hu
  obtain ⟨x, _, rfl⟩ := List.mem_map.1 hr
  simp at hu
  subst hu
  rfl
theorem entRows_one (P : List (Reg × Ent)) : ∀ u ∈ (P.map fun x => entRow x.2).flatten, u.oneCell' = true := by
  intro u hu
  obtain ⟨r, hr, hu⟩ := List.mem_flatten.1 hu
  obtain ⟨x, _, rfl⟩ := List.mem_map.1 hr
  simp [entRow] at hu
  rcases hu with rfl | rfl | rfl <;> rfl
theorem entRows_len (P : List (Reg × Ent)) : ∀ r ∈ P.map (fun x => entRow x.2), r.length = 3 := by
  intro r hr
  obtain ⟨x, _, rfl⟩ := List.mem_map.1 hr
  rfl

/-- The cells hold the region, whose bytes lie in a block of F of their own. -/
structure EntOwn (w : World) (F : Nat → Prop) (r : Reg) (e : Ent) : Prop where
  key : e.key = r.base
  n : e.n = r.bytes.length
  wr : e.wr = r.write
  cap : e.n ≤ e.c
  blk : ∃ bb, e.ad = some ⟨bb, 0, none⟩ ∧ F bb ∧ RowsBlk w bb 5 1 (byteRows r.bytes)

theorem EntOwn.keep {w w' : World} {F : Nat → Prop} {r : Reg} {e : Ent} (h : EntOwn w F r e) (hk : SameOn F w w') : EntOwn w' F r e := by
  obtain ⟨bb, h1, h2, h3⟩ := h.blk
  exact ⟨h.key, h.n, h.wr, h.cap, bb, h1, h2, h3.keep (hk bb h2)⟩
theorem EntOwn.mono {w : World} {F G : Nat → Prop} {r : Reg} {e : Ent} (h : EntOwn w F r e) (hk : ∀ k, F k → G k) : EntOwn w G r e := by
  obtain ⟨bb, h1, h2, h3⟩ := h.blk
  exact ⟨h.key, h.n, h.wr, h.cap, bb, h1, hk _ h2, h3⟩

/-- A slice of regions in blocks of F of its own. -/
def RegsOwn (w : World) (F : Nat → Prop) (v : Value) (l : List Reg) : Prop :=
  ∃ (A : Option Addr) (c : Nat) (P : List (Reg × Ent)), v = .slice A l.length c ∧ l.length ≤ c ∧ P.map (·.1) = l ∧ (∀ x ∈ P, EntOwn w F x.1 x.2) ∧ (P.map (·.2.ad)).Nodup ∧
    (l ≠ [] → ∃ g, A = some ⟨g, 0, none⟩ ∧ F g ∧ RowsBlk w g 38 3 (P.map fun x => entRow x.2))

theorem RegsOwn.keep {w w' : World} {F : Nat → Prop} {v : Value} {l : List Reg} (h : RegsOwn w F v l) (hk : SameOn F w w') : RegsOwn w' F v l := by
  obtain ⟨A, c, P, h1, h2, h3, h4, h5, h6⟩ := h
  refine ⟨A, c, P, h1, h2, h3, fun x hx => (h4 x hx).keep hk, h5, fun hne => ?_⟩
  obtain ⟨g, hA, hF, hr⟩ := h6 hne
  exact ⟨g, hA, hF, hr.keep (hk g hF)⟩

def seg (s e : Nat) : Nat → Prop := fun k => s ≤ k ∧ k < e

/-- Blocks of different element types are different. -/
theorem RowsBlk.ne {w : World} {g g' e e' sz sz' : Nat} {rows rows' : List (List Value)} (h : RowsBlk w g e sz rows) (h' : RowsBlk w g' e' sz' rows') (hne : e ≠ e') : g ≠ g' := by
  rintro rfl
  obtain ⟨c, h1, _⟩ := h
  obtain ⟨c', h1', _⟩ := h'
  rw [h1] at h1'
  injection h1' with h1'
  injection h1' with _ he
  exact hne he

/-- It reads as regions. -/
theorem RegsOwn.at_ {w : World} {F : Nat → Prop} {v : Value} {l : List Reg} (h : RegsOwn w F v l) (hb : ∀ r ∈ l, r.base < 18446744073709551616 ∧ r.bytes.length ≤ 9223372036854775807) : RegsAt w F v l := by
  obtain ⟨A, c, P, h1, h2, h3, h4, h5, h6⟩ := h
  have hlen : P.length = l.length := by rw [← h3]; simp
  refine ⟨P, h3, ⟨A, c, by rw [h1]; simp [hlen], by simpa [hlen] using h2, entRows_len P, fun hne => ?_⟩, fun x hx => ?_⟩
  · obtain ⟨g, hA, hF, hr⟩ := h6 (fun e => hne (by rw [e] at hlen; simp [List.eq_nil_of_length_eq_zero hlen]))
    refine ⟨g, 0, hA, hF, fun i j r u hi hj => ?_⟩
    rw [Nat.zero_add]
    exact hr.cell hi hj
  · have hx4 := h4 x hx
    obtain ⟨bb, b1, b2, b3⟩ := hx4.blk
    have hxl : x.1 ∈ l := by rw [← h3]; exact List.mem_map_of_mem hx
    refine ⟨hx4.key, hx4.n, hx4.wr, ⟨x.2.ad, x.2.c, by simp [hx4.n], by simpa [hx4.n] using (hx4.n ▸ hx4.cap), byteRows_len _, fun _ => ⟨bb, 0, b1, b2, fun i j r u hi hj => ?_⟩⟩, (hb _ hxl).1, (hb _ hxl).2⟩
    rw [Nat.zero_add]
    exact b3.cell hi hj

/-- .. where only a block of another element type changed. -/
theorem EntOwn.keep2 {w w' : World} {F G : Nat → Prop} {r : Reg} {e : Ent} {g t sz : Nat} {rows : List (List Value)} (h : EntOwn w F r e) (hg : RowsBlk w g t sz rows) (ht : 5 ≠ t)
    (hk : ∀ k, k < w.heap.size → k ≠ g → w'.heap[k]? = w.heap[k]?) (hG : ∀ k, F k → k < w.heap.size → G k) : EntOwn w' G r e := by
  obtain ⟨bb, h1, h2, h3⟩ := h.blk
  exact ⟨h.key, h.n, h.wr, h.cap, bb, h1, hG _ h2 h3.lt, h3.keep (hk bb h3.lt (h3.ne hg ht))⟩

theorem set_mid (P1 P2 : List (Reg × Ent)) (x : Reg × Ent) {k : Nat} (hk : P1.length = k) (A : Option Addr) (n c : Nat) :
    ((P1 ++ x :: P2).map fun x => entRow x.2).set k ((entRow x.2).set 1 (.slice A n c)) = ((P1 ++ [((x.1, ⟨x.2.key, A, n, c, x.2.wr⟩) : Reg × Ent)]) ++ P2).map fun x => entRow x.2 := by
  subst hk
  rw [List.map_append, List.map_cons, List.set_append_right _ _ (by simp)]
  simp [entRow]

theorem ad_new {w : World} {F : Nat → Prop} {P : List (Reg × Ent)} (h : ∀ x ∈ P, EntOwn w F x.1 x.2) (hn : (P.map (·.2.ad)).Nodup) {bb : Nat} (hb : w.heap.size ≤ bb) (x : Reg × Ent) (hx : x.2.ad = some ⟨bb, 0, none⟩) : ((P ++ [x]).map (·.2.ad)).Nodup := by
  rw [List.map_append, List.nodup_append]
  refine ⟨hn, by simp, fun a ha b hb' => ?_⟩
  obtain ⟨y, hy, rfl⟩ := List.mem_map.1 ha
  simp only [List.map_cons, List.map_nil, List.mem_singleton] at hb'
  subst hb'
  obtain ⟨b2, h1, _, h3⟩ := (h y hy).blk
  rw [hx, h1]
  intro he
  cases he
  have := h3.lt
  omega

set_option maxRecDepth 100000 in
set_option maxHeartbeats 800000 in
theorem own_any (v : Value) (w : World) (F : Nat → Prop) (l : List Reg) (hl : RegsAt w F v l) (hF : ∀ k, F k → k < w.heap.size) (h8 : l.length ≤ 12) (hb : ∀ r ∈ l, r.bytes ≠ [] ∧ r.bytes.length ≤ 1048576) :
    Calls Tryz.prog 35 #[v] w fun e w' => ∃ v', e = .returned v' ∧ RegsOwn w' (seg w.heap.size w'.heap.size) v' (sortBy Reg.base l) ∧ Below w.heap.size w w' := by
  obtain ⟨P, hP, hrows, hsrc⟩ := hl
  obtain ⟨A, c, hv, hc, hlen3, hne⟩ := hrows
  subst hP
  simp only [List.length_map] at hv h8 hc
  subst hv
  rcases Nat.eq_zero_or_pos P.length with h0 | hpos
  · obtain rfl := List.eq_nil_of_length_eq_zero h0
    have HC := Lib.hid (CloneR_rows (.slice A 0 c) w F [] ⟨A, c, rfl, by simp, by simp, by simp⟩ (by simp) (by simp))
    clear hF hsrc hlen3 hne hb h8 hc h0
    go_enter Tryz.func35, Tryz.ntmps35
    go_wp2_with ((with_reducible refine (HC.out).mono ?_); rintro e w1 ⟨v1, rfl, hown, hb1⟩)
    obtain ⟨A1, c1, rfl⟩ : ∃ A1 c1, v1 = .slice A1 0 c1 := by
      rcases hown.2 with ⟨rfl, _⟩ | ⟨g, cap, _, rfl, _⟩
      · exact ⟨_, _, rfl⟩
      · exact ⟨_, _, rfl⟩
    clear hown
    have HB1 := Lib.hid hb1
    clear hb1
    clear HC
    go_wp2
    go_simp
    go_wp2
    refine wp_loop_rounds 1 ?_
    rw [rounds_succ]
    go_wp2_with (go_at_call 57; (refine (SortFunc_zero _ _ _ _).mono ?_); rintro e w2 ⟨rfl, rfl⟩)
    go_ret
    exact ⟨_, rfl, ⟨A1, c1, [], rfl, by simp [sortBy], rfl, by simp, by simp, by simp [sortBy]⟩, HB1.out⟩
  · have HC := Lib.hid (CloneR_rows (.slice A P.length c) w F (P.map fun x => entRow x.2) ⟨A, c, by simp, by simpa using hc, hlen3, hne⟩ (entRows_one P) (by simp; omega))
    have HSRC := Lib.hid hsrc
    have HF := Lib.hid hF
    have HB := Lib.hid hb
    clear hsrc hlen3 hne hb hF
    generalize hn : P.length = n at *
    have HN := Lib.hid hn
    clear hn
    go_enter Tryz.func35, Tryz.ntmps35
    go_wp2_with ((with_reducible refine (HC.out).mono ?_); rintro e w1 ⟨v1, rfl, hown, hb1⟩)
    obtain ⟨g, cap, rfl, hg, hcap, hrow⟩ := rowsBlk_of_own hown (entRows_len P) (by have := HN.out; simp; omega)
    simp only [List.length_map, HN.out] at hcap
    have HROW := Lib.hid hrow
    have HB1 := Lib.hid hb1
    clear hown hrow hb1
    simp only [List.length_map, HN.out]
    clear HC
    go_wp2
    go_simp
    go_wp2
    go_loopw [4, 9] (fun _ i wr => ∃ (k : Nat) (P1 P2 : List (Reg × Ent)), P1.length = k ∧ k ≤ n ∧ i = .int .i64 k ∧ (P1 ++ P2).map (·.1) = P.map (·.1) ∧ Below w.heap.size w wr ∧ RowsBlk wr g 38 3 ((P1 ++ P2).map fun x => entRow x.2) ∧
        (∀ x ∈ P1, EntOwn wr (seg w.heap.size wr.heap.size) x.1 x.2) ∧ (P1.map (·.2.ad)).Nodup ∧ (∀ x ∈ P2, EntSrc w F x.1 x.2)) (fun _ i _ => n - (intOf i).toNat)
    case atStart => exact ⟨0, [], P, rfl, by omega, rfl, rfl, HB1.out, HROW.out, by simp, by simp, HSRC.out⟩
    case round =>
      obtain ⟨k, P1, P2, hk1, hk, rfl, hfst, hbl, hrw, hown, hnd, hsrc⟩ := hrel
      have hlen : (P1 ++ P2).length = n := by have := congrArg List.length hfst; have := HN.out; simp at *; omega
      have HFST := Lib.hid hfst
      have HBL := Lib.hid hbl
      have HRW := Lib.hid hrw
      have HOWN := Lib.hid hown
      have HND := Lib.hid hnd
      have HSRC2 := Lib.hid hsrc
      have HK1 := Lib.hid hk1
      have HLEN := Lib.hid hlen
      clear hfst hbl hrw hown hnd hsrc hk1 hlen HSRC HROW HB1
      by_cases hlt : k < n
      · obtain ⟨x, P2', rfl⟩ : ∃ x P2', P2 = x :: P2' := by
          cases P2 with
          | nil => have := HLEN.out; have := HK1.out; simp at *; omega
          | cons x P2' => exact ⟨x, P2', rfl⟩
        have hx := HSRC2.out x (List.mem_cons_self ..)
        have hxl := HB.out x.1 (by
          have h1 : x.1 ∈ (P1 ++ x :: P2').map (·.1) := by simp
          rw [HFST.out] at h1; exact h1)
        have hri : ((P1 ++ x :: P2').map fun x => entRow x.2)[k]? = some (entRow x.2) := by
          rw [List.getElem?_map, List.getElem?_append_right (by have := HK1.out; omega), show k - P1.length = 0 from by have := HK1.out; omega]; rfl
        have hcell : wr.cell? ⟨g, k * 3 + 1, none⟩ = some (.slice x.2.ad x.2.n x.2.c) := HRW.out.cell hri (j := 1) (by rfl)
        have hg2 := HRW.out.lt
        have HX := Lib.hid hx
        have hxl' := hxl
        have HXL := Lib.hid hxl
        have HRI := Lib.hid hri
        have HCB := Lib.hid (CloneB_rows (.slice x.2.ad x.2.n x.2.c) wr F (byteRows x.1.bytes) (hx.bytes.keep (SameOn.of_below HBL.out HF.out)) (byteRows_one _) (by have := hxl.2; simp [byteRows]; omega))
        clear hx hxl hri
        have i0 : (0 : Int) ≤ (k : Int) := by omega
        have i1 : (k : Int) < (n : Int) := by omega
        have hbn : 0 < (byteRows x.1.bytes).length := by
          have := hxl'.1
          cases hbs : x.1.bytes with
          | nil => exact absurd hbs this
          | cons => simp [byteRows]
        have HBN := Lib.hid hbn
        clear hbn hxl'
        go_wp2_with ((with_reducible refine (HCB.out).mono ?_); rintro e w2 ⟨v2, rfl, hown2, hb2⟩; obtain ⟨bb, cap2, rfl, hbb, hcap2, hrow2⟩ := rowsBlk_of_own hown2 (byteRows_len _) HBN.out; have hcell2 := (hb2.cell (p := ⟨g, k * 3 + 1, none⟩) hg2).trans hcell; have hfr2 := (HRW.out.keep (hb2.block g hg2)).frozen (k * 3 + 1); have HR2 := Lib.hid hrow2; have HC2 := Lib.hid hcap2; have HB2 := Lib.hid hb2; clear hown2 hrow2 hcap2 hb2 hcell)
        go_roundw
        case rel =>
          have hx := HX.out
          refine ⟨k + 1, P1 ++ [(x.1, ⟨x.2.key, some ⟨bb, 0, none⟩, (byteRows x.1.bytes).length, cap2, x.2.wr⟩)], P2', by have := HK1.out; simp; omega, by omega, by go_num, ?_, ?_, ?_, ?_, ?_, fun y hy => HSRC2.out y (List.mem_cons_of_mem _ hy)⟩
          · rw [← HFST.out]; simp
          · exact (HBL.out.trans (HB2.out.mono HBL.out.size)).setCell hg _
          · rw [← set_mid P1 P2' x HK1.out]
            exact (HRW.out.keep (HB2.out.block g hg2)).set_ HRI.out (j := 1) (by decide) _
          · intro y hy
            have hsz : (w2.setCell ⟨g, k * 3 + 1, none⟩ (.slice (some ⟨bb, 0, none⟩) (byteRows x.1.bytes).length cap2)).heap.size = w2.heap.size := by simp [World.setCell]
            have hw2 := HB2.out.size
            have hwr := HBL.out.size
            rcases List.mem_append.1 hy with hy | hy
            · refine (HOWN.out y hy).keep2 HRW.out (by decide) (fun q hq hne => (Below.heap_setCell _ _ _ _ hne).trans (HB2.out.block q hq)) (fun q hq hlq => ⟨hq.1, ?_⟩)
              rw [hsz]; omega
            · simp only [List.mem_singleton] at hy
              subst hy
              have hbbne : bb ≠ g := by omega
              refine ⟨hx.key, by simp [byteRows], hx.wr, HC2.out, bb, rfl, ⟨by omega, by rw [hsz]; exact HR2.out.lt⟩, HR2.out.keep (Below.heap_setCell _ _ _ _ hbbne)⟩
          · exact ad_new HOWN.out HND.out hbb _ rfl
        case measure => simp [intOf]; omega
      · obtain rfl : P2 = [] := by
          have h1 := HLEN.out; have h2 := HK1.out
          cases P2 with
          | nil => rfl
          | cons => simp at h1; omega
        have hlen2 : (P1.map (·.2)).length = n := by have h1 := HLEN.out; simpa using h1
        have hrow2 : RowsBlk wr g 38 3 ((P1.map (·.2)).map entRow) := by have h1 := HRW.out; rw [List.append_nil] at h1; rw [List.map_map]; exact h1
        have HS := Lib.hid (SortFunc_any g cap n (P1.map (·.2)) wr hlen2 h8 hrow2)
        clear hlen2 hrow2
        go_wp2_with ((with_reducible refine (HS.out).mono ?_); rintro e w2 ⟨rfl, hch, hrow3⟩)
        go_ret
        refine ⟨_, rfl, ⟨some ⟨g, 0, none⟩, cap, sortBy (fun x => x.2.key) P1, ?_, ?_, ?_, ?_, ?_, ?_⟩, ?_⟩
        · have h1 := HLEN.out; simp at h1
          have h2 := HN.out
          rw [sortBy_length]; simp [h2]
        · rw [sortBy_length]; simp only [List.length_map]; rw [HN.out]; exact hcap
        · have h1 := HFST.out
          rw [List.append_nil] at h1
          rw [← h1, sortBy_map, sortBy_congr P1 (k := fun x => x.2.key) (k' := fun x => x.1.base) (fun x hx => (HOWN.out x hx).key)]
        · intro y hy
          exact (HOWN.out y ((sortBy_perm _ _).mem_iff.1 hy)).keep2 HRW.out (by decide) (fun q hq hne => hch.block q hq hne) (fun q hq hlq => ⟨hq.1, by have := hch.size; have := hq.2; omega⟩)
        · exact ((sortBy_perm _ _).map _).nodup_iff.2 HND.out
        · intro _
          refine ⟨g, rfl, ⟨hg, by have := hrow3.lt; omega⟩, ?_⟩
          have h1 : sortEnts (P1.map (·.2)) = (sortBy (fun x => x.2.key) P1).map (·.2) := sortBy_map Ent.key (fun x : Reg × Ent => x.2) P1
          rw [h1, List.map_map] at hrow3
          exact hrow3
        · exact HBL.out.trans (hch.below (fun q hq he => by subst he; omega) HBL.out.size)
end Go.Proofs.YtmanhikpccnfaaaGreat
