/- keysmithkit.Own, of bytes and of regions. -/
import Derived.Test.YtcciaihghhleoaaClone
import Derived.Test.YtcciaihghhleoaaOwn
import Derived.Deep.LoopGhost
namespace Go.Proofs.Ytcciaihghhleoaa
open Go.RowKit

theorem BytesAt.get {w : World} {F : Nat → Prop} {A : Option Addr} {n c : Nat} {l : List UInt8} (h : BytesAt w F (.slice A n c) l) {q : Nat} {x : UInt8} (hq : l[q]? = some x) :
    ∃ b o, A = some ⟨b, o, none⟩ ∧ F b ∧ w.cell? ⟨b, o + q, none⟩ = some (.int .u8 x.toNat) := by
  obtain ⟨A', c', hv, _, _, hne⟩ := h
  cases hv
  have hr : (l.map fun x => [byteV x])[q]? = some [byteV x] := by rw [List.getElem?_map, hq]; rfl
  obtain ⟨b, o, hA, hF, hc⟩ := hne (fun e => by rw [e] at hr; cases hr)
  have := hc q 0 _ (byteV x) hr rfl
  exact ⟨b, o, hA, hF, by simpa [byteV] using this⟩

theorem append_none {P : Program} (w : World) (t ty e : TypeId) (i : TypeInfo) (ht : P.underlying t = some (.slice e)) (hi : P.info? e = some i) (a : Addr) (c : Nat) :
    (Builtin.append_ #[t, t] ty #[.slice (some a) 0 0, .slice none 0 c]).run P w = .ok (.slice (some a) 0 0) w := by
  simp [Builtin.append_, run_underlying ht, sizeOf, typeInfo, hi, Builtin.lenOf, Builtin.firstCells, storeCells]

theorem rowsBlk_of_own0 {w : World} {base e sz n : Nat} {v : Value} {rows : List (List Value)} (h : w.ownsRow base e sz v n rows.flatten) (hsz : ∀ r ∈ rows, r.length = sz) (hv : v ≠ .slice none 0 0) :
    ∃ g cap, v = .slice (some ⟨g, 0, none⟩) n cap ∧ base ≤ g ∧ n ≤ cap ∧ RowsBlk w g e sz rows := by
  rcases Nat.eq_zero_or_pos rows.length with h0 | hpos
  · obtain rfl := List.eq_nil_of_length_eq_zero h0
    rcases h.2 with ⟨h1, _⟩ | ⟨g, cap, cur, hv, hg, hh, hnc, hcm, hcs, htk⟩
    · exact absurd h1 hv
    · exact ⟨g, cap, hv, hg, hnc, cur, hh, fun i j r u h => by simp at h, fun r h => by simp at h⟩
  · rcases Nat.eq_zero_or_pos n with hn | hn
    · rcases h.2 with ⟨h1, _⟩ | ⟨g, cap, cur, hv, hg, hh, hnc, hcm, hcs, htk⟩
      · exact absurd h1 hv
      · have hl := h.1
        subst hn
        refine ⟨g, cap, hv, hg, hnc, cur, hh, fun i j r u hr hu => ?_, hsz⟩
        have : r ∈ rows := List.mem_of_getElem? hr
        have h0 : rows.flatten = [] := List.eq_nil_of_length_eq_zero (by simpa using hl)
        rw [List.flatten_eq_nil_iff] at h0
        rw [h0 r this] at hu
        simp at hu
    · exact rowsBlk_of_own h hsz hn

set_option maxHeartbeats 400000 in
theorem OwnB_nil (c : Nat) (w : World) :
    Calls Try.prog 30 #[.slice none 0 c] w fun e w' => e = .returned (.slice (some ⟨w.heap.size, 0, none⟩) 0 0) ∧ w' = w.alloc (.cells #[] 5) := by
  obtain ⟨i0, hi, hz0, hz1, hz2⟩ := info_parts infoU8
  have h0 := fun (w : World) (a : Addr) => append_none (P := Try.prog) w 34 34 5 i0 Try.underlying34 hi a c
  clear hz0 hz1 hz2
  go_enter Try.func30, Try.ntmps30
  go_wp2
  go_ret
  exact ⟨rfl, rfl⟩

set_option maxHeartbeats 400000 in
theorem OwnB_some (ad : Addr) (n c : Nat) (w : World) (news : List Value) (hl : news.length = n * 1) (hc : ∀ (j : Nat) (u : Value), news[j]? = some u → w.cell? (ad.add j) = some u) (h1 : ∀ u ∈ news, u.oneCell' = true) (hn : n ≤ 140737488351232) :
    Calls Try.prog 30 #[.slice (some ad) n c] w fun e w' => ∃ v, e = .returned v ∧ w'.ownsRow w.heap.size 5 1 v n news ∧ v ≠ .slice none 0 0 ∧ Below w.heap.size w w' := by
  obtain ⟨i0, hi, hz0, hz1, hz2⟩ := info_parts infoU8
  have hc2 : ∀ (j : Nat) (u : Value), news[j]? = some u → (w.alloc (.cells #[] 5)).cell? (ad.add j) = some u := fun j u hu => by
    have := hc j u hu
    rw [World.cell?_alloc_lt _ _ _ (World.block_lt_of_cell? w _ this)]; exact this
  have HC := Lib.hid hc2
  have HL := Lib.hid hl
  have H1 := Lib.hid h1
  clear hc hc2 hl h1
  go_enter Try.func30, Try.ntmps30
  go_wp2_with ((at_builtin; refine wpList_append_own_at _ rfl _ _ 34 rfl w.heap.size 5 i0 (.int .u8 0) 1 1 Try.underlying34 hi hz0 hz1 hz2 rfl (by decide) _ 0 [] rfl (own_zero w _ _) ad n c news rfl HL.out HC.out H1.out (by unfold maxLen; omega) (by omega) (by simp) ?_); intro v w1 hown hg hnn _; have HNN := Lib.hid hnn; clear hnn)
  go_ret
  exact ⟨v, rfl, by simpa using hown, fun e => (nomatch ((HNN.out.1 e).1)), ((Below.refl _ _).alloc (Nat.le_refl _) _).grown hg (by simp) (fun k hk => Nat.le_of_eq (Option.some.inj hk))⟩

theorem OwnB_blk (v : Value) (w : World) (F : Nat → Prop) (rows : List (List Value)) (hr : Rows w F 1 v rows) (h1 : ∀ u ∈ rows.flatten, u.oneCell' = true) (hn : rows.length ≤ 3518437208000) :
    Calls Try.prog 30 #[v] w fun e w' => ∃ g cap, e = .returned (.slice (some ⟨g, 0, none⟩) rows.length cap) ∧ w.heap.size ≤ g ∧ rows.length ≤ cap ∧ RowsBlk w' g 5 1 rows ∧ Below w.heap.size w w' := by
  have hr' := hr
  obtain ⟨A, c, rfl, hc, hl, hne⟩ := hr'
  cases A with
  | none =>
    have h0 : rows = [] := by
      rcases rows with _ | ⟨r, rs⟩
      · rfl
      · obtain ⟨b, off, hA, _⟩ := hne (by simp); cases hA
    subst h0
    refine (OwnB_nil c w).mono ?_
    rintro e w' ⟨rfl, rfl⟩
    exact ⟨_, 0, rfl, Nat.le_refl _, Nat.le_refl _, ⟨#[], heap_alloc_new w _, fun i j r u h => by simp at h, fun r h => by simp at h⟩, (Below.refl _ _).alloc (Nat.le_refl _) _⟩
  | some ad =>
    obtain ⟨hfl, hfc⟩ := hr.flat (by decide)
    refine (OwnB_some ad rows.length c w rows.flatten hfl hfc h1 (by omega)).mono ?_
    rintro e w' ⟨v, rfl, hown, hnn, hb⟩
    obtain ⟨g, cap, rfl, hg, hcap, hrow⟩ := rowsBlk_of_own0 hown hl hnn
    exact ⟨g, cap, rfl, hg, hcap, hrow, hb⟩

set_option maxHeartbeats 400000 in
theorem OwnR_nil (c : Nat) (w : World) :
    Calls Try.prog 29 #[.slice none 0 c] w fun e w' => e = .returned (.slice (some ⟨w.heap.size, 0, none⟩) 0 0) ∧ w' = w.alloc (.cells #[] 36) := by
  obtain ⟨i0, hi, hz0, hz1, hz2⟩ := info_parts infoReg
  have h0 := fun (w : World) (a : Addr) => append_none (P := Try.prog) w 22 22 36 i0 Try.underlying22 hi a c
  clear hz0 hz1 hz2
  go_enter Try.func29, Try.ntmps29
  go_wp2
  go_ret
  exact ⟨rfl, rfl⟩

set_option maxHeartbeats 400000 in
theorem OwnR_some (ad : Addr) (n c : Nat) (w : World) (news : List Value) (hl : news.length = n * 3) (hc : ∀ (j : Nat) (u : Value), news[j]? = some u → w.cell? (ad.add j) = some u) (h1 : ∀ u ∈ news, u.oneCell' = true) (hn : n ≤ 3518437208000) :
    Calls Try.prog 29 #[.slice (some ad) n c] w fun e w' => ∃ v, e = .returned v ∧ w'.ownsRow w.heap.size 36 3 v n news ∧ v ≠ .slice none 0 0 ∧ Below w.heap.size w w' := by
  obtain ⟨i0, hi, hz0, hz1, hz2⟩ := info_parts infoReg
  have hc2 : ∀ (j : Nat) (u : Value), news[j]? = some u → (w.alloc (.cells #[] 36)).cell? (ad.add j) = some u := fun j u hu => by
    have := hc j u hu
    rw [World.cell?_alloc_lt _ _ _ (World.block_lt_of_cell? w _ this)]; exact this
  have HC := Lib.hid hc2
  have HL := Lib.hid hl
  have H1 := Lib.hid h1
  clear hc hc2 hl h1
  go_enter Try.func29, Try.ntmps29
  go_wp2_with ((at_builtin; refine wpList_append_own_at _ rfl _ _ 22 rfl w.heap.size 36 i0 (.agg #[.int .u64 0, .slice none 0 0, .bool false]) 3 40 Try.underlying22 hi hz0 hz1 hz2 rfl (by decide) _ 0 [] rfl (own_zero w _ _) ad n c news rfl HL.out HC.out H1.out (by unfold maxLen; omega) (by omega) (by simp) ?_); intro v w1 hown hg hnn _; have HNN := Lib.hid hnn; clear hnn)
  go_ret
  exact ⟨v, rfl, by simpa using hown, fun e => (nomatch ((HNN.out.1 e).1)), ((Below.refl _ _).alloc (Nat.le_refl _) _).grown hg (by simp) (fun k hk => Nat.le_of_eq (Option.some.inj hk))⟩

theorem OwnR_blk (v : Value) (w : World) (F : Nat → Prop) (rows : List (List Value)) (hr : Rows w F 3 v rows) (h1 : ∀ u ∈ rows.flatten, u.oneCell' = true) (hn : rows.length ≤ 3518437208000) :
    Calls Try.prog 29 #[v] w fun e w' => ∃ g cap, e = .returned (.slice (some ⟨g, 0, none⟩) rows.length cap) ∧ w.heap.size ≤ g ∧ rows.length ≤ cap ∧ RowsBlk w' g 36 3 rows ∧ Below w.heap.size w w' := by
  have hr' := hr
  obtain ⟨A, c, rfl, hc, hl, hne⟩ := hr'
  cases A with
  | none =>
    have h0 : rows = [] := by
      rcases rows with _ | ⟨r, rs⟩
      · rfl
      · obtain ⟨b, off, hA, _⟩ := hne (by simp); cases hA
    subst h0
    refine (OwnR_nil c w).mono ?_
    rintro e w' ⟨rfl, rfl⟩
    exact ⟨_, 0, rfl, Nat.le_refl _, Nat.le_refl _, ⟨#[], heap_alloc_new w _, fun i j r u h => by simp at h, fun r h => by simp at h⟩, (Below.refl _ _).alloc (Nat.le_refl _) _⟩
  | some ad =>
    obtain ⟨hfl, hfc⟩ := hr.flat (by decide)
    refine (OwnR_some ad rows.length c w rows.flatten hfl hfc h1 (by omega)).mono ?_
    rintro e w' ⟨v, rfl, hown, hnn, hb⟩
    obtain ⟨g, cap, rfl, hg, hcap, hrow⟩ := rowsBlk_of_own0 hown hl hnn
    exact ⟨g, cap, rfl, hg, hcap, hrow, hb⟩


set_option maxRecDepth 100000 in
set_option maxHeartbeats 800000 in
theorem OwnRegions_any (v : Value) (w : World) (F : Nat → Prop) (l : List Reg) (hl : RegsAt w F v l) (hF : ∀ k, F k → k < w.heap.size) (h8 : l.length ≤ 3518437208000) (hb : ∀ r ∈ l, r.bytes.length ≤ 1048576) :
    Calls Try.prog 20 #[v] w fun e w' => ∃ v', e = .returned v' ∧ RegsOwn w' (seg w.heap.size w'.heap.size) v' l ∧ Below w.heap.size w w' := by
  obtain ⟨P, hP, hrows, hsrc⟩ := hl
  have hpl : P.length = l.length := by rw [← hP]; simp
  have HC := Lib.hid (OwnR_blk v w F (P.map fun x => entRow x.2) hrows (entRows_one P) (by simp; omega))
  obtain ⟨A, c, hv, hc, hlen3, hne⟩ := hrows
  subst hP
  have HSRC := Lib.hid hsrc
  have HF := Lib.hid hF
  have HB := Lib.hid hb
  simp only [List.length_map] at hv h8
  subst hv
  clear hsrc hlen3 hne hb hF hc
  simp only [List.length_map] at HC
  generalize hn : P.length = n at *
  have HN := Lib.hid hn
  clear hn hpl
  go_enter Try.func20, Try.ntmps20
  go_wp2_with ((with_reducible refine (HC.out).mono ?_); rintro e w1 ⟨g, cap, rfl, hg, hcap, hrow, hb1⟩)
  have HROW := Lib.hid hrow
  have HB1 := Lib.hid hb1
  clear hrow hb1 HC
  go_loopg [4] n (fun gg i wr => ∃ (k : Nat) (P1 P2 : List (Reg × Ent)), P1.length = k ∧ k ≤ n ∧ gg = n - k ∧ i = .int .i64 k ∧ (P1 ++ P2).map (·.1) = P.map (·.1) ∧ Below w.heap.size w wr ∧ RowsBlk wr g 36 3 ((P1 ++ P2).map fun x => entRow x.2) ∧
      (∀ x ∈ P1, EntOwn wr (seg w.heap.size wr.heap.size) x.1 x.2) ∧ (P1.map (·.2.ad)).Nodup ∧ (∀ x ∈ P2, EntSrc w F x.1 x.2))
  case atStart => exact ⟨0, [], P, rfl, by omega, rfl, rfl, rfl, HB1.out, HROW.out, by simp, by simp, HSRC.out⟩
  case round =>
    obtain ⟨k, P1, P2, hk1, hk, hgg, rfl, hfst, hbl, hrw, hown, hnd, hsrc⟩ := hrel
    have hg1 := Nat.le_of_eq hgg
    have hg2 := Nat.le_of_eq hgg.symm
    have hlen : (P1 ++ P2).length = n := by have := congrArg List.length hfst; have := HN.out; simp at *; omega
    have HFST := Lib.hid hfst
    have HBL := Lib.hid hbl
    have HRW := Lib.hid hrw
    have HOWN := Lib.hid hown
    have HND := Lib.hid hnd
    have HSRC2 := Lib.hid hsrc
    have HK1 := Lib.hid hk1
    have HLEN := Lib.hid hlen
    clear hfst hbl hrw hown hnd hsrc hk1 hlen HSRC HROW HB1 hgg
    by_cases hlt : k < n
    · obtain ⟨x, P2', rfl⟩ : ∃ x P2', P2 = x :: P2' := by
        cases P2 with
        | nil => have := HLEN.out; have := HK1.out; simp at *; omega
        | cons x P2' => exact ⟨x, P2', rfl⟩
      have hx := HSRC2.out x (List.mem_cons_self ..)
      have hxl := HB.out x.1 (by
        have h1 : x.1 ∈ (P1 ++ x :: P2').map (·.1) := by simp
        rw [HFST.out] at h1; exact h1)
      have hri : ((P1 ++ x :: P2').map fun x => entRow x.2)[k]? = some (entRow x.2) := by
        rw [List.getElem?_map, List.getElem?_append_right (by have := HK1.out; omega), show k - P1.length = 0 from by have := HK1.out; omega]; rfl
      have hcell : wr.cell? ⟨g, k * 3 + 1, none⟩ = some (.slice x.2.ad x.2.n x.2.c) := HRW.out.cell hri (j := 1) (by rfl)
      have hgl := HRW.out.lt
      have HX := Lib.hid hx
      have HRI := Lib.hid hri
      have HCB := Lib.hid (OwnB_blk (.slice x.2.ad x.2.n x.2.c) wr F (byteRows x.1.bytes) (hx.bytes.keep (SameOn.of_below HBL.out HF.out)) (byteRows_one _) (by simp [byteRows]; omega))
      clear hx hxl hri
      have i0 : (0 : Int) ≤ (k : Int) := by omega
      have i1 : (k : Int) < (n : Int) := by omega
      go_wp2_with ((with_reducible refine (HCB.out).mono ?_); rintro e w2 ⟨bb, cap2, rfl, hbb, hcap2, hrow2, hb2⟩; have hcell2 := (hb2.cell (p := ⟨g, k * 3 + 1, none⟩) hgl).trans hcell; have hfr2 := (HRW.out.keep (hb2.block g hgl)).frozen (k * 3 + 1); have HR2 := Lib.hid hrow2; have HC2 := Lib.hid hcap2; have HB2 := Lib.hid hb2; clear hrow2 hcap2 hb2 hcell)
      go_roundg (n - (k + 1))
      case measure => omega
      case rel =>
        have hx := HX.out
        refine ⟨k + 1, P1 ++ [(x.1, ⟨x.2.key, some ⟨bb, 0, none⟩, (byteRows x.1.bytes).length, cap2, x.2.wr⟩)], P2', by have := HK1.out; simp; omega, by omega, rfl, by go_num, ?_, ?_, ?_, ?_, ?_, fun y hy => HSRC2.out y (List.mem_cons_of_mem _ hy)⟩
        · rw [← HFST.out]; simp
        · exact (HBL.out.trans (HB2.out.mono HBL.out.size)).setCell hg _
        · rw [← set_mid P1 P2' x HK1.out]
          exact (HRW.out.keep (HB2.out.block g hgl)).set_ HRI.out (j := 1) (by decide) _
        · intro y hy
          have hsz : (w2.setCell ⟨g, k * 3 + 1, none⟩ (.slice (some ⟨bb, 0, none⟩) (byteRows x.1.bytes).length cap2)).heap.size = w2.heap.size := by simp [World.setCell]
          have hw2 := HB2.out.size
          have hwr := HBL.out.size
          rcases List.mem_append.1 hy with hy | hy
          · refine (HOWN.out y hy).keep2 HRW.out (by decide) (fun q hq hne => (Below.heap_setCell _ _ _ _ hne).trans (HB2.out.block q hq)) (fun q hq hlq => ⟨hq.1, ?_⟩)
            rw [hsz]; omega
          · simp only [List.mem_singleton] at hy
            subst hy
            have hbbne : bb ≠ g := by omega
            refine ⟨hx.key, by simp [byteRows], hx.wr, HC2.out, bb, rfl, ⟨by omega, by rw [hsz]; exact HR2.out.lt⟩, HR2.out.keep (Below.heap_setCell _ _ _ _ hbbne)⟩
        · exact ad_new HOWN.out HND.out hbb _ rfl
    · obtain rfl : P2 = [] := by
        have h1 := HLEN.out; have h2 := HK1.out
        cases P2 with
        | nil => rfl
        | cons => simp at h1; omega
      go_wp2
      go_ret
      have h1 := HFST.out
      have h2 := HRW.out
      have h3 := HN.out
      rw [List.append_nil] at h1 h2
      exact ⟨_, rfl, ⟨_, cap, P1, by simp [h3], by simp [h3]; exact hcap, h1, HOWN.out, HND.out, fun _ => ⟨g, rfl, ⟨hg, h2.lt⟩, h2⟩⟩, HBL.out⟩
end Go.Proofs.Ytcciaihghhleoaa
