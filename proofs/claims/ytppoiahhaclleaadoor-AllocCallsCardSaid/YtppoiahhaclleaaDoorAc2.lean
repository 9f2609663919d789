/- alloc.Build: its loops, over whatever keeper. -/
import Derived.Test.YtppoiahhaclleaaDoorKeep14
import Derived.Test.YtppoiahhaclleaaDoorShelfS
import Derived.Laws.Bits64b
import Derived.WalkSpells
import Derived.ArgAppend
import Derived.Test.YtppoiahhaclleaaDoorAc1
namespace Go.Proofs.YtppoiahhaclleaaDoor
open Go.RowKit

theorem EndsAt.chg {P : Nat → Prop} {w w' : World} {g : Nat} {E : List Int} (h : EndsAt w g E) (hb : Chg P w w') (h1 : ¬ P g) : EndsAt w' g E := (hb.block g (lt_of_block h) h1).trans h
theorem OrdAt.chg {P : Nat → Prop} {w w' : World} {g : Nat} {E : List Int} {r : List Value} (h : OrdAt w g E r) (hb : Chg P w w') (h1 : ¬ P g) : OrdAt w' g E r := (hb.block g (lt_of_block h) h1).trans h
theorem EndsAt.set {w : World} {g : Nat} {l : List Int} (h : EndsAt w g l) (k : Nat) (x : Int) : EndsAt (w.setCell ⟨g, k, none⟩ (.int .i64 x)) g (l.set k x) := by
  have := setCell_row h k (.int .i64 x)
  unfold EndsAt
  rw [this]
  unfold intV
  rw [List.map_set]
theorem KeysAt.cell2 {w : World} {gb gs n : Nat} {sp : List (Int × Int)} (h : KeysAt w gb gs n sp) {x : Nat} {s : Int × Int} (hs : sp[x]? = some s) : w.cell? ⟨gs, x * 2, none⟩ = some (.int .i64 s.1) ∧ w.cell? ⟨gs, x * 2 + 1, none⟩ = some (.int .i64 s.2) := h.row.cells hs
set_option maxRecDepth 100000 in
set_option maxHeartbeats 4000000 in
theorem build_l2 {g n c gb gs m go kb B : Nat} {sp : List (Int × Int)} {ord : List Int} {rest : List Value} {O : Nat → List Int} {pl : Nat → Int} {St : Nat → World → Prop} (w : World) (Q : Exit → Act → World → Prop) {u0 u1 u2 u3 u4 u5 u6 u7 u10 u11 u12 u14 u15 u16 u17 u18 u19 u20 u21 u22 u23 u24 u25 u26 u27 u28 u29 u30 u31 u32 u33 u34 u35 u36 u37 u38 u39 u40 u41 u42 u43 u44 u45 u46 u47 u48 u49 u50 u51 u52 u53 u54 u55 u56 u57 u58 u59 u63 u64 u65 u66 u67 u68 u69 u70 u71 u72 u73 u74 u75 u76 u77 u78 u79 u80 u81 u82 u83 u84 : Value} (hk : KeysAt w gb gs m sp) (ho : OrdAt w g ord rest) (he : EndsAt w go (O 0)) (hl : ord.length = n ∧ n ≤ 1000 ∧ m ≤ 1000) (hmem : ∀ x ∈ ord, 0 ≤ x ∧ x < (m : Int)) (hs : St 0 w)
    (hfree : ∀ (k q : Nat) (s : Int × Int), ord[k]? = some (q : Int) → sp[q]? = some s → ∀ wr, St k wr → Calls Tryd.prog 37 #[.pointer (some ⟨kb, 0, none⟩), .int .i64 s.1] wr fun e w' => e = .returned (.tuple #[]) ∧ St k w' ∧ Chg (fun j => B ≤ j ∧ j ≠ gs ∧ j ≠ g ∧ j ≠ gb ∧ j ≠ go) wr w')
    (htake : ∀ (k q : Nat) (s : Int × Int), ord[k]? = some (q : Int) → sp[q]? = some s → ∀ wr, St k wr → Calls Tryd.prog 38 #[.pointer (some ⟨kb, 0, none⟩), .int .i64 s.2] wr fun e w' => e = .returned (.int .i64 (pl k)) ∧ St (k + 1) w' ∧ Chg (fun j => B ≤ j ∧ j ≠ gs ∧ j ≠ g ∧ j ≠ gb ∧ j ≠ go) wr w')
    (hO : ∀ k : Nat, (O k).length = m ∧ ∀ q : Nat, ord[k]? = some (q : Int) → O (k + 1) = (O k).set q (pl k)) (hg : B ≤ go ∧ go ≠ gs ∧ go ≠ g ∧ go ≠ gb) (hst : ∀ k wr x v, St k wr → St k (wr.setCell ⟨go, x, none⟩ v))
    (k1 : ∀ (v15 v62 v63 v64 v65 v66 v67 v68 v69 v70 v71 v72 v73 v74 v75 v76 v77 v78 v79 v80 v81 v82 v83 : Value) (w' : World), Chg (fun j => B ≤ j ∧ j ≠ gs ∧ j ≠ g ∧ j ≠ gb) w w' ∧ EndsAt w' go (O n) ∧ St n w' → Q (.exit 2) ⟨#[u0, u1, u2, u3, u4, u5, u6, u7, .pointer (some ⟨gb, 0, none⟩), .slice (some ⟨go, 0, none⟩) m m, u10, u11, u12, .pointer (some ⟨kb, 0, none⟩), u14, v15, u16, u17, u18, u19, u20, u21, u22, u23, u24, u25, u26, u27, u28, u29, u30, u31, u32, u33, u34, u35, u36, u37, u38, u39, u40, u41, u42, u43, u44, u45, u46, u47, u48, u49, u50, u51, u52, u53, u54, u55, u56, u57, u58, u59, .slice (some ⟨g, 0, none⟩) n c, .int .i64 (n : Nat), v62, v63, v64, v65, v66, v67, v68, v69, v70, v71, v72, v73, v74, v75, v76, v77, v78, v79, v80, v81, v82, v83, u84], []⟩ w') : (partL Tryd.f13 2).wp Tryd.prog Q ⟨#[u0, u1, u2, u3, u4, u5, u6, u7, .pointer (some ⟨gb, 0, none⟩), .slice (some ⟨go, 0, none⟩) m m, u10, u11, u12, .pointer (some ⟨kb, 0, none⟩), u14, u15, u16, u17, u18, u19, u20, u21, u22, u23, u24, u25, u26, u27, u28, u29, u30, u31, u32, u33, u34, u35, u36, u37, u38, u39, u40, u41, u42, u43, u44, u45, u46, u47, u48, u49, u50, u51, u52, u53, u54, u55, u56, u57, u58, u59, .slice (some ⟨g, 0, none⟩) n c, .int .i64 (n : Nat), .int .i64 0, u63, u64, u65, u66, u67, u68, u69, u70, u71, u72, u73, u74, u75, u76, u77, u78, u79, u80, u81, u82, u83, u84], []⟩ w := by
  have hn1 := hl.2.1
  have hm1 := hl.2.2
  have HK := Lib.hid hk
  have HO := Lib.hid ho
  have HE := Lib.hid he
  have HL := Lib.hid hl
  have HM := Lib.hid hmem
  have HS := Lib.hid hs
  have HFR := Lib.hid hfree
  have HTK := Lib.hid htake
  have HOO := Lib.hid hO
  have HG := Lib.hid hg
  have HST := Lib.hid hst
  have K1 := Lib.hid k1
  clear hk ho he hl hmem hs hfree htake hO hg hst k1
  conv => arg 2; whnf
  go_wp2
  go_loopw [62] (fun j wr => ∃ k : Nat, k ≤ n ∧ j = .int .i64 k ∧ Hid (Chg (fun j => B ≤ j ∧ j ≠ gs ∧ j ≠ g ∧ j ≠ gb) w wr ∧ EndsAt wr go (O k) ∧ St k wr)) (fun j _ => n - (intOf j).toNat)
  case atStart => exact ⟨0, by omega, rfl, Lib.hid ⟨Chg.refl _ _, HE.out, HS.out⟩⟩
  case round =>
    clear HE HS
    obtain ⟨k, hk, rfl, HJ⟩ := hrel
    by_cases hlt : k < n
    · obtain ⟨x, hx⟩ : ∃ s, ord[k]? = some s := ⟨_, List.getElem?_eq_getElem (by have := HL.out.1; omega)⟩
      have mx := HM.out x (List.mem_of_getElem? hx)
      obtain ⟨q, hq⟩ : ∃ q : Nat, q = x.toNat := ⟨_, rfl⟩
      obtain rfl : x = (q : Int) := by omega
      obtain ⟨s, hs⟩ : ∃ s, sp[q]? = some s := ⟨_, List.getElem?_eq_getElem (by have := HK.out.len; omega)⟩
      have HC := Lib.hid (And.intro (HFR.out k q s hx hs) (HTK.out k q s hx hs))
      have HKr := Lib.hid (KeysAt.chg HK.out HJ.out.1 (by have := HG.out; intro h; exact h.2.2.2 rfl) (by intro h; exact h.2.1 rfl))
      have hc0 := (OrdAt.chg HO.out HJ.out.1 (by intro h; exact h.2.2.1 rfl)).cell hx
      have hb0 := HKr.out.box
      have hb1 := (HKr.out.cell2 hs).1
      have HXS := Lib.hid (And.intro hx hs)
      have HC1 := Lib.hid (HC.out.1 wr HJ.out.2.2)
      obtain ⟨s0, h0⟩ : ∃ x, s.1 = x := ⟨_, rfl⟩
      obtain ⟨s1, h1⟩ : ∃ x, s.2 = x := ⟨_, rfl⟩
      rw [h0] at HC1 hb1
      have HSS := Lib.hid (And.intro h0 h1)
      have i0 : (0 : Int) ≤ (k : Int) := by omega
      have i1 : (k : Int) < (n : Int) := by omega
      have j0 : (0 : Int) ≤ (q : Int) := by omega
      have j1 : (q : Int) < (m : Int) := by omega
      have HQ := Lib.hid hq
      clear hx hs mx hq h0 h1
      go_upto_region 21 with ((with_reducible refine (HC1.out).mono ?_); rintro e w1 ⟨rfl, hst1, hch1⟩; have H1 := Lib.hid (And.intro hst1 hch1); clear hst1 hch1)
      clear hc0 hb0 hb1
      have HK1 := Lib.hid (KeysAt.chg HKr.out H1.out.2 (by intro h; exact h.2.2.2.1 rfl) (by intro h; exact h.2.1 rfl))
      have HC2 := HC.out.2 w1 H1.out.1
      rw [HSS.out.2] at HC2
      have HC3 := Lib.hid HC2
      clear HC2
      have hb0 := HK1.out.box
      have hb2 := (HK1.out.cell2 HXS.out.2).2
      rw [HSS.out.2] at hb2
      obtain ⟨pv, hpv⟩ : ∃ x, pl k = x := ⟨_, rfl⟩
      rw [hpv] at HC3
      have HPV := Lib.hid hpv
      clear hpv
      go_wp2_with ((with_reducible refine (HC3.out).mono ?_); rintro e w2 ⟨rfl, hst2, hch2⟩; have H2 := Lib.hid (And.intro hst2 hch2); clear hst2 hch2; have HE2 := Lib.hid (EndsAt.chg (EndsAt.chg HJ.out.2.1 H1.out.2 (by intro h; exact h.2.2.2.2 rfl)) H2.out.2 (by intro h; exact h.2.2.2.2 rfl)); have hlo : q < (O k).length := (by rw [(HOO.out k).1]; omega); have c9 : w2.cell? ⟨go, q, none⟩ = some (.int .i64 ((O k)[q])) := HE2.out.cell (List.getElem?_eq_getElem hlo); have f9 := frozen_row HE2.out q)
      go_roundw
      case rel =>
        have hok := (HOO.out k).2 q HXS.out.1
        refine ⟨k + 1, by omega, by go_num, Lib.hid ⟨?_, ?_, HST.out _ _ _ _ H2.out.1⟩⟩
        · exact ((HJ.out.1.trans (H1.out.2.mono fun j _ h => ⟨h.1, h.2.1, h.2.2.1, h.2.2.2.1⟩)).trans (H2.out.2.mono fun j _ h => ⟨h.1, h.2.1, h.2.2.1, h.2.2.2.1⟩)).setCell (.inl HG.out) _
        · rw [hok, HPV.out]
          exact HE2.out.set q pv
      case measure => simp [intOf]; omega
    · have hkn : k = n := by omega
      subst hkn
      go_wp2
      exact K1.out _ _ _ _ _ _ _ _ _ _ _ _ _ _ _ _ _ _ _ _ _ _ _ _ ⟨HJ.out.1, HJ.out.2.1, HJ.out.2.2⟩
end Go.Proofs.YtppoiahhaclleaaDoor

/- alloc.Build: the order is made. -/
namespace Go.Proofs.YtppoiahhaclleaaDoor
open Go.RowKit

def ordTo (sp : List (Int × Int)) (k : Nat) : List Int := ((List.range k).filter fun r => decide (0 ≤ (sp.getD r (-1, -1)).1)).map fun r : Nat => (r : Int)
theorem ord_yes {sp : List (Int × Int)} {k : Nat} {s : Int × Int} (h : sp[k]? = some s) (h0 : 0 ≤ s.1) : ordTo sp (k + 1) = ordTo sp k ++ [(k : Int)] := by
  unfold ordTo
  rw [List.range_succ, List.filter_append, List.map_append]
  congr 1
  simp [List.getD_eq_getElem?_getD, h, h0]
theorem ord_no {sp : List (Int × Int)} {k : Nat} {s : Int × Int} (h : sp[k]? = some s) (h0 : ¬ 0 ≤ s.1) : ordTo sp (k + 1) = ordTo sp k := by
  unfold ordTo
  rw [List.range_succ, List.filter_append, List.map_append]
  have : ([k].filter fun r => decide (0 ≤ (sp.getD r (-1, -1)).1)) = [] := by simp [List.getD_eq_getElem?_getD, h]; omega
  rw [this]; simp
theorem ord_len (sp : List (Int × Int)) (k : Nat) : (ordTo sp k).length ≤ k := by
  unfold ordTo
  rw [List.length_map]
  exact Nat.le_trans (List.length_filter_le _ _) (by simp)
theorem ord_mem {sp : List (Int × Int)} {k : Nat} : ∀ x ∈ ordTo sp k, 0 ≤ x ∧ x < (k : Int) := by
  intro x hx
  unfold ordTo at hx
  obtain ⟨r, hr, rfl⟩ := List.mem_map.1 hx
  have := List.mem_range.1 (List.mem_filter.1 hr).1
  exact ⟨by omega, by omega⟩
theorem own_ord {w : World} {base g n c : Nat} {l : List Int} (h : w.ownsRow base 3 1 (.slice (some ⟨g, 0, none⟩) n c) n (intV l)) : ∃ rest, OrdAt w g l rest ∧ base ≤ g := by
  rcases h.2 with ⟨h1, _⟩ | ⟨g', cap, cur, hv, hg, hh, hnc, hcm, hcs, htk⟩
  · cases h1
  · cases hv
    refine ⟨cur.toList.drop (n * 1), ?_, hg⟩
    unfold OrdAt
    rw [hh, ← htk, List.take_append_drop]
/-- An own row stays behind a block. -/
theorem own_some {w : World} {base e sz n : Nat} {v : Value} {xs : List Value} (h : w.ownsRow base e sz v n xs) (hv : v.ownBlock ≠ none) : ∃ g c, v = .slice (some ⟨g, 0, none⟩) n c := by
  rcases h.2 with ⟨rfl, _⟩ | ⟨g', cap, cur, hv, hg, hh, hnc, hcm, hcs, htk⟩
  · exact absurd rfl hv
  · exact ⟨g', cap, hv⟩
set_option maxRecDepth 100000 in
set_option maxHeartbeats 4000000 in
theorem build_l0 {gs n base g0 c0 : Nat} {sp : List (Int × Int)} (w : World) (Q : Exit → Act → World → Prop) {u0 u1 u2 u3 u4 u5 u6 u7 u8 u9 u11 u12 u13 u14 u15 u16 u17 u18 u19 u20 u21 u22 u23 u24 u25 u26 u27 u28 u29 u30 u31 u32 u33 u34 u35 u36 u37 u41 u42 u43 u44 u45 u46 u47 u48 u49 u50 u51 u52 u53 u54 u55 u56 u57 u58 u59 u60 u61 u62 u63 u64 u65 u66 u67 u68 u69 u70 u71 u72 u73 u74 u75 u76 u77 u78 u79 u80 u81 u82 u83 u84 : Value} (hsp : SpansAt w gs sp) (hn : sp.length = n ∧ n ≤ 1000) (hb : gs < base ∧ base ≤ w.heap.size) (hown : w.ownsRow base 3 1 (.slice (some ⟨g0, 0, none⟩) 0 c0) 0 (intV (ordTo sp 0)))
    (k1 : ∀ (g c : Nat), ∀ (v11 v12 v40 v41 v42 v43 v44 v45 v46 v47 v48 v49 v50 v51 : Value) (w' : World), Below base w w' → w'.ownsRow base 3 1 (.slice (some ⟨g, 0, none⟩) (ordTo sp n).length c) (ordTo sp n).length (intV (ordTo sp n)) →Q (.exit 0) ⟨#[u0, u1, u2, u3, u4, u5, u6, u7, u8, u9, .slice (some ⟨g, 0, none⟩) (ordTo sp n).length c, v11, v12, u13, u14, u15, u16, u17, u18, u19, u20, u21, u22, u23, u24, u25, u26, u27, u28, u29, u30, u31, u32, u33, u34, u35, u36, u37, .slice (some ⟨gs, 0, none⟩) n n, .int .i64 (n : Nat), v40, v41, v42, v43, v44, v45, v46, v47, v48, v49, v50, v51, u52, u53, u54, u55, u56, u57, u58, u59, u60, u61, u62, u63, u64, u65, u66, u67, u68, u69, u70, u71, u72, u73, u74, u75, u76, u77, u78, u79, u80, u81, u82, u83, u84], []⟩ w') : (partL Tryd.f13 0).wp Tryd.prog Q ⟨#[u0, u1, u2, u3, u4, u5, u6, u7, u8, u9, .slice (some ⟨g0, 0, none⟩) 0 c0, u11, u12, u13, u14, u15, u16, u17, u18, u19, u20, u21, u22, u23, u24, u25, u26, u27, u28, u29, u30, u31, u32, u33, u34, u35, u36, u37, .slice (some ⟨gs, 0, none⟩) n n, .int .i64 (n : Nat), .int .i64 0, u41, u42, u43, u44, u45, u46, u47, u48, u49, u50, u51, u52, u53, u54, u55, u56, u57, u58, u59, u60, u61, u62, u63, u64, u65, u66, u67, u68, u69, u70, u71, u72, u73, u74, u75, u76, u77, u78, u79, u80, u81, u82, u83, u84], []⟩ w := by
  have hn1 := hn.2
  have HSP := Lib.hid hsp
  have HN := Lib.hid hn
  have HB := Lib.hid hb
  have K1 := Lib.hid k1
  have HOW := Lib.hid hown
  clear hsp hn hb hown k1
  obtain ⟨j0, hie, hy0, hy1, hy2⟩ := info_parts infoI
  conv => arg 2; whnf
  go_wp2
  go_loopw [10, 40] (fun v j wr => ∃ (k g c ln : Nat), k ≤ n ∧ j = .int .i64 k ∧ v = .slice (some ⟨g, 0, none⟩) ln c ∧ Hid (ln = (ordTo sp k).length ∧ Below base w wr ∧ wr.ownsRow base 3 1 (.slice (some ⟨g, 0, none⟩) ln c) ln (intV (ordTo sp k)))) (fun _ j _ => n - (intOf j).toNat)
  case atStart => exact ⟨0, g0, c0, 0, by omega, rfl, rfl, Lib.hid ⟨rfl, Below.refl _ _, HOW.out⟩⟩
  case round =>
    clear HOW
    obtain ⟨k, g, c, ln, hk, rfl, rfl, HJ⟩ := hrel
    by_cases hlt : k < n
    · obtain ⟨s, hs⟩ : ∃ s, sp[k]? = some s := ⟨_, List.getElem?_eq_getElem (by have := HN.out.1; omega)⟩
      have HSr := Lib.hid (show SpansAt wr gs sp from (HJ.out.2.1.block gs HB.out.1).trans HSP.out)
      have hc := HSr.out.cells hs
      obtain ⟨W5, hW5⟩ : ∃ q, q = wr.alloc (.cells #[.int .i64 s.1, .int .i64 s.2] 68) := ⟨_, rfl⟩
      have hb5 : Below wr.heap.size wr W5 := by rw [hW5]; exact (Below.refl _ _).alloc (Nat.le_refl _) _
      have h5 : W5.heap[wr.heap.size]? = some (.cells #[.int .i64 s.1, .int .i64 s.2] 68 (0, 0)) := by rw [hW5]; exact heap_alloc_new wr _
      have z0 : W5.cell? ⟨wr.heap.size, 0, none⟩ = some (.int .i64 s.1) := by simp only [World.cell?, h5]; rfl
      have z1 : W5.cell? ⟨wr.heap.size, 1, none⟩ = some (.int .i64 s.2) := by simp only [World.cell?, h5]; rfl
      have HB5 := Lib.hid hb5
      have HW5 := Lib.hid hW5
      have hlv := live_any s W5
      obtain ⟨s0, h0⟩ : ∃ x, s.1 = x := ⟨_, rfl⟩
      obtain ⟨s1, h1⟩ : ∃ x, s.2 = x := ⟨_, rfl⟩
      rw [h0, h1] at hc hlv HW5
      rw [h0] at z0
      rw [h1] at z1
      have HLV := Lib.hid hlv
      have HS := Lib.hid (And.intro hs (And.intro h0 h1))
      have hc0 := hc.1
      have hc1 := hc.2
      have hln : ln ≤ 1000 := by have := ord_len sp k; have := HJ.out.1; have := HN.out.2; omega
      have hwr : base ≤ wr.heap.size := Nat.le_trans HB.out.2 (HJ.out.2.1.size)
      have i0 : (0 : Int) ≤ (k : Int) := by omega
      have i1 : (k : Int) < (n : Int) := by omega
      clear hs h0 h1 hc hW5 hb5 h5 hlv
      go_upto_region 12 with fail
      rw [← HW5.out]
      clear hc0 hc1
      cases d0 : decide (0 ≤ s0)
      · rw [d0] at HLV
        have HD := Lib.hid d0
        clear d0
        go_wp2_with ((with_reducible refine (HLV.out).mono ?_); rintro e w1 ⟨rfl, hb1⟩; have HB1 := Lib.hid (HB5.out.trans (hb1.mono HB5.out.size)); clear hb1)
        go_roundw
        case rel =>
          have ho : ordTo sp (k + 1) = ordTo sp k := ord_no HS.out.1 (by rw [HS.out.2.1]; exact of_decide_eq_false HD.out)
          exact ⟨k + 1, g, c, ln, by omega, by go_num, rfl, Lib.hid ⟨by rw [ho]; exact HJ.out.1, HJ.out.2.1.trans (HB1.out.mono hwr), by rw [ho]; exact row_keep (fun q hq => HB1.out.block q (own_lt HJ.out.2.2 q hq).1) HJ.out.2.2⟩⟩
        case measure => simp [intOf]; omega
      · rw [d0] at HLV
        have HD := Lib.hid d0
        clear d0
        go_upto_region 13 with ((with_reducible refine (HLV.out).mono ?_); rintro e w1 ⟨rfl, hb1⟩; have HB1 := Lib.hid (HB5.out.trans (hb1.mono HB5.out.size)); have HO1 := Lib.hid (show w1.ownsRow base 3 1 (.slice (some ⟨g, 0, none⟩) ln c) ln (intV (ordTo sp k)) from row_keep (fun q hq => HB1.out.block q (own_lt HJ.out.2.2 q hq).1) HJ.out.2.2); clear hb1)
        have hw1 : base ≤ w1.heap.size := Nat.le_trans hwr HB1.out.size
        clear z0 z1
        go_wp2_with ((at_builtin; refine wpList_append_own_at _ rfl _ _ 35 rfl base 3 j0 (.int .i64 0) 1 8 Tryd.underlying35 hie hy0 hy1 hy2 rfl (by decide) _ ln _ rfl (HO1.out.alloc _) ⟨w1.heap.size, 0, none⟩ 1 1 [.int .i64 (k : Nat)] rfl (by simp) (World.news_of_block (cs := #[.int .i64 (k : Nat)]) (t := 3) (fr := (0, 0)) (heap_alloc_new w1 _)) (by simp [Value.oneCell']) (by unfold maxLen; omega) (by omega) (by simp; omega) ?_); intro v6 w6 hown6 hg6 _ hwh6; obtain ⟨g6, c6, rfl⟩ := own_some hown6 (by rcases hwh6 with h | h <;> rw [h] <;> first | exact Option.some_ne_none g | exact Option.some_ne_none _); have HOWN6 := Lib.hid hown6; have HG6 := Lib.hid hg6; have HWH6 := Lib.hid hwh6; clear hown6 hg6 hwh6)
        go_roundw
        case rel =>
          have ho : ordTo sp (k + 1) = ordTo sp k ++ [(k : Int)] := ord_yes HS.out.1 (by rw [HS.out.2.1]; exact of_decide_eq_true HD.out)
          have hb6 : Below base w1 (w1.alloc (.cells #[.int .i64 (k : Nat)] 3)) := (Below.refl _ _).alloc hw1 _
          refine ⟨k + 1, g6, c6, ln + 1, by omega, by go_num, rfl, Lib.hid ⟨by rw [ho, List.length_append, ← HJ.out.1]; rfl, ?_, ?_⟩⟩
          · exact (HJ.out.2.1.trans ((HB1.out.mono hwr).trans hb6)).grown HG6.out (Nat.le_trans hw1 hb6.size) (fun q hq => (own_lt HO1.out q hq).2)
          · rw [ho]
            have := HOWN6.out
            unfold intV at this ⊢
            rw [List.map_append]
            exact this
        case measure => simp [intOf]; omega
    · have hkn : k = n := by omega
      subst hkn
      have HL := HJ.out.1
      subst HL
      go_wp2
      exact K1.out g c _ _ _ _ _ _ _ _ _ _ _ _ _ _ _ HJ.out.2.1 HJ.out.2.2
end Go.Proofs.YtppoiahhaclleaaDoor

/- alloc.Build, over whatever keeper. -/
namespace Go.Proofs.YtppoiahhaclleaaDoor
open Go.RowKit

def OF (ord : List Int) (pl : Nat → Int) (m : Nat) : Nat → List Int
  | 0 => List.replicate m 0
  | k + 1 => (OF ord pl m k).set (ord.getD k 0).toNat (pl k)
theorem OF_len {ord : List Int} {pl : Nat → Int} {m k : Nat} : (OF ord pl m k).length = m := by
  induction k with
  | zero => simp [OF]
  | succ k ih => simp [OF, ih]
/-- A keeper that gives these places out. -/
def Keeps (sp : List (Int × Int)) (ord : List Int) (pool : Nat) (pl : Nat → Int) : Prop :=
  ∀ (w : World) (kb gs g gb go B : Nat), KeepAt w kb (2 ^ pool - 1) 18446744073709551615 (.slice none 0 0) → TzAt w → 0 < B → B ≤ w.heap.size → B ≤ kb → (kb ≠ gs ∧ kb ≠ g ∧ kb ≠ gb ∧ kb ≠ go) → (gs < w.heap.size ∧ g < w.heap.size ∧ gb < w.heap.size ∧ go < w.heap.size ∧ B ≤ go) →
    ∃ St : Nat → World → Prop, St 0 w ∧
    (∀ (k q : Nat) (s : Int × Int), ord[k]? = some (q : Int) → sp[q]? = some s → ∀ wr, St k wr → Calls Tryd.prog 37 #[.pointer (some ⟨kb, 0, none⟩), .int .i64 s.1] wr fun e w' => e = .returned (.tuple #[]) ∧ St k w' ∧ Chg (fun j => B ≤ j ∧ j ≠ gs ∧ j ≠ g ∧ j ≠ gb ∧ j ≠ go) wr w') ∧
    (∀ (k q : Nat) (s : Int × Int), ord[k]? = some (q : Int) → sp[q]? = some s → ∀ wr, St k wr → Calls Tryd.prog 38 #[.pointer (some ⟨kb, 0, none⟩), .int .i64 s.2] wr fun e w' => e = .returned (.int .i64 (pl k)) ∧ St (k + 1) w' ∧ Chg (fun j => B ≤ j ∧ j ≠ gs ∧ j ≠ g ∧ j ≠ gb ∧ j ≠ go) wr w') ∧
    (∀ k wr x v, St k wr → St k (wr.setCell ⟨go, x, none⟩ v))
theorem make_none (n : Nat) (hn : n ≤ 65536) (w : World) : (Instr.makeSlice 35 (.int .i64 0) (.int .i64 n)).run Tryd.prog w = .ok (.slice (some ⟨w.heap.size, 0, none⟩) 0 n) (w.alloc (.cells (intV (List.replicate n 0)).toArray 3)) := by
  obtain ⟨i0, hi, hz0, hz1, hz2⟩ := info_parts infoI
  have h := run_make (P := Tryd.prog) w 35 3 i0 (.int .i64 0) Tryd.underlying35 hi hz0 .i64 .i64 (0 : Nat) n (by omega) (by omega) (by rw [hz2]; omega) (by omega)
  rw [hz1] at h
  have e : (Value.int .i64 0).cells = #[.int .i64 0] := rfl
  have e2 : madeCells #[.int .i64 0] n = (intV (List.replicate n 0)).toArray := by
    refine Array.ext (by simp [size_madeCells, intV]) fun i h1 h2 => ?_
    simp [madeCells, Nat.mod_one, intV]
  rw [e] at h
  simp only [Int.toNat_natCast, Nat.mul_one, e2] at h
  exact h

set_option maxRecDepth 100000 in
set_option maxHeartbeats 4000000 in
theorem Build_bad (p : LP) (Ab Ao : Option Addr) (nb cb no co : Nat) (pool : Int) (w : World) (hp : ProgAt w (fun k => k < w.heap.size) [.int .i64 p.regs, .slice Ab nb cb, .slice Ao no co] p) (h0 : (checkF p 64).2 ≠ 0) :
    Calls Tryd.prog 13 #[.agg #[.int .i64 p.regs, .slice Ab nb cb, .slice Ao no co], .int .i64 pool] w fun e w' => e = .returned (.tuple #[.slice none 0 0, .int .i64 (checkF p 64).2]) ∧ Below w.heap.size w w' := by
  obtain ⟨W, hW, hbW, hzW, hl_, hr_⟩ := boxed w #[.int .i64 p.regs, .slice Ab nb cb, .slice Ao no co] 25
  have c0 : W.cell? ⟨w.heap.size, 0, none⟩ = some (.int .i64 p.regs) := by rw [hl_]; rfl
  have c1 : W.cell? ⟨w.heap.size, 1, none⟩ = some (.slice Ab nb cb) := by rw [hl_]; rfl
  have c2 : W.cell? ⟨w.heap.size, 2, none⟩ = some (.slice Ao no co) := by rw [hl_]; rfl
  have HC := Lib.hid (check_any p Ab Ao nb cb no co W (prog_next hp hbW))
  have HW := Lib.hid hW
  have HB := Lib.hid hbW
  obtain ⟨x, hx⟩ : ∃ x, (checkF p 64).1 = x := ⟨_, rfl⟩
  obtain ⟨y, hy⟩ : ∃ x, (checkF p 64).2 = x := ⟨_, rfl⟩
  rw [hx, hy] at HC
  rw [hy] at h0 ⊢
  have d0 : (y != (0 : Int)) = true := by simp; exact h0
  clear hW hbW hzW hl_ hr_ hp hx hy h0
  go_enter Tryd.func13, Tryd.ntmps13
  go_upto_region 1 with fail
  rw [← HW.out]
  go_wp2_with ((with_reducible refine (HC.out).mono ?_); rintro e w1 ⟨rfl, hb1⟩; have HB1 := Lib.hid hb1; clear hb1)
  go_ret2
  exact ⟨rfl, HB.out.trans (HB1.out.mono HB.out.size)⟩

set_option maxRecDepth 100000 in
set_option maxHeartbeats 4000000 in
theorem Build_lo (p : LP) (Ab Ao : Option Addr) (nb cb no co : Nat) (pool : Int) (w : World) (hp : ProgAt w (fun k => k < w.heap.size) [.int .i64 p.regs, .slice Ab nb cb, .slice Ao no co] p) (h0 : (checkF p 64).2 = 0) (hpl : pool < 0) :
    Calls Tryd.prog 13 #[.agg #[.int .i64 p.regs, .slice Ab nb cb, .slice Ao no co], .int .i64 pool] w fun e w' => e = .returned (.tuple #[.slice none 0 0, .int .i64 2]) ∧ Below w.heap.size w w' := by
  obtain ⟨W, hW, hbW, hzW, hl_, hr_⟩ := boxed w #[.int .i64 p.regs, .slice Ab nb cb, .slice Ao no co] 25
  have c0 : W.cell? ⟨w.heap.size, 0, none⟩ = some (.int .i64 p.regs) := by rw [hl_]; rfl
  have c1 : W.cell? ⟨w.heap.size, 1, none⟩ = some (.slice Ab nb cb) := by rw [hl_]; rfl
  have c2 : W.cell? ⟨w.heap.size, 2, none⟩ = some (.slice Ao no co) := by rw [hl_]; rfl
  have HC := Lib.hid (check_any p Ab Ao nb cb no co W (prog_next hp hbW))
  have HW := Lib.hid hW
  have HB := Lib.hid hbW
  obtain ⟨x, hx⟩ : ∃ x, (checkF p 64).1 = x := ⟨_, rfl⟩
  rw [hx, h0] at HC
  have d1 : decide (pool < 0) = true := decide_eq_true hpl
  have d2 : decide ((16 : Int) < pool) = false := decide_eq_false (by omega)
  clear hW hbW hzW hl_ hr_ hp hx h0 hpl
  go_enter Tryd.func13, Tryd.ntmps13
  go_upto_region 1 with fail
  rw [← HW.out]
  go_wp2_with ((with_reducible refine (HC.out).mono ?_); rintro e w1 ⟨rfl, hb1⟩; have HB1 := Lib.hid hb1; clear hb1)
  go_ret2
  exact ⟨rfl, HB.out.trans (HB1.out.mono HB.out.size)⟩

set_option maxRecDepth 100000 in
set_option maxHeartbeats 4000000 in
theorem Build_hi (p : LP) (Ab Ao : Option Addr) (nb cb no co : Nat) (pool : Int) (w : World) (hp : ProgAt w (fun k => k < w.heap.size) [.int .i64 p.regs, .slice Ab nb cb, .slice Ao no co] p) (h0 : (checkF p 64).2 = 0) (hpl : 16 < pool) :
    Calls Tryd.prog 13 #[.agg #[.int .i64 p.regs, .slice Ab nb cb, .slice Ao no co], .int .i64 pool] w fun e w' => e = .returned (.tuple #[.slice none 0 0, .int .i64 2]) ∧ Below w.heap.size w w' := by
  obtain ⟨W, hW, hbW, hzW, hl_, hr_⟩ := boxed w #[.int .i64 p.regs, .slice Ab nb cb, .slice Ao no co] 25
  have c0 : W.cell? ⟨w.heap.size, 0, none⟩ = some (.int .i64 p.regs) := by rw [hl_]; rfl
  have c1 : W.cell? ⟨w.heap.size, 1, none⟩ = some (.slice Ab nb cb) := by rw [hl_]; rfl
  have c2 : W.cell? ⟨w.heap.size, 2, none⟩ = some (.slice Ao no co) := by rw [hl_]; rfl
  have HC := Lib.hid (check_any p Ab Ao nb cb no co W (prog_next hp hbW))
  have HW := Lib.hid hW
  have HB := Lib.hid hbW
  obtain ⟨x, hx⟩ : ∃ x, (checkF p 64).1 = x := ⟨_, rfl⟩
  rw [hx, h0] at HC
  have d1 : decide (pool < 0) = false := decide_eq_false (by omega)
  have d2 : decide ((16 : Int) < pool) = true := decide_eq_true hpl
  clear hW hbW hzW hl_ hr_ hp hx h0 hpl
  go_enter Tryd.func13, Tryd.ntmps13
  go_upto_region 1 with fail
  rw [← HW.out]
  go_wp2_with ((with_reducible refine (HC.out).mono ?_); rintro e w1 ⟨rfl, hb1⟩; have HB1 := Lib.hid hb1; clear hb1)
  go_ret2
  exact ⟨rfl, HB.out.trans (HB1.out.mono HB.out.size)⟩

set_option maxRecDepth 100000 in
set_option maxHeartbeats 4000000 in
theorem build_r16 {pool : Nat} (w : World) (Q : Exit → Act → World → Prop) {u0 u2 u3 u4 u5 u6 u7 u8 u9 u10 u11 u12 u13 u14 u15 u16 u17 u18 u19 u20 u21 u22 u23 u24 u25 u26 u27 u28 u29 u30 u31 u32 u33 u34 u35 u36 u37 u38 u39 u40 u41 u42 u43 u44 u45 u46 u47 u48 u49 u50 u51 u52 u53 u54 u55 u56 u57 u58 u59 u60 u61 u62 u63 u64 u65 u66 u67 u68 u69 u70 u71 u72 u73 u74 u75 u76 u77 u78 u79 u80 u81 u82 u83 u84 : Value} (hp : pool ≤ 16)
    (k : ∀ (v55 v56 v57 v58 v59 : Value) (w' : World), w' = w.alloc (.cells #[.int .u64 ((2 ^ pool - 1 : Nat) : Int), .int .u64 18446744073709551615, .slice none 0 0] 73) → Q .normal ⟨#[u0, .int .i64 (pool : Nat), u2, u3, u4, u5, u6, u7, u8, u9, u10, u11, u12, .pointer (some ⟨w.heap.size, 0, none⟩), u14, u15, u16, u17, u18, u19, u20, u21, u22, u23, u24, u25, u26, u27, u28, u29, u30, u31, u32, u33, u34, u35, u36, u37, u38, u39, u40, u41, u42, u43, u44, u45, u46, u47, u48, u49, u50, u51, u52, u53, u54, v55, v56, v57, v58, v59, u60, u61, u62, u63, u64, u65, u66, u67, u68, u69, u70, u71, u72, u73, u74, u75, u76, u77, u78, u79, u80, u81, u82, u83, u84], []⟩ w') : (partR Tryd.f13 16).wp Tryd.prog Q ⟨#[u0, .int .i64 (pool : Nat), u2, u3, u4, u5, u6, u7, u8, u9, u10, u11, u12, u13, u14, u15, u16, u17, u18, u19, u20, u21, u22, u23, u24, u25, u26, u27, u28, u29, u30, u31, u32, u33, u34, u35, u36, u37, u38, u39, u40, u41, u42, u43, u44, u45, u46, u47, u48, u49, u50, u51, u52, u53, u54, u55, u56, u57, u58, u59, u60, u61, u62, u63, u64, u65, u66, u67, u68, u69, u70, u71, u72, u73, u74, u75, u76, u77, u78, u79, u80, u81, u82, u83, u84], []⟩ w := by
  obtain rfl | rfl | rfl | rfl | rfl | rfl | rfl | rfl | rfl | rfl | rfl | rfl | rfl | rfl | rfl | rfl | rfl : pool = 0 ∨ pool = 1 ∨ pool = 2 ∨ pool = 3 ∨ pool = 4 ∨ pool = 5 ∨ pool = 6 ∨ pool = 7 ∨ pool = 8 ∨ pool = 9 ∨ pool = 10 ∨ pool = 11 ∨ pool = 12 ∨ pool = 13 ∨ pool = 14 ∨ pool = 15 ∨ pool = 16 := by omega
  all_goals
    have HK := Lib.hid k
    clear k
    conv => arg 2; whnf
    go_wp2
    exact HK.out _ _ _ _ _ _ rfl
end Go.Proofs.YtppoiahhaclleaaDoor

/- alloc.Build, when a program and a pool may be. -/
namespace Go.Proofs.YtppoiahhaclleaaDoor
open Go.RowKit

theorem own_none (w : World) (g n : Nat) (xs : List Value) (hx : xs.length = n) (hn : n ≤ 65536) (h : w.heap[g]? = some (.cells xs.toArray 3 (0, 0))) : w.ownsRow g 3 1 (.slice (some ⟨g, 0, none⟩) 0 n) 0 [] :=
  ⟨rfl, .inr ⟨g, n, xs.toArray, rfl, Nat.le_refl _, h, Nat.zero_le _, by unfold maxLen; omega, by simp [hx], rfl⟩⟩
set_option maxRecDepth 100000 in
set_option maxHeartbeats 8000000 in
theorem Build_any (p : LP) (Ab Ao : Option Addr) (nb cb no co n pool : Nat) (pl : Nat → Int) (w : World) (hp : ProgAt w (fun k => k < w.heap.size) [.int .i64 p.regs, .slice Ab nb cb, .slice Ao no co] p) (h0 : (checkF p 64).2 = 0) (hn : p.regs = n) (hpl : pool ≤ 16)
    (hT : TzAt w) (hlen : (ordTo (spansF p) n).length < 20)
    (hkeep : Keeps (spansF p) (insF (keyF (spansF p)) 0 ((ordTo (spansF p) n).length - 1) 1 (ordTo (spansF p) n)) pool pl) :
    Calls Tryd.prog 13 #[.agg #[.int .i64 p.regs, .slice Ab nb cb, .slice Ao no co], .int .i64 (pool : Nat)] w fun e w' => ∃ go, e = .returned (.tuple #[.slice (some ⟨go, 0, none⟩) n n, .int .i64 0]) ∧ w.heap.size ≤ go ∧
      EndsAt w' go (OF (insF (keyF (spansF p)) 0 ((ordTo (spansF p) n).length - 1) 1 (ordTo (spansF p) n)) pl n (ordTo (spansF p) n).length) ∧ Below w.heap.size w w' := by
  obtain ⟨W, hW, hbW, hzW, hl_, hr_⟩ := boxed w #[.int .i64 p.regs, .slice Ab nb cb, .slice Ao no co] 25
  have c0 : W.cell? ⟨w.heap.size, 0, none⟩ = some (.int .i64 p.regs) := by rw [hl_]; rfl
  have c1 : W.cell? ⟨w.heap.size, 1, none⟩ = some (.slice Ab nb cb) := by rw [hl_]; rfl
  have c2 : W.cell? ⟨w.heap.size, 2, none⟩ = some (.slice Ao no co) := by rw [hl_]; rfl
  have hp1 := prog_next hp hbW
  have HC := Lib.hid (check_any p Ab Ao nb cb no co W hp1)
  have HSP := Lib.hid (fun wr (hb : Below W.heap.size W wr) => spans_any p Ab Ao nb cb no co n wr (prog_next hp1 hb) h0 hn)
  have HW := Lib.hid hW
  have HB := Lib.hid hbW
  have hn64 : n ≤ 64 := by have := (head_ok (check_run h0).1); omega
  have HLEN := Lib.hid (show (spansF p).length = n by rw [spans_len, hn]; rfl)
  have HKEEP := Lib.hid hkeep
  have HT := Lib.hid hT
  have HW0 := Lib.hid (show 0 < w.heap.size from by
    have := hT 0 (by decide)
    have := lt_cell this
    exact this)
  have HRG := Lib.hid hn
  obtain ⟨sp, hsp⟩ : ∃ sp, spansF p = sp := ⟨_, rfl⟩
  rw [hsp] at HSP HLEN HKEEP hlen ⊢
  obtain ⟨x, hx⟩ : ∃ x, (checkF p 64).1 = x := ⟨_, rfl⟩
  rw [hx, h0] at HC
  rw [hn] at c0 HC
  simp only [hn] at HSP
  have d1 : decide ((pool : Int) < 0) = false := decide_eq_false (by omega)
  have d2 : decide ((16 : Int) < (pool : Int)) = false := decide_eq_false (by omega)
  have d3 : ¬ 16 < pool := by omega
  have hlt : w.heap.size < W.heap.size := by omega
  have HLT := Lib.hid hlt
  clear hW hbW hzW hl_ hr_ hp hp1 hx h0 hn hkeep hT hlt hsp
  go_enter Tryd.func13, Tryd.ntmps13
  go_upto_region 1 with fail
  rw [← HW.out]
  go_upto_region 6 with ((with_reducible refine (HC.out).mono ?_); rintro e w1 ⟨rfl, hb1⟩; have HB1 := Lib.hid hb1; clear hb1)
  have HSP1 := Lib.hid (HSP.out w1 HB1.out)
  have e0 := (HB1.out.cell (p := ⟨w.heap.size, 0, none⟩) HLT.out).trans c0
  have e1 := (HB1.out.cell (p := ⟨w.heap.size, 1, none⟩) HLT.out).trans c1
  have e2 := (HB1.out.cell (p := ⟨w.heap.size, 2, none⟩) HLT.out).trans c2
  have HE0 := Lib.hid e0
  clear c0 c1 c2
  go_upto_region 7 with ((with_reducible refine (HSP1.out).mono ?_); rintro e w2 ⟨gs, rfl, hgs, hsp, hb2⟩; have HS2 := Lib.hid (And.intro hgs (And.intro hsp hb2)); clear hgs hsp hb2 e0 e1 e2)
  obtain ⟨gb, hgb⟩ : ∃ q, w2.heap.size = q := ⟨_, rfl⟩
  obtain ⟨W3, hW3⟩ : ∃ q, q = w2.alloc (.cells #[.slice (some ⟨gs, 0, none⟩) n n] 66) := ⟨_, rfl⟩
  rw [← hW3, hgb]
  have hb3 : Below w2.heap.size w2 W3 := by rw [hW3]; exact (Below.refl _ _).alloc (Nat.le_refl _) _
  have hz3 : W3.heap.size = gb + 1 := by rw [hW3, ← hgb]; simp
  have h3 : W3.heap[gb]? = some (.cells #[.slice (some ⟨gs, 0, none⟩) n n] 66 (0, 0)) := by rw [hW3, ← hgb]; exact heap_alloc_new w2 _
  have HK3 := Lib.hid (show KeysAt W3 gb gs n sp from ⟨by simp only [World.cell?, h3]; rfl, HS2.out.2.1.next hb3, HLEN.out⟩)
  have HGS := Lib.hid (show w1.heap.size ≤ gs ∧ gs < gb from ⟨HS2.out.1, by have := lt_of_block HS2.out.2.1; omega⟩)
  have HBW3 := Lib.hid (show Below w.heap.size w W3 from HB.out.trans ((HB1.out.trans ((HS2.out.2.2.trans (hb3.mono HS2.out.2.2.size)).mono HB1.out.size)).mono HB.out.size))
  have HW1 := Lib.hid (show w.heap.size < w1.heap.size from Nat.lt_of_lt_of_le HLT.out HB1.out.size)
  have e3 : W3.cell? ⟨w.heap.size, 0, none⟩ = some (.int .i64 n) := by
    rw [((HS2.out.2.2.trans (hb3.mono HS2.out.2.2.size)).cell (p := ⟨w.heap.size, 0, none⟩) HW1.out)]
    exact HE0.out
  obtain ⟨go, hgo⟩ : ∃ q, W3.heap.size = q := ⟨_, rfl⟩
  have hmk := make_ints n (by omega) W3
  obtain ⟨W4, hW4⟩ : ∃ q, q = W3.alloc (.cells (intV (List.replicate n 0)).toArray 3) := ⟨_, rfl⟩
  have hb4 : Below W3.heap.size W3 W4 := by rw [hW4]; exact (Below.refl _ _).alloc (Nat.le_refl _) _
  have h4 : W4.heap[go]? = some (.cells (intV (List.replicate n 0)).toArray 3 (0, 0)) := by rw [hW4, ← hgo]; exact heap_alloc_new W3 _
  have hz4 : W4.heap.size = go + 1 := by rw [hW4, ← hgo]; simp
  rw [← hW4, hgo] at hmk
  have e4 : W4.cell? ⟨w.heap.size, 0, none⟩ = some (.int .i64 n) := (hb4.cell (p := ⟨w.heap.size, 0, none⟩) (by have := HGS.out; have := HW1.out; simp only []; omega)).trans e3
  obtain ⟨g0, hg0⟩ : ∃ q, W4.heap.size = q := ⟨_, rfl⟩
  have hmk2 := make_none n (by omega) W4
  obtain ⟨W5, hW5⟩ : ∃ q, q = W4.alloc (.cells (intV (List.replicate n 0)).toArray 3) := ⟨_, rfl⟩
  have hb5 : Below W4.heap.size W4 W5 := by rw [hW5]; exact (Below.refl _ _).alloc (Nat.le_refl _) _
  have h5 : W5.heap[g0]? = some (.cells (intV (List.replicate n 0)).toArray 3 (0, 0)) := by rw [hW5, ← hg0]; exact heap_alloc_new W4 _
  have hz5 : W5.heap.size = g0 + 1 := by rw [hW5, ← hg0]; simp
  rw [← hW5, hg0] at hmk2
  have HZ := Lib.hid (show gb + 1 = go ∧ go + 1 = g0 ∧ W5.heap.size = g0 + 1 ∧ W3.heap.size = go ∧ W4.heap.size = g0 from ⟨by omega, by omega, hz5, hgo, hg0⟩)
  have HK5 := Lib.hid (show KeysAt W5 gb gs n sp from (HK3.out.next hb4).next hb5)
  have HEO := Lib.hid (show EndsAt W5 go (List.replicate n 0) from (hb5.block go (lt_of_block h4)).trans h4)
  have HOWN := Lib.hid (own_none W5 g0 n (intV (List.replicate n 0)) (by simp [intV]) (by omega) h5)
  have HBW5 := Lib.hid (show Below w.heap.size w W5 from HBW3.out.trans ((hb4.trans (hb5.mono hb4.size)).mono HBW3.out.size))
  have b5 := HK5.out.box
  clear hW3 hb3 hz3 h3 hb4 h4 hz4 hW4 hb5 h5 hz5 hW5 hg0 hgo hgb
  go_upto_region 8 with fail
  clear hmk e3
  go_upto_region 9 with fail
  clear hmk2 e4
  go_wp2
  refine wp_code (c := partL Tryd.f13 0) (by kernel_rfl) ?_
  refine build_l0 (gs := gs) (base := g0) (sp := sp) _ _ HK5.out.row ⟨HLEN.out, by omega⟩ ⟨by have := HGS.out; have := HZ.out; omega, by have := HZ.out; omega⟩ HOWN.out ?_
  intro g c v11 v12 v40 v41 v42 v43 v44 v45 v46 v47 v48 v49 v50 v51 w6 hb6 hown6
  clear b5
  obtain ⟨rest, hor, hgg⟩ := own_ord hown6
  have HGG := Lib.hid hgg
  have HOR := Lib.hid hor
  have HB6 := Lib.hid hb6
  have HK6 := Lib.hid (show KeysAt w6 gb gs n sp from KeysAt.chg HK5.out (F := fun j => g0 ≤ j) ⟨hb6.os, hb6.tape, hb6.output, hb6.size, fun j _ hj => hb6.block j (Nat.lt_of_not_le hj)⟩ (show ¬ g0 ≤ gb by have := HGS.out; have := HZ.out; omega) (show ¬ g0 ≤ gs by have := HGS.out; have := HZ.out; omega))
  obtain ⟨ln, hln⟩ : ∃ q, (ordTo sp n).length = q := ⟨_, rfl⟩
  rw [hln] at hlen HKEEP ⊢
  have hln1 : ln ≤ 1000 := by omega
  have HSO := Lib.hid (SortStable_any (n := ln) (c := c) (l := ordTo sp n) w6 HOR.out hln HK6.out (by omega) (by omega) (fun x hx => ord_mem x hx) ⟨by have := HGS.out; have := HZ.out; omega, by have := HGS.out; have := HZ.out; omega⟩ hlen)
  obtain ⟨ord, hord⟩ : ∃ q, insF (keyF sp) 0 (ln - 1) 1 (ordTo sp n) = q := ⟨_, rfl⟩
  have hol : ord.length = ln := by rw [← hord, insF_len, hln]
  have hpm : ord.Perm (ordTo sp n) := by
    rw [← hord]
    rcases Nat.eq_zero_or_pos ln with h | h
    · rw [h]; exact List.Perm.refl _
    · exact insF_perm (by rw [hln]; omega)
  have hom : ∀ x ∈ ord, 0 ≤ x ∧ x < (n : Int) := fun x hx => ord_mem x (hpm.mem_iff.1 hx)
  rw [hord] at HSO HKEEP
  have HORD := Lib.hid hord
  have HLN := Lib.hid hln
  have HOL := Lib.hid (And.intro hol hom)
  clear hb6 hown6 hor hgg hln hord hol hom hpm
  go_upto_region 16 with ((with_reducible refine (HSO.out).mono ?_); rintro e w7 ⟨rfl, h1, h2⟩; have H7 := Lib.hid (And.intro h1 h2); clear h1 h2)
  refine wp_code (c := partR Tryd.f13 16) (by kernel_rfl) ?_
  refine build_r16 (pool := pool) _ _ hpl ?_
  intro v55 v56 v57 v58 v59 w8 hw8
  have h7g : g < w7.heap.size := lt_of_block H7.out.1
  have hb8 : Below w7.heap.size w7 w8 := by rw [hw8]; exact (Below.refl _ _).alloc (Nat.le_refl _) _
  have hk8 : KeepAt w8 w7.heap.size (2 ^ pool - 1) 18446744073709551615 (.slice none 0 0) := by rw [hw8]; exact heap_alloc_new w7 _
  obtain ⟨kb, hkb⟩ : ∃ q, w7.heap.size = q := ⟨_, rfl⟩
  have hz8 : w8.heap.size = kb + 1 := by rw [hw8, ← hkb]; simp
  have hsz : W5.heap.size ≤ w6.heap.size ∧ w6.heap.size ≤ w7.heap.size := ⟨HB6.out.size, H7.out.2.size⟩
  have hall : w.heap.size < w1.heap.size ∧ w1.heap.size ≤ gs ∧ gs < gb ∧ gb < go ∧ go < g0 ∧ g0 ≤ g ∧ g < kb ∧ g0 < kb := by
    have := HZ.out; have := HGS.out; have := HGG.out; have := HW1.out
    omega
  have HALL := Lib.hid hall
  have HBW7 := Lib.hid (show Below w.heap.size w w7 from (HBW5.out.trans (HB6.out.mono (by omega))).trans (H7.out.2.below (B := w.heap.size) (fun j hj (e : j = g) => by omega) (Nat.le_trans HBW5.out.size hsz.1)))
  have HBW8 := Lib.hid (show Below w.heap.size w w8 from HBW7.out.trans (hb8.mono HBW7.out.size))
  have HK8 := Lib.hid (show KeysAt w8 gb gs n sp from (KeysAt.chg HK6.out H7.out.2 (by omega) (by omega)).next hb8)
  have HO8 := Lib.hid (show OrdAt w8 g ord rest from H7.out.1.next hb8)
  have HE8 := Lib.hid (show EndsAt w8 go (List.replicate n 0) from by
    have h6 : EndsAt w6 go (List.replicate n 0) := (HB6.out.block go (by omega)).trans HEO.out
    exact (hb8.block go (by omega)).trans (EndsAt.chg h6 H7.out.2 (by omega)))
  rw [hkb] at hk8 ⊢
  obtain ⟨St, hs0, hfr, htk, hst⟩ := HKEEP.out w8 kb gs g gb go w.heap.size hk8 (HT.out.next HBW8.out HW0.out) HW0.out HBW8.out.size (by omega) ⟨by omega, by omega, by omega, by omega⟩ ⟨by omega, by omega, by omega, by omega, by omega⟩
  have HST := Lib.hid (And.intro hs0 (And.intro hfr (And.intro htk hst)))
  clear hs0 hfr htk hst hall hsz hz8 hkb hk8 hb8 hw8 h7g
  go_wp2
  refine wp_code (c := partL Tryd.f13 2) (by kernel_rfl) ?_
  refine build_l2 (gs := gs) (m := n) (B := w.heap.size) (sp := sp) (ord := ord) (rest := rest) (O := OF ord pl n) (pl := pl) (St := St) _ _ HK8.out HO8.out HE8.out ⟨HOL.out.1, hln1, by omega⟩ HOL.out.2 HST.out.1 HST.out.2.1 HST.out.2.2.1 (fun k => ⟨OF_len, fun q hq => by rw [OF, List.getD_eq_getElem?_getD, hq]; rfl⟩) ⟨by have := HALL.out; omega, by have := HALL.out; omega, by have := HALL.out; omega, by have := HALL.out; omega⟩ HST.out.2.2.2 ?_
  intro v15 v62 v63 v64 v65 v66 v67 v68 v69 v70 v71 v72 v73 v74 v75 v76 v77 v78 v79 v80 v81 v82 v83 w9 h9
  have H9 := Lib.hid h9
  clear h9
  go_wp2
  go_ret2
  refine ⟨go, rfl, by have := HALL.out; omega, by rw [HLN.out, HORD.out]; exact H9.out.2.1, HBW8.out.trans (H9.out.1.below (B := w.heap.size) (fun j hj e => by have := e.1; omega) HBW8.out.size)⟩
end Go.Proofs.YtppoiahhaclleaaDoor

/- The keeper's held places: a row somewhere in a block; slices.SortFunc of it. -/
namespace Go.Proofs.YtppoiahhaclleaaDoor
open Go.RowKit

def encH (x : Int × Int) : List Value := [.int .i64 x.1, .int .i64 x.2]
/-- A row of pairs somewhere in a block. -/
structure HeldBlk (w : World) (g o c : Nat) (l : List (Int × Int)) : Prop where
  blk : ∃ cs : Array Value, w.heap[g]? = some (.cells cs 101 (0, 0)) ∧ o + c * 2 ≤ cs.size ∧ ∀ (j : Nat) (u : Value), (spV l)[j]? = some u → cs[o + j]? = some u
  le : l.length ≤ c
theorem HeldBlk.at_ {w : World} {g o c : Nat} {l : List (Int × Int)} (h : HeldBlk w g o c l) {j : Nat} {u : Value} (hj : (spV l)[j]? = some u) : w.cell? ⟨g, o + j, none⟩ = some u := by
  obtain ⟨cs, h1, _, h3⟩ := h.blk
  simp only [World.cell?, h1]
  exact h3 j u hj
theorem HeldBlk.cell {w : World} {g o c : Nat} {l : List (Int × Int)} (h : HeldBlk w g o c l) {i : Nat} {x : Int × Int} (hx : l[i]? = some x) : w.cell? ⟨g, o + i * 2, none⟩ = some (.int .i64 x.1) ∧ w.cell? ⟨g, o + i * 2 + 1, none⟩ = some (.int .i64 x.2) :=
  ⟨h.at_ (spV_get hx).1, h.at_ (spV_get hx).2⟩
theorem HeldBlk.lt {w : World} {g o c : Nat} {l : List (Int × Int)} (h : HeldBlk w g o c l) : g < w.heap.size := by
  obtain ⟨cs, h1, _⟩ := h.blk
  exact lt_of_block h1
theorem HeldBlk.keep {w w' : World} {g o c : Nat} {l : List (Int × Int)} (h : HeldBlk w g o c l) (hb : w'.heap[g]? = w.heap[g]?) : HeldBlk w' g o c l := by
  obtain ⟨cs, h1, h2⟩ := h.blk
  exact ⟨⟨cs, hb.trans h1, h2⟩, h.le⟩
theorem HeldBlk.frozen {w : World} {g o c : Nat} {l : List (Int × Int)} (h : HeldBlk w g o c l) (k : Nat) : w.frozen? ⟨g, k, none⟩ = false := by
  obtain ⟨cs, h1, _⟩ := h.blk
  simp [World.frozen?, h1]
/-- The first goes. -/
theorem HeldBlk.tail {w : World} {g o c : Nat} {x : Int × Int} {l : List (Int × Int)} (h : HeldBlk w g o c (x :: l)) : HeldBlk w g (o + 2) (c - 1) l := by
  obtain ⟨cs, h1, h2, h3⟩ := h.blk
  have hle := h.le
  rw [List.length_cons] at hle
  refine ⟨⟨cs, h1, by omega, fun j u hj => ?_⟩, by omega⟩
  rw [show o + 2 + j = o + (j + 2) by omega]
  exact h3 (j + 2) u hj

theorem ltU (x y : Int × Int) : Go.Proofs.ltOf (fun x y : Int × Int => Lib.compareInt x.2 y.2) x y = decide (x.2 < y.2) := by
  unfold Go.Proofs.ltOf Lib.compareInt
  by_cases h1 : x.2 < y.2
  · simp [h1]
  · by_cases h2 : y.2 < x.2 <;> simp [h1, h2]
theorem swoU : Go.Sort.SWO (Go.Proofs.ltOf fun x y : Int × Int => Lib.compareInt x.2 y.2) where
  irrefl x := by rw [ltU]; simp
  trans x y z h1 h2 := by rw [ltU] at *; simp at *; omega
  ntrans x y z h1 h2 := by rw [ltU] at *; simp at *; omega
set_option maxHeartbeats 1000000 in
theorem until_cmp (x y : Int × Int) (W : World) : Calls Tryd.prog 56 #[.agg #[.int .i64 x.1, .int .i64 x.2], .agg #[.int .i64 y.1, .int .i64 y.2]] W fun e w' => e = .returned (.int .i64 (Lib.compareInt x.2 y.2)) ∧ ∃ q os', w' = Go.Sort.grow (W.drewN q) os' := by
  have hcon := fun W' => Tryd.cmp_Compare_int x.2 y.2 W'
  generalize Lib.compareInt x.2 y.2 = r at hcon ⊢
  go_enter Tryd.func56, Tryd.ntmps56
  go_wp2_with ((with_reducible refine (hcon _).mono ?_); rintro e w' ⟨rfl, rfl⟩)
  go_ret
  exact ⟨rfl, 0, _, by rw [Go.Sort.alloc_eq_grow, Go.Sort.alloc_eq_grow, Go.Sort.grow_grow]; rfl⟩

theorem flatH (d : Array (Int × Int)) {j : Nat} {u : Value} (hj : (spV d.toList)[j]? = some u) : (Go.Sort.flatK encH 2 d)[j]! = u := by
  have hlt : j < d.size * 2 := by
    have := (List.getElem?_eq_some_iff.1 hj).1
    rw [spV_len] at this
    simpa using this
  rw [Go.Sort.get_flatK encH 2 d j hlt]
  obtain ⟨x, hx⟩ : ∃ x, d.toList[j / 2]? = some x := ⟨_, List.getElem?_eq_getElem (by simp; omega)⟩
  have h2 := spV_get hx
  have hd : d[j / 2]! = x := by
    rw [Array.getElem!_eq_getD, Array.getD_eq_getD_getElem?, ← Array.getElem?_toList, hx]; rfl
  rw [hd]
  rcases Nat.mod_two_eq_zero_or_one j with h | h
  · rw [show j / 2 * 2 = j by omega, hj] at h2
    rw [h, Option.some.inj h2.1]; rfl
  · rw [show j / 2 * 2 + 1 = j by omega, hj] at h2
    rw [h, Option.some.inj h2.2]; rfl
theorem sortW_block (w : World) (g o m : Nat) (d : Array (Int × Int)) (os : Array Obj) {j : Nat} (hj : j < w.heap.size) (hne : j ≠ g) : (Go.Proofs.sortWorldK encH 2 w g o m d os).heap[j]? = w.heap[j]? := by
  unfold Go.Proofs.sortWorldK Go.Sort.grow Go.Sort.putRowK Go.Sort.putRow Go.Sort.mapBlock Go.Sort.ahead
  show ((w.heap.modify g _) ++ os)[j]? = _
  rw [Array.getElem?_append_left (by simpa using hj), Array.getElem?_modify, if_neg (fun e => hne e.symm)]
theorem sortW_at (w : World) (g o m : Nat) (d : Array (Int × Int)) (os : Array Obj) {cs : Array Value} {T : TypeId} {fr : Nat × Nat} (h : w.heap[g]? = some (.cells cs T fr)) : (Go.Proofs.sortWorldK encH 2 w g o m d os).heap[g]? = some (.cells (Go.Sort.putCells id o (Go.Sort.flatK encH 2 d) cs) T fr) := by
  unfold Go.Proofs.sortWorldK Go.Sort.grow Go.Sort.putRowK Go.Sort.putRow Go.Sort.mapBlock Go.Sort.ahead
  show ((w.heap.modify g _) ++ os)[g]? = _
  rw [Array.getElem?_append_left (by simpa using lt_of_block h), Array.getElem?_modify, if_pos rfl, h]
  rfl
set_option maxHeartbeats 1000000 in
/-- slices.SortFunc of what is held: by its end. -/
theorem sortH_any {g o c n : Nat} {l : List (Int × Int)} (w : World) (h : HeldBlk w g o c l) (hn : l.length = n) (hn1 : n ≤ 1000) :
    Calls Tryd.prog 55 #[.slice (some ⟨g, o, none⟩) n c, .func (.func 56) #[] #[]] w fun e w' => e = .returned (.tuple #[]) ∧
      ∃ l' : List (Int × Int), l'.Perm l ∧ l'.Pairwise (fun x y => x.2 ≤ y.2) ∧ HeldBlk w' g o c l' ∧ Chg (fun j => j = g) w w' := by
  subst hn
  have eg : ∀ args w, (callFunc 56 args).run Tryd.prog w = .ok (.enter 56 args) w := enters_of Tryd.func56 (by kernel_rfl) rfl
  have hH : Go.Sort.HoldsK encH 2 w g o l.toArray := by
    intro j hj
    obtain ⟨u, hu⟩ : ∃ u, (spV l)[j]? = some u := ⟨_, List.getElem?_eq_getElem (by rw [spV_len]; simpa using hj)⟩
    have := flatH l.toArray (j := j) (u := u) (by simpa using hu)
    rw [this]
    exact ⟨h.at_ hu, h.frozen _⟩
  have hcon := AnyQ.slices_SortFunc Tryd.sortS 2 Tryd.isAgg101 Tryd.sizeOf101 encH (fun _ => rfl) (fun x v hv => by simp [encH] at hv; rcases hv with rfl | rfl <;> rfl) (fun x y => Lib.compareInt x.2 y.2) swoU 56 #[] g o c l.toArray w eg (fun _ _ _ _ x y => until_cmp x y _) hH h.lt (by simp; omega)
  change Calls Tryd.prog 55 _ _ _ at hcon
  refine hcon.mono ?_
  rintro e w' ⟨rfl, d', m, os, hp, hs, rfl⟩
  obtain ⟨cs, h1, h2, h3⟩ := h.blk
  have hsz : d'.size = l.length := by simpa using hp.1
  have hperm : d'.toList.Perm l := by
    have h5 := hp.2.2
    simp only [Array.toList_extract, List.extract_eq_take_drop] at h5
    simpa [List.take_of_length_le, hsz] using h5
  refine ⟨rfl, d'.toList, hperm, ?_, ?_, ?_⟩
  · refine List.pairwise_iff_getElem.2 fun i j hi hj hij => ?_
    have := hs i j (Nat.zero_le _) hij (by simpa [hsz] using hj)
    rw [ltU] at this
    have h4 := of_decide_eq_false this
    rw [Array.length_toList] at hi hj
    rw [getElem!_pos d' i hi, getElem!_pos d' j hj] at h4
    simp only [Array.getElem_toList]
    omega
  · refine ⟨⟨_, sortW_at w g o m d' os h1, by simpa [Go.Sort.putCells] using h2, fun j u hj => ?_⟩, by rw [Array.length_toList, hsz]; exact h.le⟩
    have hlt := (List.getElem?_eq_some_iff.1 hj).1
    rw [spV_len, Array.length_toList, hsz] at hlt
    have hle := h.le
    have := flatH d' hj
    unfold Go.Sort.putCells
    rw [Array.getElem?_mapIdx, Array.getElem?_eq_getElem (show o + j < cs.size by omega), Option.map_some, if_pos ⟨by omega, by rw [Go.Sort.size_flatK, hsz]; omega⟩, show o + j - o = j by omega, this]
    rfl
  · exact ⟨rfl, rfl, rfl, by unfold Go.Proofs.sortWorldK Go.Sort.grow Go.Sort.putRowK Go.Sort.putRow Go.Sort.mapBlock Go.Sort.ahead; simp, fun j hj hne => sortW_block w g o m d' os hj hne⟩
end Go.Proofs.YtppoiahhaclleaaDoor

/- keeper.free: what it stores. -/
namespace Go.Proofs.YtppoiahhaclleaaDoor
open Go.RowKit

theorem or_pow (x q : Nat) (hx : x < 18446744073709551616) (hq : q < 64) : bits BinOp.or IntKind.u64 (x : Int) (IntKind.u64.wrap ((2 : Int) ^ q)) = ((x ||| 2 ^ q : Nat) : Int) := by
  have h2 : 2 ^ q < 18446744073709551616 := Nat.pow_lt_pow_right (by decide) hq
  have e : IntKind.u64.wrap ((2 : Int) ^ q) = ((2 ^ q : Nat) : Int) := by
    rw [IntKind.wrap_u64, show ((2 : Int) ^ q) = ((2 ^ q : Nat) : Int) by simp]
    exact Int.emod_eq_of_lt (Int.natCast_nonneg _) (Int.ofNat_lt.2 h2)
  rw [e]
  exact bits_or_u64_nat x (2 ^ q) hx h2

set_option maxRecDepth 100000 in
set_option maxHeartbeats 4000000 in
theorem free_r4 {k pool slots n c q : Nat} {A : Option Addr} (w : World) (Q : Exit → Act → World → Prop) {u1 u2 u3 u5 u6 u7 u8 u9 u10 u11 u12 u13 u14 u15 u16 u17 u18 u19 u20 u21 u22 u23 u24 u25 u26 u27 u28 u29 u30 u31 u32 u33 u34 u35 u36 u37 u38 u39 u40 u41 u42 u43 u44 u45 u46 u47 u48 u49 u50 u51 u52 u53 u54 u55 u56 u57 u58 u59 u60 u61 u62 u63 : Value} (hk : KeepAt w k pool slots (.slice A n c)) (hq : q < 64) (hp : pool < 18446744073709551616)
    (kk : ∀ (v36 v37 v38 v39 v40 v41 v42 v43 v44 : Value) (w' : World), KeepAt w' k (pool ||| 2 ^ q) slots (.slice A n c) ∧ Chg (fun j => j = k) w w' → Q .normal ⟨#[.pointer (some ⟨k, 0, none⟩), u1, u2, u3, .int .i64 (q : Nat), u5, u6, u7, u8, u9, u10, u11, u12, u13, u14, u15, u16, u17, u18, u19, u20, u21, u22, u23, u24, u25, u26, u27, u28, u29, u30, u31, u32, u33, u34, u35, v36, v37, v38, v39, v40, v41, v42, v43, v44, u45, u46, u47, u48, u49, u50, u51, u52, u53, u54, u55, u56, u57, u58, u59, u60, u61, u62, u63], []⟩ w') : (partR Tryd.f37 4).wp Tryd.prog Q ⟨#[.pointer (some ⟨k, 0, none⟩), u1, u2, u3, .int .i64 (q : Nat), u5, u6, u7, u8, u9, u10, u11, u12, u13, u14, u15, u16, u17, u18, u19, u20, u21, u22, u23, u24, u25, u26, u27, u28, u29, u30, u31, u32, u33, u34, u35, u36, u37, u38, u39, u40, u41, u42, u43, u44, u45, u46, u47, u48, u49, u50, u51, u52, u53, u54, u55, u56, u57, u58, u59, u60, u61, u62, u63], []⟩ w := by
  have HK := Lib.hid kk
  have HKP := Lib.hid hk
  obtain ⟨p', hp'⟩ : ∃ z : Nat, z = pool ||| 2 ^ q := ⟨_, rfl⟩
  have hv : bits BinOp.or IntKind.u64 (pool : Int) (IntKind.u64.wrap ((2 : Int) ^ q)) = (p' : Int) := by rw [hp']; exact or_pow pool q hp hq
  clear hp
  have HP := Lib.hid hp'
  clear hk kk hp'
  conv => arg 2; whnf
  go_wp2_with fail
  (refine wp_region_lines (fun w_ => KeepAt w_ k pool slots (.slice A n c)) (by kernel_rfl) (by kernel_rfl) HKP.out.drew ?_)
  (try simp only [])
  repeat (first | (refine runL_no (by rfl) ?_; (try simp only [Act.put, List.setIfInBounds_toArray, List.set_cons_zero, List.set_cons_succ])) | (refine runL_val (v := ?_) (by rfl) ?_ ?_; rotate_left; (focus (intro w_ hw_; have f0_ := hw_.cells.1; have f1_ := hw_.cells.2.1; go_simp; (try with_reducible rfl); done)); (try simp only [Act.put, List.setIfInBounds_toArray, List.set_cons_zero, List.set_cons_succ])) | (refine runL_skip (w1 := w.drew.setCell ⟨k, 0, none⟩ (.int .u64 (p' : Nat))) (by rfl) (by rfl) (exec_store1 45 _ _ rfl k 0 _ rfl rfl (by kernel_rfl) (by show (World.cell? w _).isSome = true; rw [HKP.out.cells.1]; rfl) (frozen_row (row := [_, _, _]) HKP.out _) rfl) (.inl ⟨rfl, by kernel_rfl⟩) ?_; (try simp only [Act.put])))
  (refine runL_nil ?_)
  exact HK.out _ _ _ _ _ _ _ _ _ _ ⟨by rw [← HP.out]; exact HKP.out.drew.set0 p', (Chg.refl (fun j => j = k) w).drew.setCell (p := ⟨k, 0, none⟩) (.inl rfl) _⟩

set_option maxRecDepth 100000 in
set_option maxHeartbeats 4000000 in
theorem free_r5 {k pool slots n c q : Nat} {A : Option Addr} (w : World) (Q : Exit → Act → World → Prop) {u1 u2 u3 u5 u6 u7 u8 u9 u10 u11 u12 u13 u14 u15 u16 u17 u18 u19 u20 u21 u22 u23 u24 u25 u26 u27 u28 u29 u30 u31 u32 u33 u34 u35 u36 u37 u38 u39 u40 u41 u42 u43 u44 u45 u46 u47 u48 u49 u50 u51 u52 u53 u54 u55 u56 u57 u58 u59 u60 u61 u62 u63 : Value} (hk : KeepAt w k pool slots (.slice A n c)) (hq : q < 64) (hp : slots < 18446744073709551616)
    (kk : ∀ (v45 v46 v47 v48 v49 v50 v51 v52 v53 v54 v55 : Value) (w' : World), KeepAt w' k pool (slots ||| 2 ^ q) (.slice A n c) ∧ Chg (fun j => j = k) w w' → Q .normal ⟨#[.pointer (some ⟨k, 0, none⟩), u1, u2, u3, .int .i64 (-1 - (q : Int)), u5, u6, u7, u8, u9, u10, u11, u12, u13, u14, u15, u16, u17, u18, u19, u20, u21, u22, u23, u24, u25, u26, u27, u28, u29, u30, u31, u32, u33, u34, u35, u36, u37, u38, u39, u40, u41, u42, u43, u44, v45, v46, v47, v48, v49, v50, v51, v52, v53, v54, v55, u56, u57, u58, u59, u60, u61, u62, u63], []⟩ w') : (partR Tryd.f37 5).wp Tryd.prog Q ⟨#[.pointer (some ⟨k, 0, none⟩), u1, u2, u3, .int .i64 (-1 - (q : Int)), u5, u6, u7, u8, u9, u10, u11, u12, u13, u14, u15, u16, u17, u18, u19, u20, u21, u22, u23, u24, u25, u26, u27, u28, u29, u30, u31, u32, u33, u34, u35, u36, u37, u38, u39, u40, u41, u42, u43, u44, u45, u46, u47, u48, u49, u50, u51, u52, u53, u54, u55, u56, u57, u58, u59, u60, u61, u62, u63], []⟩ w := by
  have HK := Lib.hid kk
  have HKP := Lib.hid hk
  obtain ⟨p', hp'⟩ : ∃ z : Nat, z = slots ||| 2 ^ q := ⟨_, rfl⟩
  have hv : bits BinOp.or IntKind.u64 (slots : Int) (IntKind.u64.wrap ((2 : Int) ^ q)) = (p' : Int) := by rw [hp']; exact or_pow slots q hp hq
  have z1 : -(-1 - (q : Int)) = (q : Int) + 1 := by omega
  have z2 : IntKind.i64.wrap ((q : Int) + 1) = (q : Int) + 1 := by rw [IntKind.wrap_i64]; omega
  have z3 : IntKind.i64.wrap (q : Int) = (q : Int) := by rw [IntKind.wrap_i64]; omega
  clear hp
  have HP := Lib.hid hp'
  clear hk kk hp'
  conv => arg 2; whnf
  go_wp2_with fail
  (refine wp_region_lines (fun w_ => KeepAt w_ k pool slots (.slice A n c)) (by kernel_rfl) (by kernel_rfl) HKP.out.drew ?_)
  (try simp only [])
  repeat (first | (refine runL_no (by rfl) ?_; (try simp only [Act.put, List.setIfInBounds_toArray, List.set_cons_zero, List.set_cons_succ])) | (refine runL_val (v := ?_) (by rfl) ?_ ?_; rotate_left; (focus (intro w_ hw_; have f0_ := hw_.cells.1; have f1_ := hw_.cells.2.1; go_simp; (try with_reducible rfl); done)); (try simp only [Act.put, List.setIfInBounds_toArray, List.set_cons_zero, List.set_cons_succ])) | (refine runL_skip (w1 := w.drew.setCell ⟨k, 1, none⟩ (.int .u64 (p' : Nat))) (by rfl) (by rfl) (exec_store1 45 _ _ rfl k 1 _ rfl rfl (by kernel_rfl) (by show (World.cell? w _).isSome = true; rw [HKP.out.cells.2.1]; rfl) (frozen_row (row := [_, _, _]) HKP.out _) rfl) (.inl ⟨rfl, by kernel_rfl⟩) ?_; (try simp only [Act.put])))
  (refine runL_nil ?_)
  exact HK.out _ _ _ _ _ _ _ _ _ _ _ _ ⟨by rw [← HP.out]; exact HKP.out.drew.set1 p', (Chg.refl (fun j => j = k) w).drew.setCell (p := ⟨k, 1, none⟩) (.inl rfl) _⟩
end Go.Proofs.YtppoiahhaclleaaDoor

/- keeper.free, whole. -/
namespace Go.Proofs.YtppoiahhaclleaaDoor
open Go.RowKit

/-- Places that go: the registers'. -/
def relP (pool : Nat) (l : List (Int × Int)) : Nat := l.foldl (fun p x => if 0 ≤ x.1 then p ||| 2 ^ x.1.toNat else p) pool
/-- The slots'. -/
def relS (slots : Nat) (l : List (Int × Int)) : Nat := l.foldl (fun p x => if 0 ≤ x.1 then p else p ||| 2 ^ (-1 - x.1).toNat) slots
theorem relP_snoc (pool : Nat) (l : List (Int × Int)) (x : Int × Int) : relP pool (l ++ [x]) = if 0 ≤ x.1 then relP pool l ||| 2 ^ x.1.toNat else relP pool l := by
  unfold relP; rw [List.foldl_append]; rfl
theorem relS_snoc (pool : Nat) (l : List (Int × Int)) (x : Int × Int) : relS pool (l ++ [x]) = if 0 ≤ x.1 then relS pool l else relS pool l ||| 2 ^ (-1 - x.1).toNat := by
  unfold relS; rw [List.foldl_append]; rfl
theorem or_lt (a q : Nat) (h : a < 18446744073709551616) (hq : q < 64) : a ||| 2 ^ q < 18446744073709551616 := Nat.or_lt_two_pow (n := 64) h (Nat.pow_lt_pow_right (by decide) hq)
/-- A place of a keeper. -/
def PlOk (x : Int × Int) : Prop := -64 ≤ x.1 ∧ x.1 < 64
theorem relP_lt {pool : Nat} {l : List (Int × Int)} (h : pool < 18446744073709551616) (hl : ∀ x ∈ l, PlOk x) : relP pool l < 18446744073709551616 := by
  induction l generalizing pool with
  | nil => exact h
  | cons x l ih =>
    have hx := hl x (List.mem_cons_self)
    refine ih (pool := if 0 ≤ x.1 then pool ||| 2 ^ x.1.toNat else pool) ?_ (fun y hy => hl y (List.mem_cons_of_mem _ hy))
    split
    · exact or_lt _ _ h (by have := hx.2; omega)
    · exact h
theorem relS_lt {pool : Nat} {l : List (Int × Int)} (h : pool < 18446744073709551616) (hl : ∀ x ∈ l, PlOk x) : relS pool l < 18446744073709551616 := by
  induction l generalizing pool with
  | nil => exact h
  | cons x l ih =>
    have hx := hl x (List.mem_cons_self)
    refine ih (pool := if 0 ≤ x.1 then pool else pool ||| 2 ^ (-1 - x.1).toNat) ?_ (fun y hy => hl y (List.mem_cons_of_mem _ hy))
    split
    · exact h
    · exact or_lt _ _ h (by have := hx.1; omega)
/-- What a free leaves behind. -/
def Freed (k g : Nat) (now : Int) (pool slots : Nat) (l : List (Int × Int)) (w w' : World) : Prop :=
  ∃ (gone rest : List (Int × Int)) (o c : Nat), (gone ++ rest).Perm l ∧ (∀ x ∈ gone, x.2 < now) ∧ (∀ x ∈ rest, now ≤ x.2) ∧ KeepAt w' k (relP pool gone) (relS slots gone) (.slice (some ⟨g, o, none⟩) rest.length c) ∧ HeldBlk w' g o c rest ∧ Chg (fun j => j = k ∨ j = g) w w'
theorem KeepAt.chg {k pool slots : Nat} {v : Value} {F : Nat → Prop} {w w' : World} (h : KeepAt w k pool slots v) (hb : Chg F w w') (h1 : ¬ F k) : KeepAt w' k pool slots v := (hb.block k (lt_of_block h) h1).trans h
theorem HeldBlk.chg {g o c : Nat} {l : List (Int × Int)} {F : Nat → Prop} {w w' : World} (h : HeldBlk w g o c l) (hb : Chg F w w') (h1 : ¬ F g) : HeldBlk w' g o c l := h.keep (hb.block g h.lt h1)
theorem Chg.weak {F G : Nat → Prop} {w w' : World} (h : Chg F w w') (hfg : ∀ j, F j → G j) : Chg G w w' := ⟨h.os, h.tape, h.output, h.size, fun j hj hn => h.block j hj fun e => hn (hfg j e)⟩

set_option maxRecDepth 100000 in
set_option maxHeartbeats 8000000 in
theorem free_any {k pool slots g o c n : Nat} {l : List (Int × Int)} (now : Int) (w : World) (hk : KeepAt w k pool slots (.slice (some ⟨g, o, none⟩) n c)) (hH : HeldBlk w g o c l) (hn : l.length = n) (hn1 : n ≤ 1000) (hne : k ≠ g) (hv : ∀ x ∈ l, PlOk x) (hp : pool < 18446744073709551616) (hs : slots < 18446744073709551616) :
    Calls Tryd.prog 37 #[.pointer (some ⟨k, 0, none⟩), .int .i64 now] w fun e w' => e = .returned (.tuple #[]) ∧ Freed k g now pool slots l w w' := by
  have HS := Lib.hid (sortH_any w hH hn hn1)
  have HKP := Lib.hid hk
  have HNE := Lib.hid hne
  have HV := Lib.hid hv
  have HPS := Lib.hid (And.intro hp hs)
  have HN := Lib.hid hn
  have f2 := hk.cells.2.2
  clear hk hH hn hne hv hp hs
  go_enter Tryd.func37, Tryd.ntmps37
  go_wp2_with ((with_reducible refine (HS.out).mono ?_); rintro e w1 ⟨rfl, l1, h1, h2, h3, h4⟩; have H1 := Lib.hid (And.intro h1 (And.intro h2 (And.intro h3 h4))); clear h1 h2 h3 h4)
  clear f2
  have HPL := Lib.hid (fun x (hx : x ∈ l1) => HV.out x (H1.out.1.mem_iff.1 hx))
  have HK1 := Lib.hid (HKP.out.chg H1.out.2.2.2 HNE.out)
  have HL1 := Lib.hid (show l1.length = n by rw [H1.out.1.length_eq]; exact HN.out)
  go_loopw [4] (fun _ wr => ∃ (gone rest : List (Int × Int)) (o c : Nat), Hid (gone ++ rest = l1 ∧ (∀ x ∈ gone, x.2 < now) ∧ KeepAt wr k (relP pool gone) (relS slots gone) (.slice (some ⟨g, o, none⟩) rest.length c) ∧ HeldBlk wr g o c rest ∧ Chg (fun j => j = k ∨ j = g) w wr)) (fun _ wr => match wr.cell? ⟨k, 2, none⟩ with | some (.slice _ n _) => n | _ => 0)
  case atStart => exact ⟨[], l1, o, c, Lib.hid ⟨rfl, (fun x hx => by cases hx), by rw [HL1.out]; exact HK1.out, H1.out.2.2.1, H1.out.2.2.2.weak fun j hj => .inr hj⟩⟩
  case round =>
    obtain ⟨gone, rest, o2, c2, HJ⟩ := hrel
    have F2 := Lib.hid HJ.out.2.2.1.cells.2.2
    cases rest with
    | nil =>
      have f2 : wr.cell? ⟨k, 2, none⟩ = some (.slice (some ⟨g, o2, none⟩) 0 c2) := F2.out
      go_wp2
      refine bodyPost_end (v := .tuple #[]) (results_none rfl _ _ _) rfl ?_
      exact ⟨rfl, gone, [], o2, c2, by rw [HJ.out.1]; exact H1.out.1, HJ.out.2.1, (fun x hx => by cases hx), HJ.out.2.2⟩
    | cons x rest =>
      obtain ⟨m, hm⟩ : ∃ q, (x :: rest).length = q := ⟨_, rfl⟩
      rw [hm] at F2 HJ
      have HM := Lib.hid hm
      have f2 := F2.out
      have hm0 : 0 < m := by rw [← hm, List.length_cons]; omega
      have hmd : decide (0 < m) = true := decide_eq_true hm0
      have hm2 : m ≤ 1000 := by
        have := HL1.out
        rw [← HJ.out.1, List.length_append, hm] at this
        omega
      have HX := Lib.hid (HJ.out.2.2.2.1.cell (i := 0) rfl)
      have x0 : wr.cell? ⟨g, o2, none⟩ = some (.int .i64 x.1) := HX.out.1
      have x1 : wr.cell? ⟨g, o2 + 1, none⟩ = some (.int .i64 x.2) := HX.out.2
      have HPX := Lib.hid (show PlOk x from HPL.out x (by rw [← HJ.out.1]; simp))
      clear hm
      by_cases hu : x.2 < now
      · have hud : decide (x.2 < now) = true := decide_eq_true hu
        have HU := Lib.hid hu
        clear hu
        by_cases h0 : 0 ≤ x.1
        · obtain ⟨q, hq⟩ : ∃ q : Nat, x.1 = q := ⟨x.1.toNat, by omega⟩
          have hq1 : q < 64 := by have := HPX.out.2; omega
          have HP2 := Lib.hid (show relP pool (gone ++ [x]) = relP pool gone ||| 2 ^ q by rw [relP_snoc, if_pos h0, hq]; rfl)
          have HS2 := Lib.hid (show relS slots (gone ++ [x]) = relS slots gone by rw [relS_snoc, if_pos h0])
          rw [hq] at x0
          have hqd : (0 : Int) ≤ (q : Int) := by omega
          have HGO := Lib.hid (fun y (hy : y ∈ gone) => HPL.out y (by rw [← HJ.out.1]; exact List.mem_append_left _ hy))
          clear h0 hq
          go_upto_region 4 with fail
          refine wp_code (c := partR Tryd.f37 4) (by kernel_rfl) ?_
          refine free_r4 (q := q) _ _ HJ.out.2.2.1 hq1 (relP_lt HPS.out.1 HGO.out) ?_
          intro v36 v37 v38 v39 v40 v41 v42 v43 v44 w3 h3
          have H3 := Lib.hid h3
          clear h3
          have HB3 := Lib.hid (HJ.out.2.2.2.1.chg H3.out.2 (fun e => HNE.out e.symm))
          have g2 := H3.out.1.cells.2.2
          have fz : w3.frozen? ⟨k, 2, none⟩ = false := frozen_row (row := [_, _, _]) H3.out.1 _
          have hlt3 : k < w3.heap.size := lt_of_block H3.out.1
          by_cases hc : c2 = 1
          · subst hc
            have HM1 := Lib.hid (show m = 1 by have := HB3.out.le; rw [HM.out] at this; omega)
            obtain rfl : m = 1 := HM1.out
            have HR0 := Lib.hid (show rest = [] from List.eq_nil_of_length_eq_zero (by have := HM.out; rw [List.length_cons] at this; omega))
            go_wp2
            go_roundw
            case rel => exact ⟨gone ++ [x], [], o2, 0, Lib.hid ⟨by rw [← HJ.out.1, HR0.out]; simp, by
              intro y hy
              rcases List.mem_append.1 hy with h | h
              · exact HJ.out.2.1 y h
              · rw [List.mem_singleton.1 h]; exact HU.out, by rw [HP2.out, HS2.out]; exact H3.out.1.set2 _, ⟨by obtain ⟨cs, a1, a2, _⟩ := HB3.out.blk; exact ⟨cs, by rw [← a1]; exact Below.heap_setCell _ _ _ _ (fun e => HNE.out e.symm), by omega, fun j u hj => by cases hj⟩, Nat.zero_le _⟩, (HJ.out.2.2.2.2.trans (H3.out.2.weak fun j hj => .inl hj)).setCell (.inl (.inl rfl)) _⟩⟩
            case measure => rw [F2.out, (H3.out.1.set2 _).cells.2.2]; simp
          · have hc1 : 1 < c2 := by have := HB3.out.le; rw [HM.out] at this; omega
            obtain ⟨m1, rfl⟩ : ∃ z, m = z + 1 := ⟨m - 1, by omega⟩
            have HM1 := Lib.hid (show rest.length = m1 by have := HM.out; rw [List.length_cons] at this; omega)
            go_wp2
            go_roundw
            case rel => exact ⟨gone ++ [x], rest, o2 + 2, c2 - 1, Lib.hid ⟨by rw [← HJ.out.1]; simp, by
              intro y hy
              rcases List.mem_append.1 hy with h | h
              · exact HJ.out.2.1 y h
              · rw [List.mem_singleton.1 h]; exact HU.out, by rw [HP2.out, HS2.out, HM1.out]; exact H3.out.1.set2 _, HB3.out.tail.keep (Below.heap_setCell _ _ _ _ (fun e => HNE.out e.symm)), (HJ.out.2.2.2.2.trans (H3.out.2.weak fun j hj => .inl hj)).setCell (.inl (.inl rfl)) _⟩⟩
            case measure => rw [F2.out, (H3.out.1.set2 _).cells.2.2]; simp
        · obtain ⟨q, hq⟩ : ∃ q : Nat, x.1 = -1 - (q : Int) := ⟨(-1 - x.1).toNat, by omega⟩
          have hq1 : q < 64 := by have := HPX.out.1; omega
          have HP2 := Lib.hid (show relP pool (gone ++ [x]) = relP pool gone by rw [relP_snoc, if_neg h0])
          have HS2 := Lib.hid (show relS slots (gone ++ [x]) = relS slots gone ||| 2 ^ q by rw [relS_snoc, if_neg h0, hq, show (-1 - (-1 - (q : Int))).toNat = q by omega])
          rw [hq] at x0
          have hqd : decide ((0 : Int) ≤ -1 - (q : Int)) = false := decide_eq_false (by omega)
          have hqe : decide ((q : Int) ≤ -1) = false := decide_eq_false (by omega)
          have HGO := Lib.hid (fun y (hy : y ∈ gone) => HPL.out y (by rw [← HJ.out.1]; exact List.mem_append_left _ hy))
          clear h0 hq
          go_upto_region 5 with fail
          refine wp_code (c := partR Tryd.f37 5) (by kernel_rfl) ?_
          refine free_r5 (q := q) _ _ HJ.out.2.2.1 hq1 (relS_lt HPS.out.2 HGO.out) ?_
          intro v45 v46 v47 v48 v49 v50 v51 v52 v53 v54 v55 w3 h3
          have H3 := Lib.hid h3
          clear h3
          have HB3 := Lib.hid (HJ.out.2.2.2.1.chg H3.out.2 (fun e => HNE.out e.symm))
          have g2 := H3.out.1.cells.2.2
          have fz : w3.frozen? ⟨k, 2, none⟩ = false := frozen_row (row := [_, _, _]) H3.out.1 _
          have hlt3 : k < w3.heap.size := lt_of_block H3.out.1
          by_cases hc : c2 = 1
          · subst hc
            have HM1 := Lib.hid (show m = 1 by have := HB3.out.le; rw [HM.out] at this; omega)
            obtain rfl : m = 1 := HM1.out
            have HR0 := Lib.hid (show rest = [] from List.eq_nil_of_length_eq_zero (by have := HM.out; rw [List.length_cons] at this; omega))
            go_wp2
            go_roundw
            case rel => exact ⟨gone ++ [x], [], o2, 0, Lib.hid ⟨by rw [← HJ.out.1, HR0.out]; simp, by
              intro y hy
              rcases List.mem_append.1 hy with h | h
              · exact HJ.out.2.1 y h
              · rw [List.mem_singleton.1 h]; exact HU.out, by rw [HP2.out, HS2.out]; exact H3.out.1.set2 _, ⟨by obtain ⟨cs, a1, a2, _⟩ := HB3.out.blk; exact ⟨cs, by rw [← a1]; exact Below.heap_setCell _ _ _ _ (fun e => HNE.out e.symm), by omega, fun j u hj => by cases hj⟩, Nat.zero_le _⟩, (HJ.out.2.2.2.2.trans (H3.out.2.weak fun j hj => .inl hj)).setCell (.inl (.inl rfl)) _⟩⟩
            case measure => rw [F2.out, (H3.out.1.set2 _).cells.2.2]; simp
          · have hc1 : 1 < c2 := by have := HB3.out.le; rw [HM.out] at this; omega
            obtain ⟨m1, rfl⟩ : ∃ z, m = z + 1 := ⟨m - 1, by omega⟩
            have HM1 := Lib.hid (show rest.length = m1 by have := HM.out; rw [List.length_cons] at this; omega)
            go_wp2
            go_roundw
            case rel => exact ⟨gone ++ [x], rest, o2 + 2, c2 - 1, Lib.hid ⟨by rw [← HJ.out.1]; simp, by
              intro y hy
              rcases List.mem_append.1 hy with h | h
              · exact HJ.out.2.1 y h
              · rw [List.mem_singleton.1 h]; exact HU.out, by rw [HP2.out, HS2.out, HM1.out]; exact H3.out.1.set2 _, HB3.out.tail.keep (Below.heap_setCell _ _ _ _ (fun e => HNE.out e.symm)), (HJ.out.2.2.2.2.trans (H3.out.2.weak fun j hj => .inl hj)).setCell (.inl (.inl rfl)) _⟩⟩
            case measure => rw [F2.out, (H3.out.1.set2 _).cells.2.2]; simp
      · have hud : decide (x.2 < now) = false := decide_eq_false hu
        have HU := Lib.hid hu
        clear hu
        go_wp2
        refine bodyPost_end (v := .tuple #[]) (results_none rfl _ _ _) rfl ?_
        refine ⟨rfl, gone, x :: rest, o2, c2, by rw [HJ.out.1]; exact H1.out.1, HJ.out.2.1, fun y hy => ?_, by rw [HM.out]; exact HJ.out.2.2⟩
        have hsrt := H1.out.2.1
        rw [← HJ.out.1] at hsrt
        have h5 := (List.pairwise_append.1 hsrt).2.1
        have := HU.out
        rcases List.mem_cons.1 hy with rfl | h
        · omega
        · have := (List.pairwise_cons.1 h5).1 y h
          omega
end Go.Proofs.YtppoiahhaclleaaDoor


/- keeper.take, of a row somewhere in a block. -/
namespace Go.Proofs.YtppoiahhaclleaaDoor
open Go.RowKit

theorem HeldBlk.spare {w : World} {g o c : Nat} {l : List (Int × Int)} (h : HeldBlk w g o c l) (hr : l.length + 1 ≤ c) (j : Nat) (hj : j < 2) : (w.cell? ⟨g, o + l.length * 2 + j, none⟩).isSome = true ∧ w.frozen? ⟨g, o + l.length * 2 + j, none⟩ = false := by
  obtain ⟨cs, h1, h2, _⟩ := h.blk
  refine ⟨?_, h.frozen _⟩
  simp only [World.cell?, h1]
  exact Option.isSome_iff_exists.2 ⟨_, Array.getElem?_eq_getElem (show o + l.length * 2 + j < cs.size by omega)⟩
theorem HeldBlk.put {w : World} {g o c : Nat} {l : List (Int × Int)} {p u : Int} (h : HeldBlk w g o c l) (hr : l.length + 1 ≤ c) : HeldBlk (w.setCells g (o + l.length * 2) [.int .i64 p, .int .i64 u]) g o c (l ++ [(p, u)]) := by
  obtain ⟨cs, h1, h2, h3⟩ := h.blk
  have e : (w.setCells g (o + l.length * 2) [.int .i64 p, .int .i64 u]).heap[g]? = some (.cells ((cs.setIfInBounds (o + l.length * 2) (.int .i64 p)).setIfInBounds (o + l.length * 2 + 1) (.int .i64 u)) 101 (0, 0)) := by
    show ((w.setCell ⟨g, o + l.length * 2, none⟩ (.int .i64 p)).setCell ⟨g, o + l.length * 2 + 1, none⟩ (.int .i64 u)).heap[g]? = _
    unfold World.setCell
    simp only [Array.getElem?_modify, if_true, h1]
    rfl
  refine ⟨⟨_, e, by simpa using h2, fun j x hj => ?_⟩, by rw [List.length_append]; exact hr⟩
  have hln := spV_len l
  rcases Nat.lt_or_ge j (l.length * 2) with hlt | hge
  · rw [spV_append, List.getElem?_append_left (by omega)] at hj
    rw [Array.getElem?_setIfInBounds_ne (by omega), Array.getElem?_setIfInBounds_ne (by omega)]
    exact h3 j x hj
  · rw [spV_append, List.getElem?_append_right (by omega), hln] at hj
    have hlt2 := (List.getElem?_eq_some_iff.1 hj).1
    have hs2 : (spV [(p, u)]).length = 2 := rfl
    rw [hs2] at hlt2
    rcases Nat.lt_or_ge (j - l.length * 2) 1 with h0 | h0
    · obtain rfl : j = l.length * 2 := by omega
      rw [Nat.sub_self] at hj
      rw [Array.getElem?_setIfInBounds_ne (by omega), Array.getElem?_setIfInBounds_self_of_lt (by omega)]
      exact hj
    · obtain rfl : j = l.length * 2 + 1 := by omega
      rw [show l.length * 2 + 1 - l.length * 2 = 1 by omega] at hj
      rw [show o + (l.length * 2 + 1) = o + l.length * 2 + 1 by omega, Array.getElem?_setIfInBounds_self_of_lt (by simp; omega)]
      exact hj
theorem chg_cells (g o : Nat) (vs : List Value) (w : World) : Chg (fun j => j = g) w (w.setCells g o vs) := by
  induction vs generalizing o w with
  | nil => exact Chg.refl _ _
  | cons v vs ih => exact ((Chg.refl (fun j => j = g) w).setCell (p := ⟨g, o, none⟩) (.inl rfl) v).trans (ih _ _)
theorem held_own {w : World} {base n c : Nat} {A : Option Addr} {l : List (Int × Int)} (h : w.ownsRow base 101 2 (.slice A n c) n (spV l)) (hl : l.length = n) (hn : 0 < n) : ∃ g, A = some ⟨g, 0, none⟩ ∧ base ≤ g ∧ HeldBlk w g 0 c l := by
  rcases h.2 with ⟨_, h0⟩ | ⟨g, cap, cur, hv, hb, hg, hnc, _, hsz, htk⟩
  · omega
  · cases hv
    refine ⟨g, rfl, hb, ⟨cur, hg, by rw [hsz, Nat.zero_add]; exact Nat.le_refl _, fun j u hj => ?_⟩, by omega⟩
    rw [Nat.zero_add, ← Array.getElem?_toList]
    have hlt := (List.getElem?_eq_some_iff.1 hj).1
    rw [← htk, List.getElem?_take] at hj
    split at hj
    · exact hj
    · cases hj
/-- What a place taken leaves behind. -/
structure Taken2 (B k g0 pool slots : Nat) (l : List (Int × Int)) (place un : Int) (w : World) (e : Ending) (w' : World) : Prop where
  is : e = .returned (.int .i64 place)
  held : ∃ g o c, KeepAt w' k pool slots (.slice (some ⟨g, o, none⟩) (l.length + 1) c) ∧ HeldBlk w' g o c (l ++ [(place, un)]) ∧ B ≤ g ∧ g ≠ k
  chg : Chg (fun j => j = k ∨ j = g0) w w'

set_option maxRecDepth 100000 in
set_option maxHeartbeats 4000000 in
theorem take_reg2 {B k pool slots n c p' g o : Nat} {l : List (Int × Int)} (un : Int) (w : World) (hk : KeepAt w k pool slots (.slice (some ⟨g, o, none⟩) n c)) (hH : HeldBlk w g o c l) (hne : k ≠ g) (hbg : B ≤ g)
    (hT : TzAt w) (hp : pool ≠ 0) (hp64 : pool < 18446744073709551616) (hn : n ≤ 1000) (hl : l.length = n) (hb : B ≤ w.heap.size) (hp' : andV pool = (p' : Int)) :
    Calls Tryd.prog 38 #[.pointer (some ⟨k, 0, none⟩), .int .i64 un] w fun e w' => Taken2 B k g p' slots l (Lib.ctz 64 pool : Nat) un w e w' := by
  have H := Lib.hid (tz_any pool hp64 w hT)
  have HKP := Lib.hid hk
  have HNE := Lib.hid hne
  have HBG := Lib.hid hbg
  obtain ⟨j0, hie, hy0, hy1, hy2⟩ := info_parts infoS
  have f0 := hk.cells.1
  have d0 : ((pool : Int) != 0) = true := by simp; omega
  obtain ⟨pl, hpl⟩ : ∃ x, (Lib.ctz 64 pool : Nat) = x := ⟨_, rfl⟩
  rw [hpl] at H ⊢
  have HP := Lib.hid hp'
  unfold andV at hp'
  obtain ⟨W3, hW3⟩ : ∃ q, q = w.drew.setCell ⟨k, 0, none⟩ (.int .u64 (p' : Nat)) := ⟨_, rfl⟩
  have HKP3 := Lib.hid (show KeepAt W3 k p' slots (.slice (some ⟨g, o, none⟩) n c) by rw [hW3]; exact hk.drew.set0 p')
  have hck : Chg (fun j => j = k ∨ j = g) w W3 := by rw [hW3]; exact (Chg.refl _ w).drew.setCell (.inl (.inl rfl)) _
  have HC3 := Lib.hid hck
  have HHA := Lib.hid (fun (pl : Int) => show HeldBlk (W3.alloc (.cells #[.int .i64 pl, .int .i64 un] 101)) g o c l from (show HeldBlk W3 g o c l by rw [hW3]; exact (HeldBlk.keep (w := w) (w' := w.drew) hH rfl).keep (Below.heap_setCell _ _ _ _ (fun e => hne e.symm))).keep (((Below.refl W3.heap.size W3).alloc (Nat.le_refl _) _).block g (Nat.lt_of_lt_of_le hH.lt hck.size)))
  have HBZ := Lib.hid (show B ≤ W3.heap.size from Nat.le_trans hb hck.size)
  have HW3 := Lib.hid hW3
  have HL := Lib.hid hl
  clear hk hH hne hbg hT hp hp64 hl hb hW3 hck hpl
  go_enter Tryd.func38, Tryd.ntmps38
  go_wp2_with ((with_reducible refine (H.out).mono ?_); rintro e w1 ⟨rfl, rfl⟩)
  clear f0
  (refine wp_region_lines (fun w_ => KeepAt w_ k pool slots (.slice (some ⟨g, o, none⟩) n c)) (by kernel_rfl) (by kernel_rfl) HKP.out.drew ?_)
  (try simp only [])
  repeat (first | (refine runL_no (by rfl) ?_; (try simp only [Act.put, List.setIfInBounds_toArray, List.set_cons_zero, List.set_cons_succ])) | (refine runL_val (v := ?_) (by rfl) ?_ ?_; rotate_left; (focus (intro w_ hw_; have f0_ := hw_.cells.1; have f1_ := hw_.cells.2.1; go_simp; (try with_reducible rfl); done)); (try simp only [Act.put, List.setIfInBounds_toArray, List.set_cons_zero, List.set_cons_succ])) | (refine runL_skip (w1 := w1.drew.setCell ⟨k, 0, none⟩ (.int .u64 (p' : Nat))) (by rfl) (by rfl) (exec_store1 45 _ _ rfl k 0 _ rfl rfl (by kernel_rfl) (by show (World.cell? w1 _).isSome = true; rw [HKP.out.cells.1]; rfl) (frozen_row (row := [_, _, _]) HKP.out _) rfl) (.inl ⟨rfl, by kernel_rfl⟩) ?_; (try simp only [Act.put])))
  (refine runL_nil ?_)
  have f2 := HKP3.out.cells.2.2
  by_cases hr : n + 1 ≤ c
  · rw [← HW3.out]
    go_wp2_with ((at_builtin; refine wpList_append_arg _ rfl _ _ 71 rfl 101 j0 (.agg #[.int .i64 0, .int .i64 0]) 2 16 Tryd.underlying71 hie hy0 hy1 hy2 rfl (by decide) g o n c (spV l) rfl (by rw [spV_len, HL.out]) (fun j u hj => (HHA.out ((pl : Nat) : Int)).at_ hj) ⟨W3.heap.size, 0, none⟩ 1 1 [.int .i64 ((pl : Nat) : Int), .int .i64 un] rfl (by simp) (World.news_of_block (cs := #[.int .i64 ((pl : Nat) : Int), .int .i64 un]) (t := 101) (fr := (0, 0)) (heap_alloc_new W3 _)) (by simp [Value.oneCell']) (fun hr j hj => by have := (HHA.out ((pl : Nat) : Int)).spare (by rw [HL.out]; exact hr) j hj; rw [HL.out] at this; exact this) (by unfold maxLen; omega) (by omega) (fun _ => ?_) (fun hlt => absurd hlt (by omega))); obtain ⟨W6, hW6⟩ : ∃ q, q = (W3.alloc (.cells #[.int .i64 ((pl : Nat) : Int), .int .i64 un] 101)).setCells g (o + n * 2) [.int .i64 ((pl : Nat) : Int), .int .i64 un] := ⟨_, rfl⟩; rw [← hW6]; have HK6 := Lib.hid (show KeepAt W6 k p' slots (.slice (some ⟨g, o, none⟩) n c) by rw [hW6]; exact (HKP3.out.next ((Below.refl _ _).alloc (Nat.le_refl _) _)).chg (chg_cells g _ _ _) HNE.out); have HH6 := Lib.hid (show HeldBlk W6 g o c (l ++ [(((pl : Nat) : Int), un)]) by rw [hW6, ← HL.out]; exact (HHA.out ((pl : Nat) : Int)).put (by rw [HL.out]; omega)); have HC6 := Lib.hid (show Chg (fun j => j = k ∨ j = g) w1 W6 by rw [hW6]; exact (HC3.out.alloc _).trans ((chg_cells g _ _ _).weak fun j hj => .inr hj)); clear hW6; have s2 := HK6.out.cells.2.2; have s3 := frozen_row (row := [_, _, _]) HK6.out 2)
    go_wp2
    go_ret
    exact ⟨rfl, ⟨g, o, c, by rw [HL.out]; exact HK6.out.set2 _, HH6.out.keep (Below.heap_setCell _ _ _ _ (fun e => HNE.out e.symm)), HBG.out, fun e => HNE.out e.symm⟩, HC6.out.setCell (.inl (.inl rfl)) _⟩
  · rw [← HW3.out]
    go_wp2_with ((at_builtin; refine wpList_append_arg _ rfl _ _ 71 rfl 101 j0 (.agg #[.int .i64 0, .int .i64 0]) 2 16 Tryd.underlying71 hie hy0 hy1 hy2 rfl (by decide) g o n c (spV l) rfl (by rw [spV_len, HL.out]) (fun j u hj => (HHA.out ((pl : Nat) : Int)).at_ hj) ⟨W3.heap.size, 0, none⟩ 1 1 [.int .i64 ((pl : Nat) : Int), .int .i64 un] rfl (by simp) (World.news_of_block (cs := #[.int .i64 ((pl : Nat) : Int), .int .i64 un]) (t := 101) (fr := (0, 0)) (heap_alloc_new W3 _)) (by simp [Value.oneCell']) (fun hr => absurd hr (by omega)) (by unfold maxLen; omega) (by omega) (fun hr => absurd hr (by omega)) (fun _ => ?_)); intro v6 w6 hown6 hg6; obtain ⟨A6, c6, rfl⟩ := own_form hown6; have HOWN6 := Lib.hid hown6; have HG6 := Lib.hid hg6; clear hown6 hg6; have HK6 := Lib.hid ((HKP3.out.next ((Below.refl _ _).alloc (Nat.le_refl _) _)).grown HG6.out (fun e => by cases e)); have s2 := HK6.out.cells.2.2; have s3 := frozen_row (row := [_, _, _]) HK6.out 2)
    go_wp2
    go_ret
    obtain ⟨g6, rfl, hg6, hh6⟩ := held_own (l := l ++ [(((pl : Nat) : Int), un)]) (by rw [spV_append]; exact HOWN6.out) (by rw [List.length_append, HL.out]; rfl) (by omega)
    have hkz := lt_of_block HKP3.out
    have hg7 : W3.heap.size + 1 ≤ g6 := by have := hg6; simp at this; omega
    have hg8 : g6 ≠ k := fun e => by omega
    exact ⟨rfl, ⟨g6, 0, c6, by rw [HL.out]; exact HK6.out.set2 _, hh6.keep (Below.heap_setCell _ _ _ _ hg8), by have := HBZ.out; omega, hg8⟩, ((HC3.out.alloc _).trans (chg_grown HG6.out fun j hj => by cases hj)).setCell (.inl (.inl rfl)) _⟩
set_option maxRecDepth 100000 in
set_option maxHeartbeats 4000000 in
theorem take_slot2 {B k pool slots n c p' g o : Nat} {l : List (Int × Int)} (un : Int) (w : World) (hk : KeepAt w k pool slots (.slice (some ⟨g, o, none⟩) n c)) (hH : HeldBlk w g o c l) (hne : k ≠ g) (hbg : B ≤ g)
    (hT : TzAt w) (hp : pool = 0) (hp64 : slots < 18446744073709551616) (hn : n ≤ 1000) (hl : l.length = n) (hb : B ≤ w.heap.size) (hp' : andV slots = (p' : Int)) :
    Calls Tryd.prog 38 #[.pointer (some ⟨k, 0, none⟩), .int .i64 un] w fun e w' => Taken2 B k g pool p' l (-1 - (Lib.ctz 64 slots : Nat)) un w e w' := by
  have H := Lib.hid (tz_any slots hp64 w hT)
  have HKP := Lib.hid hk
  have HNE := Lib.hid hne
  have HBG := Lib.hid hbg
  obtain ⟨j0, hie, hy0, hy1, hy2⟩ := info_parts infoS
  have f0 := hk.cells.1
  have f1 := hk.cells.2.1
  have d0 : ((pool : Int) != 0) = false := by subst hp; rfl
  have hz := ctz_le slots hp64
  obtain ⟨pl, hpl⟩ : ∃ x, (Lib.ctz 64 slots : Nat) = x := ⟨_, rfl⟩
  rw [hpl] at H hz ⊢
  have hw : IntKind.i64.wrap (-1 - (pl : Int)) = -1 - pl := by rw [IntKind.wrap_i64]; omega
  have HP := Lib.hid hp'
  unfold andV at hp'
  obtain ⟨W3, hW3⟩ : ∃ q, q = w.drew.setCell ⟨k, 1, none⟩ (.int .u64 (p' : Nat)) := ⟨_, rfl⟩
  have HKP3 := Lib.hid (show KeepAt W3 k pool p' (.slice (some ⟨g, o, none⟩) n c) by rw [hW3]; exact hk.drew.set1 p')
  have hck : Chg (fun j => j = k ∨ j = g) w W3 := by rw [hW3]; exact (Chg.refl _ w).drew.setCell (.inl (.inl rfl)) _
  have HC3 := Lib.hid hck
  have HHA := Lib.hid (fun (pl : Int) => show HeldBlk (W3.alloc (.cells #[.int .i64 pl, .int .i64 un] 101)) g o c l from (show HeldBlk W3 g o c l by rw [hW3]; exact (HeldBlk.keep (w := w) (w' := w.drew) hH rfl).keep (Below.heap_setCell _ _ _ _ (fun e => hne e.symm))).keep (((Below.refl W3.heap.size W3).alloc (Nat.le_refl _) _).block g (Nat.lt_of_lt_of_le hH.lt hck.size)))
  have HBZ := Lib.hid (show B ≤ W3.heap.size from Nat.le_trans hb hck.size)
  have HW3 := Lib.hid hW3
  have HL := Lib.hid hl
  clear hk hH hne hbg hT hp hp64 hl hb hW3 hck hpl
  go_enter Tryd.func38, Tryd.ntmps38
  go_wp2_with ((with_reducible refine (H.out).mono ?_); rintro e w1 ⟨rfl, rfl⟩)
  clear f0 f1
  (refine wp_region_lines (fun w_ => KeepAt w_ k pool slots (.slice (some ⟨g, o, none⟩) n c)) (by kernel_rfl) (by kernel_rfl) HKP.out.drew ?_)
  (try simp only [])
  repeat (first | (refine runL_no (by rfl) ?_; (try simp only [Act.put, List.setIfInBounds_toArray, List.set_cons_zero, List.set_cons_succ])) | (refine runL_val (v := ?_) (by rfl) ?_ ?_; rotate_left; (focus (intro w_ hw_; have f0_ := hw_.cells.1; have f1_ := hw_.cells.2.1; go_simp; (try with_reducible rfl); done)); (try simp only [Act.put, List.setIfInBounds_toArray, List.set_cons_zero, List.set_cons_succ])) | (refine runL_skip (w1 := w1.drew.setCell ⟨k, 1, none⟩ (.int .u64 (p' : Nat))) (by rfl) (by rfl) (exec_store1 45 _ _ rfl k 1 _ rfl rfl (by kernel_rfl) (by show (World.cell? w1 _).isSome = true; rw [HKP.out.cells.2.1]; rfl) (frozen_row (row := [_, _, _]) HKP.out _) rfl) (.inl ⟨rfl, by kernel_rfl⟩) ?_; (try simp only [Act.put])))
  (refine runL_nil ?_)
  have f2 := HKP3.out.cells.2.2
  by_cases hr : n + 1 ≤ c
  · rw [← HW3.out]
    go_wp2_with ((at_builtin; refine wpList_append_arg _ rfl _ _ 71 rfl 101 j0 (.agg #[.int .i64 0, .int .i64 0]) 2 16 Tryd.underlying71 hie hy0 hy1 hy2 rfl (by decide) g o n c (spV l) rfl (by rw [spV_len, HL.out]) (fun j u hj => (HHA.out (-1 - ((pl : Nat) : Int))).at_ hj) ⟨W3.heap.size, 0, none⟩ 1 1 [.int .i64 (-1 - ((pl : Nat) : Int)), .int .i64 un] rfl (by simp) (World.news_of_block (cs := #[.int .i64 (-1 - ((pl : Nat) : Int)), .int .i64 un]) (t := 101) (fr := (0, 0)) (heap_alloc_new W3 _)) (by simp [Value.oneCell']) (fun hr j hj => by have := (HHA.out (-1 - ((pl : Nat) : Int))).spare (by rw [HL.out]; exact hr) j hj; rw [HL.out] at this; exact this) (by unfold maxLen; omega) (by omega) (fun _ => ?_) (fun hlt => absurd hlt (by omega))); obtain ⟨W6, hW6⟩ : ∃ q, q = (W3.alloc (.cells #[.int .i64 (-1 - ((pl : Nat) : Int)), .int .i64 un] 101)).setCells g (o + n * 2) [.int .i64 (-1 - ((pl : Nat) : Int)), .int .i64 un] := ⟨_, rfl⟩; rw [← hW6]; have HK6 := Lib.hid (show KeepAt W6 k pool p' (.slice (some ⟨g, o, none⟩) n c) by rw [hW6]; exact (HKP3.out.next ((Below.refl _ _).alloc (Nat.le_refl _) _)).chg (chg_cells g _ _ _) HNE.out); have HH6 := Lib.hid (show HeldBlk W6 g o c (l ++ [((-1 - ((pl : Nat) : Int)), un)]) by rw [hW6, ← HL.out]; exact (HHA.out (-1 - ((pl : Nat) : Int))).put (by rw [HL.out]; omega)); have HC6 := Lib.hid (show Chg (fun j => j = k ∨ j = g) w1 W6 by rw [hW6]; exact (HC3.out.alloc _).trans ((chg_cells g _ _ _).weak fun j hj => .inr hj)); clear hW6; have s2 := HK6.out.cells.2.2; have s3 := frozen_row (row := [_, _, _]) HK6.out 2)
    go_wp2
    go_ret
    exact ⟨rfl, ⟨g, o, c, by rw [HL.out]; exact HK6.out.set2 _, HH6.out.keep (Below.heap_setCell _ _ _ _ (fun e => HNE.out e.symm)), HBG.out, fun e => HNE.out e.symm⟩, HC6.out.setCell (.inl (.inl rfl)) _⟩
  · rw [← HW3.out]
    go_wp2_with ((at_builtin; refine wpList_append_arg _ rfl _ _ 71 rfl 101 j0 (.agg #[.int .i64 0, .int .i64 0]) 2 16 Tryd.underlying71 hie hy0 hy1 hy2 rfl (by decide) g o n c (spV l) rfl (by rw [spV_len, HL.out]) (fun j u hj => (HHA.out (-1 - ((pl : Nat) : Int))).at_ hj) ⟨W3.heap.size, 0, none⟩ 1 1 [.int .i64 (-1 - ((pl : Nat) : Int)), .int .i64 un] rfl (by simp) (World.news_of_block (cs := #[.int .i64 (-1 - ((pl : Nat) : Int)), .int .i64 un]) (t := 101) (fr := (0, 0)) (heap_alloc_new W3 _)) (by simp [Value.oneCell']) (fun hr => absurd hr (by omega)) (by unfold maxLen; omega) (by omega) (fun hr => absurd hr (by omega)) (fun _ => ?_)); intro v6 w6 hown6 hg6; obtain ⟨A6, c6, rfl⟩ := own_form hown6; have HOWN6 := Lib.hid hown6; have HG6 := Lib.hid hg6; clear hown6 hg6; have HK6 := Lib.hid ((HKP3.out.next ((Below.refl _ _).alloc (Nat.le_refl _) _)).grown HG6.out (fun e => by cases e)); have s2 := HK6.out.cells.2.2; have s3 := frozen_row (row := [_, _, _]) HK6.out 2)
    go_wp2
    go_ret
    obtain ⟨g6, rfl, hg6, hh6⟩ := held_own (l := l ++ [((-1 - ((pl : Nat) : Int)), un)]) (by rw [spV_append]; exact HOWN6.out) (by rw [List.length_append, HL.out]; rfl) (by omega)
    have hkz := lt_of_block HKP3.out
    have hg7 : W3.heap.size + 1 ≤ g6 := by have := hg6; simp at this; omega
    have hg8 : g6 ≠ k := fun e => by omega
    exact ⟨rfl, ⟨g6, 0, c6, by rw [HL.out]; exact HK6.out.set2 _, hh6.keep (Below.heap_setCell _ _ _ _ hg8), by have := HBZ.out; omega, hg8⟩, ((HC3.out.alloc _).trans (chg_grown HG6.out fun j hj => by cases hj)).setCell (.inl (.inl rfl)) _⟩
end Go.Proofs.YtppoiahhaclleaaDoor

/- The keeper, plain: what it gives out. -/
namespace Go.Proofs.YtppoiahhaclleaaDoor
open Go.RowKit

structure KS where
  pool : Nat
  slots : Nat
  held : List (Int × Int)
def goneK (now : Int) (l : List (Int × Int)) : List (Int × Int) := l.filter fun x => decide (x.2 < now)
def restK (now : Int) (l : List (Int × Int)) : List (Int × Int) := l.filter fun x => !decide (x.2 < now)
def freeK (now : Int) (s : KS) : KS := ⟨relP s.pool (goneK now s.held), relS s.slots (goneK now s.held), restK now s.held⟩
def placeK (s : KS) : Int := if s.pool = 0 then -1 - (Lib.ctz 64 s.slots : Nat) else (Lib.ctz 64 s.pool : Nat)
def takeK (un : Int) (s : KS) : KS :=
  if s.pool = 0 then ⟨s.pool, s.slots &&& (s.slots - 1), s.held ++ [(placeK s, un)]⟩ else ⟨s.pool &&& (s.pool - 1), s.slots, s.held ++ [(placeK s, un)]⟩
def spanAt (sp : List (Int × Int)) (ord : List Int) (k : Nat) : Int × Int := sp.getD (ord.getD k 0).toNat (-1, -1)
def keepS (sp : List (Int × Int)) (ord : List Int) (pool : Nat) : Nat → KS
  | 0 => ⟨2 ^ pool - 1, 18446744073709551615, []⟩
  | k + 1 => takeK (spanAt sp ord k).2 (freeK (spanAt sp ord k).1 (keepS sp ord pool k))
def plK (sp : List (Int × Int)) (ord : List Int) (pool k : Nat) : Int := placeK (freeK (spanAt sp ord k).1 (keepS sp ord pool k))

theorem or_right (a b c : Nat) : a ||| b ||| c = a ||| c ||| b := by rw [Nat.or_assoc, Nat.or_comm b, ← Nat.or_assoc]
theorem relP_perm {l l' : List (Int × Int)} (h : l.Perm l') : ∀ p, relP p l = relP p l' := by
  induction h with
  | nil => exact fun _ => rfl
  | cons x _ ih => exact fun p => ih _
  | swap x y l =>
    intro p
    unfold relP
    simp only [List.foldl_cons]
    congr 1
    by_cases hx : 0 ≤ x.1 <;> by_cases hy : 0 ≤ y.1 <;> (simp only [hx, hy, if_true, if_false]; try exact or_right _ _ _)
  | trans _ _ ih1 ih2 => exact fun p => (ih1 p).trans (ih2 p)
theorem relS_perm {l l' : List (Int × Int)} (h : l.Perm l') : ∀ p, relS p l = relS p l' := by
  induction h with
  | nil => exact fun _ => rfl
  | cons x _ ih => exact fun p => ih _
  | swap x y l =>
    intro p
    unfold relS
    simp only [List.foldl_cons]
    congr 1
    by_cases hx : 0 ≤ x.1 <;> by_cases hy : 0 ≤ y.1 <;> (simp only [hx, hy, if_true, if_false]; try exact or_right _ _ _)
  | trans _ _ ih1 ih2 => exact fun p => (ih1 p).trans (ih2 p)
theorem relP_bit (l : List (Int × Int)) : ∀ (p i : Nat), (relP p l).testBit i = (p.testBit i || l.any fun x => decide (x.1 = i)) := by
  induction l with
  | nil => intro p i; simp [relP]
  | cons x l ih =>
    intro p i
    have e : relP p (x :: l) = relP (if 0 ≤ x.1 then p ||| 2 ^ x.1.toNat else p) l := rfl
    rw [e, ih, List.any_cons]
    by_cases h : 0 ≤ x.1
    · rw [if_pos h, Nat.testBit_or, Nat.testBit_two_pow, Bool.or_assoc]
      congr 2
      exact decide_eq_decide.2 ⟨fun h' => by omega, fun h' => by omega⟩
    · rw [if_neg h, show decide (x.1 = (i : Int)) = false from decide_eq_false (by omega), Bool.false_or]
theorem relS_bit (l : List (Int × Int)) : ∀ (p i : Nat), (relS p l).testBit i = (p.testBit i || l.any fun x => decide (x.1 = -1 - (i : Int))) := by
  induction l with
  | nil => intro p i; simp [relS]
  | cons x l ih =>
    intro p i
    have e : relS p (x :: l) = relS (if 0 ≤ x.1 then p else p ||| 2 ^ (-1 - x.1).toNat) l := rfl
    rw [e, ih, List.any_cons]
    by_cases h : 0 ≤ x.1
    · rw [if_pos h, show decide (x.1 = -1 - (i : Int)) = false from decide_eq_false (by omega), Bool.false_or]
    · rw [if_neg h, Nat.testBit_or, Nat.testBit_two_pow, Bool.or_assoc]
      congr 2
      exact decide_eq_decide.2 ⟨fun h' => by omega, fun h' => by omega⟩
/-- The lowest bit goes. -/
theorem low_bit (x : Nat) (h0 : x ≠ 0) (h : x < 18446744073709551616) : Lib.ctz 64 x < 64 ∧ x.testBit (Lib.ctz 64 x) = true ∧ ∀ i, (x &&& (x - 1)).testBit i = (x.testBit i && decide (i ≠ Lib.ctz 64 x)) := by
  obtain ⟨m, hm, hk⟩ := Lib.ctzFrom_spec 64 x (by omega) h
  have e : Lib.ctz 64 x = Lib.ctzFrom 64 x := by simp [Lib.ctz, h0]
  rw [e]
  generalize Lib.ctzFrom 64 x = p at hm hk
  have hpos : 0 < 2 ^ p := Nat.two_pow_pos p
  have hx1 : x - 1 = 2 ^ p * (2 * m) + (2 ^ p - 1) := by
    rw [hm, Nat.mul_add, Nat.mul_one]; omega
  have t1 : ∀ j, x.testBit j = (decide (j ≥ p) && (2 * m + 1).testBit (j - p)) := fun j => by rw [hm, Nat.testBit_two_pow_mul]
  have t2 : ∀ j, (x - 1).testBit j = if j < p then (2 ^ p - 1).testBit j else (2 * m).testBit (j - p) := fun j => by rw [hx1]; exact Nat.testBit_two_pow_mul_add _ (by omega) j
  refine ⟨hk, by rw [t1, Nat.sub_self]; simp, fun i => ?_⟩
  rw [Nat.testBit_and, t1, t2]
  rcases Nat.lt_trichotomy i p with h1 | rfl | h1
  · simp [show ¬ (i ≥ p) by omega]
  · simp
  · obtain ⟨d, hd⟩ : ∃ d, i - p = d + 1 := ⟨i - p - 1, by omega⟩
    rw [hd, Nat.testBit_succ, Nat.testBit_succ, show (2 * m + 1) / 2 = m by omega, show 2 * m / 2 = m by omega]
    simp [show i ≥ p by omega, show ¬ i < p by omega, show i ≠ p by omega]
theorem nodup_le {l l' : List Int} (h : l.Nodup) (hs : ∀ x ∈ l, x ∈ l') : l.length ≤ l'.length := by
  induction l generalizing l' with
  | nil => exact Nat.zero_le _
  | cons x l ih =>
    have hx := hs x (List.mem_cons_self)
    obtain ⟨a, b, rfl⟩ := List.append_of_mem hx
    have h2 := List.nodup_cons.1 h
    have := ih (l' := a ++ b) h2.2 (fun y hy => by
      have h3 := hs y (List.mem_cons_of_mem _ hy)
      have hne : y ≠ x := fun e => h2.1 (e ▸ hy)
      simp only [List.mem_append, List.mem_cons] at h3 ⊢
      rcases h3 with h3 | h3 | h3
      · exact .inl h3
      · exact absurd h3 hne
      · exact .inr h3)
    simp only [List.length_append, List.length_cons] at this ⊢
    omega
/-- What always holds of a keeper. -/
structure KInv (m : Nat) (s : KS) : Prop where
  pl : ∀ i : Nat, s.pool.testBit i = true → i < m
  sl : s.slots < 18446744073709551616
  all : ∀ i : Nat, i < 64 → s.slots.testBit i = true ∨ ∃ x ∈ s.held, x.1 = -1 - (i : Int)
  ok : ∀ x ∈ s.held, (0 ≤ x.1 ∧ x.1 < m ∧ s.pool.testBit x.1.toNat = false) ∨ (x.1 < 0 ∧ -64 ≤ x.1 ∧ s.slots.testBit (-1 - x.1).toNat = false)
  nd : (s.held.map (·.1)).Nodup
theorem KInv.places {m : Nat} {s : KS} (h : KInv m s) (hm : m ≤ 16) : ∀ x ∈ s.held, PlOk x := fun x hx => by
  rcases h.ok x hx with h1 | h1 <;> exact ⟨by omega, by omega⟩
theorem KInv.pool_lt {m : Nat} {s : KS} (h : KInv m s) (hm : m ≤ 16) : s.pool < 18446744073709551616 := by
  refine Nat.lt_pow_two_of_testBit (n := 64) _ fun i hi => ?_
  cases hb : s.pool.testBit i with
  | false => rfl
  | true => have := h.pl i hb; omega
theorem KInv.free {m : Nat} {s : KS} (h : KInv m s) (hm : m ≤ 16) (now : Int) : KInv m (freeK now s) := by
  have hg : ∀ x ∈ goneK now s.held, x ∈ s.held ∧ x.2 < now := fun x hx => by
    have := List.mem_filter.1 hx; exact ⟨this.1, of_decide_eq_true this.2⟩
  have hr : ∀ x ∈ restK now s.held, x ∈ s.held ∧ ¬ x.2 < now := fun x hx => by
    have := List.mem_filter.1 hx; exact ⟨this.1, by simpa using this.2⟩
  have hdis : ∀ x ∈ goneK now s.held, ∀ y ∈ restK now s.held, x.1 ≠ y.1 := fun x hx y hy e => by
    have h1 := hg x hx
    have h2 := hr y hy
    obtain ⟨i, hi⟩ := List.getElem?_of_mem h1.1
    obtain ⟨j, hj⟩ := List.getElem?_of_mem h2.1
    have e1 : (s.held.map (·.1))[i]? = some x.1 := by rw [List.getElem?_map, hi]; rfl
    have e2 : (s.held.map (·.1))[j]? = some y.1 := by rw [List.getElem?_map, hj]; rfl
    have hij : i = j := (List.getElem?_inj (List.getElem?_eq_some_iff.1 e1).1 h.nd).1 (by rw [e1, e2, e])
    rw [hij, hj] at hi
    have := Option.some.inj hi
    exact h2.2 (this ▸ h1.2)
  refine ⟨fun i hi => ?_, ?_, fun i hi => ?_, fun x hx => ?_, (h.nd.sublist (List.Sublist.map _ List.filter_sublist))⟩
  · have hi' : (relP s.pool (goneK now s.held)).testBit i = true := hi
    rw [relP_bit, Bool.or_eq_true, List.any_eq_true] at hi'
    rcases hi' with h1 | ⟨x, h1, h2⟩
    · exact h.pl i h1
    · have h3 := of_decide_eq_true h2
      rcases h.ok x (hg x h1).1 with h4 | h4 <;> omega
  · exact relS_lt h.sl fun x hx => h.places hm x (hg x hx).1
  · rcases h.all i hi with h1 | ⟨x, h1, h2⟩
    · exact .inl (by show (relS s.slots _).testBit i = true; rw [relS_bit, h1, Bool.true_or])
    · by_cases hlt : x.2 < now
      · refine .inl ?_
        show (relS s.slots _).testBit i = true
        rw [relS_bit, Bool.or_eq_true, List.any_eq_true]
        exact .inr ⟨x, List.mem_filter.2 ⟨h1, decide_eq_true hlt⟩, decide_eq_true h2⟩
      · exact .inr ⟨x, List.mem_filter.2 ⟨h1, by simpa using hlt⟩, h2⟩
  · have hx2 := hr x hx
    rcases h.ok x hx2.1 with h1 | h1
    · refine .inl ⟨h1.1, h1.2.1, ?_⟩
      show (relP s.pool _).testBit x.1.toNat = false
      rw [relP_bit, h1.2.2, Bool.false_or, List.any_eq_false]
      intro y hy
      have := hdis y hy x hx
      simp; omega
    · refine .inr ⟨h1.1, h1.2.1, ?_⟩
      show (relS s.slots _).testBit (-1 - x.1).toNat = false
      rw [relS_bit, h1.2.2, Bool.false_or, List.any_eq_false]
      intro y hy
      have := hdis y hy x hx
      simp; omega
theorem KInv.some_slot {m : Nat} {s : KS} (h : KInv m s) (hl : s.held.length < 64) : s.slots ≠ 0 := fun h0 => by
  have hn : ((List.range 64).map fun i : Nat => -1 - (i : Int)).Nodup := by decide
  have := nodup_le (l' := s.held.map (·.1)) hn (fun x hx => by
    obtain ⟨i, hi, rfl⟩ := List.mem_map.1 hx
    rcases h.all i (List.mem_range.1 hi) with h1 | ⟨x, h1, h2⟩
    · rw [h0] at h1; simp at h1
    · exact List.mem_map.2 ⟨x, h1, h2⟩)
  simp at this
  omega
/-- The place that is given out, and what stays. -/
theorem KInv.take {m : Nat} {s : KS} (h : KInv m s) (hm : m ≤ 16) (hl : s.held.length < 64) (un : Int) :
    KInv m (takeK un s) ∧ (∀ x ∈ s.held, x.1 ≠ placeK s) ∧ -64 ≤ placeK s ∧ placeK s < m := by
  have hs0 := h.some_slot hl
  by_cases hp : s.pool = 0
  · obtain ⟨b1, b2, b3⟩ := low_bit s.slots hs0 h.sl
    have ep : placeK s = -1 - (Lib.ctz 64 s.slots : Nat) := by unfold placeK; rw [if_pos hp]
    have et : takeK un s = ⟨s.pool, s.slots &&& (s.slots - 1), s.held ++ [(placeK s, un)]⟩ := by unfold takeK; rw [if_pos hp]
    generalize Lib.ctz 64 s.slots = q at *
    have hne : ∀ x ∈ s.held, x.1 ≠ placeK s := fun x hx e => by
      rw [ep] at e
      rcases h.ok x hx with h1 | h1
      · omega
      · rw [e, show (-1 - (-1 - (q : Int))).toNat = q by omega, b2] at h1
        exact absurd h1.2.2 (by decide)
    refine ⟨?_, hne, by rw [ep]; omega, by rw [ep]; omega⟩
    rw [et]
    refine ⟨h.pl, Nat.lt_of_le_of_lt Nat.and_le_left h.sl, fun i hi => ?_, fun x hx => ?_, ?_⟩
    · by_cases hiq : i = q
      · exact .inr ⟨(placeK s, un), List.mem_append_right _ (List.mem_singleton.2 rfl), by rw [ep, hiq]⟩
      · rcases h.all i hi with h1 | ⟨x, h1, h2⟩
        · exact .inl (by show (s.slots &&& (s.slots - 1)).testBit i = true; rw [b3, h1]; simp [hiq])
        · exact .inr ⟨x, List.mem_append_left _ h1, h2⟩
    · rcases List.mem_append.1 hx with h1 | h1
      · rcases h.ok x h1 with h2 | h2
        · exact .inl h2
        · exact .inr ⟨h2.1, h2.2.1, by show (s.slots &&& (s.slots - 1)).testBit _ = false; rw [b3, h2.2.2]; rfl⟩
      · obtain rfl := List.mem_singleton.1 h1
        refine .inr ⟨by show placeK s < 0; rw [ep]; omega, by show -64 ≤ placeK s; rw [ep]; omega, ?_⟩
        show (s.slots &&& (s.slots - 1)).testBit (-1 - placeK s).toNat = false
        rw [b3, ep, show (-1 - (-1 - (q : Int))).toNat = q by omega]; simp
    · rw [List.map_append, List.nodup_append]
      refine ⟨h.nd, by simp, fun x hx y hy => ?_⟩
      obtain ⟨z, hz, rfl⟩ := List.mem_map.1 hx
      simp at hy
      rw [hy]
      exact hne z hz
  · obtain ⟨b1, b2, b3⟩ := low_bit s.pool hp (h.pool_lt hm)
    have ep : placeK s = (Lib.ctz 64 s.pool : Nat) := by unfold placeK; rw [if_neg hp]
    have et : takeK un s = ⟨s.pool &&& (s.pool - 1), s.slots, s.held ++ [(placeK s, un)]⟩ := by unfold takeK; rw [if_neg hp]
    generalize Lib.ctz 64 s.pool = q at *
    have hqm := h.pl q b2
    have hne : ∀ x ∈ s.held, x.1 ≠ placeK s := fun x hx e => by
      rw [ep] at e
      rcases h.ok x hx with h1 | h1
      · rw [e, Int.toNat_natCast, b2] at h1
        exact absurd h1.2.2 (by decide)
      · omega
    refine ⟨?_, hne, by rw [ep]; omega, by rw [ep]; omega⟩
    rw [et]
    refine ⟨fun i hi => ?_, h.sl, fun i hi => ?_, fun x hx => ?_, ?_⟩
    · have hi' : (s.pool &&& (s.pool - 1)).testBit i = true := hi
      rw [b3, Bool.and_eq_true] at hi'
      exact h.pl i hi'.1
    · rcases h.all i hi with h1 | ⟨x, h1, h2⟩
      · exact .inl h1
      · exact .inr ⟨x, List.mem_append_left _ h1, h2⟩
    · rcases List.mem_append.1 hx with h1 | h1
      · rcases h.ok x h1 with h2 | h2
        · exact .inl ⟨h2.1, h2.2.1, by show (s.pool &&& (s.pool - 1)).testBit _ = false; rw [b3, h2.2.2]; rfl⟩
        · exact .inr h2
      · obtain rfl := List.mem_singleton.1 h1
        refine .inl ⟨by show 0 ≤ placeK s; rw [ep]; omega, by show placeK s < _; rw [ep]; omega, ?_⟩
        show (s.pool &&& (s.pool - 1)).testBit (placeK s).toNat = false
        rw [b3, ep, Int.toNat_natCast]; simp
    · rw [List.map_append, List.nodup_append]
      refine ⟨h.nd, by simp, fun x hx y hy => ?_⟩
      obtain ⟨z, hz, rfl⟩ := List.mem_map.1 hx
      simp at hy
      rw [hy]
      exact hne z hz
end Go.Proofs.YtppoiahhaclleaaDoor

/- The keeper at two spans, the first not over when the second begins. -/
namespace Go.Proofs.YtppoiahhaclleaaDoor
open Go.RowKit

theorem TzAt.chg {F : Nat → Prop} {w w' : World} (h : TzAt w) (hb : Chg F w w') (h0 : ¬ F 0) (hw : 0 < w.heap.size) : TzAt w' := fun j hj => by
  have := h j hj
  have hbl := hb.block 0 hw h0
  simp only [World.cell?, hbl] at this ⊢
  exact this
def stepP (P S : Nat → Nat) (pl : Nat → Int) (k : Nat) : Prop :=
  (P k ≠ 0 ∧ andV (P k) = (P (k + 1) : Int) ∧ S (k + 1) = S k ∧ pl k = (Lib.ctz 64 (P k) : Nat)) ∨ (P k = 0 ∧ P (k + 1) = P k ∧ andV (S k) = (S (k + 1) : Int) ∧ pl k = -1 - (Lib.ctz 64 (S k) : Nat))
/-- The keeper, so many given out. -/
structure KeptAt (kb go base B : Nat) (P S : Nat → Nat) (H : Nat → List (Int × Int)) (k : Nat) (w : World) : Prop where
  is : ∃ A c, KeepAt w kb (P k) (S k) (.slice A k c) ∧ w.ownsRow base 101 2 (.slice A k c) k (spV (H k))
  tz : TzAt w
  size : base ≤ w.heap.size
theorem KeptAt.below {kb go base B : Nat} {P S : Nat → Nat} {H : Nat → List (Int × Int)} {k : Nat} {w w' : World} (h : KeptAt kb go base B P S H k w) (hb : Below w.heap.size w w') (h0 : 0 < base) : KeptAt kb go base B P S H k w' := by
  obtain ⟨A, c, h1, h2⟩ := h.is
  have := h.size
  exact ⟨⟨A, c, h1.next hb, row_keep (fun q hq => hb.block q (own_lt h2 q hq).1) h2⟩, h.tz.next hb (by omega), Nat.le_trans h.size hb.size⟩
theorem KeptAt.store {kb go base B : Nat} {P S : Nat → Nat} {H : Nat → List (Int × Int)} {k : Nat} {w : World} (h : KeptAt kb go base B P S H k w) (hk : kb ≠ go) (hgo : go < base) (h0 : 0 < go) (x : Nat) (v : Value) : KeptAt kb go base B P S H k (w.setCell ⟨go, x, none⟩ v) := by
  obtain ⟨A, c, h1, h2⟩ := h.is
  refine ⟨⟨A, c, (Below.heap_setCell _ _ _ _ (fun e => hk e)).trans h1, row_keep (fun q hq => Below.heap_setCell _ _ _ _ (fun e => by have := (own_lt h2 q hq).2; simp only [] at e; omega)) h2⟩, ?_, ?_⟩
  · have hs := h.size
    refine TzAt.chg h.tz ((Chg.refl (fun j => j = go) w).setCell (p := ⟨go, x, none⟩) (.inl rfl) v) (fun e => ?_) (by omega)
    omega
  · exact Nat.le_trans h.size ((Chg.refl (fun j => j = go) w).setCell (p := ⟨go, x, none⟩) (.inl rfl) v).size
theorem own_cell {w : World} {base e g c : Nat} {a b : Int} (h : w.ownsRow base e 2 (.slice (some ⟨g, 0, none⟩) 1 c) 1 [.int .i64 a, .int .i64 b]) : w.cell? ⟨g, 1, none⟩ = some (.int .i64 b) := by
  rcases h.2 with ⟨h1, _⟩ | ⟨g', cap, cur, hv, hg, hh, hnc, hcm, hcs, htk⟩
  · cases h1
  · cases hv
    have h1 : (cur.toList.take 2)[1]? = some (.int .i64 b) := by rw [show 2 = 1 * 2 from rfl, htk]; rfl
    rw [List.getElem?_take_of_lt (by omega)] at h1
    simp only [World.cell?, hh]
    simpa using h1

theorem keeps_two {sp : List (Int × Int)} {pool : Nat} {pl : Nat → Int} (P S : Nat → Nat) (s0 s1 : Int × Int) (h0 : sp[0]? = some s0) (h1 : sp[1]? = some s1) (hP : P 0 = 2 ^ pool - 1) (hS : S 0 = 18446744073709551615)
    (hPS : ∀ k, P k < 18446744073709551616 ∧ S k < 18446744073709551616) (hst : ∀ k, k < 2 → stepP P S pl k) (hno : ¬ s0.2 < s1.1) : Keeps sp [0, 1] pool pl := by
  intro w kb gs g gb go B hk hT hB hBw hkB hd hl
  obtain ⟨H, hH0, hH1, hH2⟩ : ∃ H : Nat → List (Int × Int), H 0 = [] ∧ H 1 = [(pl 0, s0.2)] ∧ H 2 = [(pl 0, s0.2), (pl 1, s1.2)] := ⟨fun | 0 => [] | 1 => [(pl 0, s0.2)] | _ => [(pl 0, s0.2), (pl 1, s1.2)], rfl, rfl, rfl⟩
  have hkb := lt_of_block hk
  refine ⟨KeptAt kb go w.heap.size B P S H, ⟨⟨none, 0, by rw [hP, hS]; exact hk, by rw [hH0]; exact World.ownsRow_nil _ _ _ _⟩, hT, Nat.le_refl _⟩, ?_, ?_, fun k wr x v h => h.store hd.2.2.2 (by omega) (by omega) x v⟩
  · intro k q s hq hs wr h
    obtain ⟨A, c, hk1, hown⟩ := h.is
    have fin : ∀ w', Below wr.heap.size wr w' → KeptAt kb go w.heap.size B P S H k w' ∧ Chg (fun j => B ≤ j ∧ j ≠ gs ∧ j ≠ g ∧ j ≠ gb ∧ j ≠ go) wr w' := fun w' hb => ⟨h.below hb (by omega), .of_below hb⟩
    match k, hq with
    | 0, hq =>
      refine (free_zero s.1 wr hk1).mono ?_
      rintro e w' ⟨rfl, hb⟩
      exact ⟨rfl, fin w' hb⟩
    | 1, hq =>
      obtain rfl : q = 1 := by simp at hq; omega
      rw [h1] at hs
      cases hs
      rw [hH1] at hown
      obtain ⟨g', c', hv⟩ : ∃ g' c', Value.slice A 1 c = .slice (some ⟨g', 0, none⟩) 1 c' := by
        rcases hown.2 with ⟨_, h2⟩ | ⟨g', cap, cur, hv, _⟩
        · cases h2
        · exact ⟨g', cap, hv⟩
      cases hv
      refine (free_one s1.1 s0.2 wr hk1 (own_cell hown) hno).mono ?_
      rintro e w' ⟨rfl, hb⟩
      exact ⟨rfl, fin w' hb⟩
    | k + 2, hq => simp at hq
  · intro k q s hq hs wr h
    obtain ⟨A, c, hk1, hown⟩ := h.is
    have hsz := h.size
    have hne : (Value.slice A k c).ownBlock ≠ some kb := fun e => by have := (own_lt hown kb e).2; omega
    have hk2 : k < 2 := by
      rcases Nat.lt_or_ge k 2 with h' | h'
      · exact h'
      · rw [List.getElem?_eq_none (by simpa using h')] at hq; cases hq
    have hHl : (H k).length = k ∧ H (k + 1) = H k ++ [(pl k, s.2)] := by
      match k, hk2, hq with
      | 0, _, hq =>
        obtain rfl : q = 0 := by simp at hq; omega
        rw [h0] at hs; cases hs
        rw [hH0, hH1]; exact ⟨rfl, rfl⟩
      | 1, _, hq =>
        obtain rfl : q = 1 := by simp at hq; omega
        rw [h1] at hs; cases hs
        rw [hH1, hH2]; exact ⟨rfl, rfl⟩
    have fin : ∀ (p' s' : Nat) (e : Ending) (w' : World), p' = P (k + 1) → s' = S (k + 1) → Taken w.heap.size kb p' s' k (.slice A k c) (H k) (pl k) s.2 wr e w' → e = .returned (.int .i64 (pl k)) ∧ KeptAt kb go w.heap.size B P S H (k + 1) w' ∧ Chg (fun j => B ≤ j ∧ j ≠ gs ∧ j ≠ g ∧ j ≠ gb ∧ j ≠ go) wr w' := by
      rintro p' s' e w' rfl rfl t
      obtain ⟨A', c', t1, t2, t3⟩ := t.held
      have hch : Chg (fun j => B ≤ j ∧ j ≠ gs ∧ j ≠ g ∧ j ≠ gb ∧ j ≠ go) wr w' := t.chg.mono fun j hj hF => by
        rcases hF with rfl | hF
        · exact ⟨hkB, hd.1, hd.2.1, hd.2.2.1, hd.2.2.2⟩
        · have := (own_lt hown j hF).2
          exact ⟨by omega, by omega, by omega, by omega, by omega⟩
      refine ⟨t.is, ⟨⟨A', c', t1, by rw [hHl.2]; exact t2⟩, TzAt.chg h.tz hch (fun e => by have := e.1; omega) (by omega), Nat.le_trans hsz hch.size⟩, hch⟩
    rcases hst k hk2 with ⟨a1, a2, a3, a4⟩ | ⟨a1, a2, a3, a4⟩
    · refine (take_reg s.2 wr hk1 hown hne h.tz a1 (hPS k).1 (by omega) hHl.1 hsz a2).mono ?_
      intro e w' t
      rw [← a4] at t
      exact fin _ _ e w' rfl a3.symm t
    · refine (take_slot s.2 wr hk1 hown hne h.tz a1 (hPS k).2 (by omega) hHl.1 hsz a3).mono ?_
      intro e w' t
      rw [← a4] at t
      exact fin _ _ e w' a2.symm rfl t
end Go.Proofs.YtppoiahhaclleaaDoor

/- alloc.Build's loop over the order, over a keeper that is another behind each free. -/
namespace Go.Proofs.YtppoiahhaclleaaDoor
open Go.RowKit

set_option maxRecDepth 100000 in
set_option maxHeartbeats 4000000 in
theorem build_l2g {g n c gb gs m go kb B : Nat} {sp : List (Int × Int)} {ord : List Int} {rest : List Value} {O : Nat → List Int} {pl : Nat → Int} {St Sf : Nat → World → Prop} (w : World) (Q : Exit → Act → World → Prop) {u0 u1 u2 u3 u4 u5 u6 u7 u10 u11 u12 u14 u15 u16 u17 u18 u19 u20 u21 u22 u23 u24 u25 u26 u27 u28 u29 u30 u31 u32 u33 u34 u35 u36 u37 u38 u39 u40 u41 u42 u43 u44 u45 u46 u47 u48 u49 u50 u51 u52 u53 u54 u55 u56 u57 u58 u59 u63 u64 u65 u66 u67 u68 u69 u70 u71 u72 u73 u74 u75 u76 u77 u78 u79 u80 u81 u82 u83 u84 : Value} (hk : KeysAt w gb gs m sp) (ho : OrdAt w g ord rest) (he : EndsAt w go (O 0)) (hl : ord.length = n ∧ n ≤ 1000 ∧ m ≤ 1000) (hmem : ∀ x ∈ ord, 0 ≤ x ∧ x < (m : Int)) (hs : St 0 w)
    (hfree : ∀ (k q : Nat) (s : Int × Int), ord[k]? = some (q : Int) → sp[q]? = some s → ∀ wr, St k wr → Calls Tryd.prog 37 #[.pointer (some ⟨kb, 0, none⟩), .int .i64 s.1] wr fun e w' => e = .returned (.tuple #[]) ∧ Sf k w' ∧ Chg (fun j => B ≤ j ∧ j ≠ gs ∧ j ≠ g ∧ j ≠ gb ∧ j ≠ go) wr w')
    (htake : ∀ (k q : Nat) (s : Int × Int), ord[k]? = some (q : Int) → sp[q]? = some s → ∀ wr, Sf k wr → Calls Tryd.prog 38 #[.pointer (some ⟨kb, 0, none⟩), .int .i64 s.2] wr fun e w' => e = .returned (.int .i64 (pl k)) ∧ St (k + 1) w' ∧ Chg (fun j => B ≤ j ∧ j ≠ gs ∧ j ≠ g ∧ j ≠ gb ∧ j ≠ go) wr w')
    (hO : ∀ k : Nat, (O k).length = m ∧ ∀ q : Nat, ord[k]? = some (q : Int) → O (k + 1) = (O k).set q (pl k)) (hg : B ≤ go ∧ go ≠ gs ∧ go ≠ g ∧ go ≠ gb) (hst : ∀ k wr x v, St k wr → St k (wr.setCell ⟨go, x, none⟩ v))
    (k1 : ∀ (v15 v62 v63 v64 v65 v66 v67 v68 v69 v70 v71 v72 v73 v74 v75 v76 v77 v78 v79 v80 v81 v82 v83 : Value) (w' : World), Chg (fun j => B ≤ j ∧ j ≠ gs ∧ j ≠ g ∧ j ≠ gb) w w' ∧ EndsAt w' go (O n) ∧ St n w' → Q (.exit 2) ⟨#[u0, u1, u2, u3, u4, u5, u6, u7, .pointer (some ⟨gb, 0, none⟩), .slice (some ⟨go, 0, none⟩) m m, u10, u11, u12, .pointer (some ⟨kb, 0, none⟩), u14, v15, u16, u17, u18, u19, u20, u21, u22, u23, u24, u25, u26, u27, u28, u29, u30, u31, u32, u33, u34, u35, u36, u37, u38, u39, u40, u41, u42, u43, u44, u45, u46, u47, u48, u49, u50, u51, u52, u53, u54, u55, u56, u57, u58, u59, .slice (some ⟨g, 0, none⟩) n c, .int .i64 (n : Nat), v62, v63, v64, v65, v66, v67, v68, v69, v70, v71, v72, v73, v74, v75, v76, v77, v78, v79, v80, v81, v82, v83, u84], []⟩ w') : (partL Tryd.f13 2).wp Tryd.prog Q ⟨#[u0, u1, u2, u3, u4, u5, u6, u7, .pointer (some ⟨gb, 0, none⟩), .slice (some ⟨go, 0, none⟩) m m, u10, u11, u12, .pointer (some ⟨kb, 0, none⟩), u14, u15, u16, u17, u18, u19, u20, u21, u22, u23, u24, u25, u26, u27, u28, u29, u30, u31, u32, u33, u34, u35, u36, u37, u38, u39, u40, u41, u42, u43, u44, u45, u46, u47, u48, u49, u50, u51, u52, u53, u54, u55, u56, u57, u58, u59, .slice (some ⟨g, 0, none⟩) n c, .int .i64 (n : Nat), .int .i64 0, u63, u64, u65, u66, u67, u68, u69, u70, u71, u72, u73, u74, u75, u76, u77, u78, u79, u80, u81, u82, u83, u84], []⟩ w := by
  have hn1 := hl.2.1
  have hm1 := hl.2.2
  have HK := Lib.hid hk
  have HO := Lib.hid ho
  have HE := Lib.hid he
  have HL := Lib.hid hl
  have HM := Lib.hid hmem
  have HS := Lib.hid hs
  have HFR := Lib.hid hfree
  have HTK := Lib.hid htake
  have HOO := Lib.hid hO
  have HG := Lib.hid hg
  have HST := Lib.hid hst
  have K1 := Lib.hid k1
  clear hk ho he hl hmem hs hfree htake hO hg hst k1
  conv => arg 2; whnf
  go_wp2
  go_loopw [62] (fun j wr => ∃ k : Nat, k ≤ n ∧ j = .int .i64 k ∧ Hid (Chg (fun j => B ≤ j ∧ j ≠ gs ∧ j ≠ g ∧ j ≠ gb) w wr ∧ EndsAt wr go (O k) ∧ St k wr)) (fun j _ => n - (intOf j).toNat)
  case atStart => exact ⟨0, by omega, rfl, Lib.hid ⟨Chg.refl _ _, HE.out, HS.out⟩⟩
  case round =>
    clear HE HS
    obtain ⟨k, hk, rfl, HJ⟩ := hrel
    by_cases hlt : k < n
    · obtain ⟨x, hx⟩ : ∃ s, ord[k]? = some s := ⟨_, List.getElem?_eq_getElem (by have := HL.out.1; omega)⟩
      have mx := HM.out x (List.mem_of_getElem? hx)
      obtain ⟨q, hq⟩ : ∃ q : Nat, q = x.toNat := ⟨_, rfl⟩
      obtain rfl : x = (q : Int) := by omega
      obtain ⟨s, hs⟩ : ∃ s, sp[q]? = some s := ⟨_, List.getElem?_eq_getElem (by have := HK.out.len; omega)⟩
      have HC := Lib.hid (And.intro (HFR.out k q s hx hs) (HTK.out k q s hx hs))
      have HKr := Lib.hid (KeysAt.chg HK.out HJ.out.1 (by have := HG.out; intro h; exact h.2.2.2 rfl) (by intro h; exact h.2.1 rfl))
      have hc0 := (OrdAt.chg HO.out HJ.out.1 (by intro h; exact h.2.2.1 rfl)).cell hx
      have hb0 := HKr.out.box
      have hb1 := (HKr.out.cell2 hs).1
      have HXS := Lib.hid (And.intro hx hs)
      have HC1 := Lib.hid (HC.out.1 wr HJ.out.2.2)
      obtain ⟨s0, h0⟩ : ∃ x, s.1 = x := ⟨_, rfl⟩
      obtain ⟨s1, h1⟩ : ∃ x, s.2 = x := ⟨_, rfl⟩
      rw [h0] at HC1 hb1
      have HSS := Lib.hid (And.intro h0 h1)
      have i0 : (0 : Int) ≤ (k : Int) := by omega
      have i1 : (k : Int) < (n : Int) := by omega
      have j0 : (0 : Int) ≤ (q : Int) := by omega
      have j1 : (q : Int) < (m : Int) := by omega
      have HQ := Lib.hid hq
      clear hx hs mx hq h0 h1
      go_upto_region 21 with ((with_reducible refine (HC1.out).mono ?_); rintro e w1 ⟨rfl, hst1, hch1⟩; have H1 := Lib.hid (And.intro hst1 hch1); clear hst1 hch1)
      clear hc0 hb0 hb1
      have HK1 := Lib.hid (KeysAt.chg HKr.out H1.out.2 (by intro h; exact h.2.2.2.1 rfl) (by intro h; exact h.2.1 rfl))
      have HC2 := HC.out.2 w1 H1.out.1
      rw [HSS.out.2] at HC2
      have HC3 := Lib.hid HC2
      clear HC2
      have hb0 := HK1.out.box
      have hb2 := (HK1.out.cell2 HXS.out.2).2
      rw [HSS.out.2] at hb2
      obtain ⟨pv, hpv⟩ : ∃ x, pl k = x := ⟨_, rfl⟩
      rw [hpv] at HC3
      have HPV := Lib.hid hpv
      clear hpv
      go_wp2_with ((with_reducible refine (HC3.out).mono ?_); rintro e w2 ⟨rfl, hst2, hch2⟩; have H2 := Lib.hid (And.intro hst2 hch2); clear hst2 hch2; have HE2 := Lib.hid (EndsAt.chg (EndsAt.chg HJ.out.2.1 H1.out.2 (by intro h; exact h.2.2.2.2 rfl)) H2.out.2 (by intro h; exact h.2.2.2.2 rfl)); have hlo : q < (O k).length := (by rw [(HOO.out k).1]; omega); have c9 : w2.cell? ⟨go, q, none⟩ = some (.int .i64 ((O k)[q])) := HE2.out.cell (List.getElem?_eq_getElem hlo); have f9 := frozen_row HE2.out q)
      go_roundw
      case rel =>
        have hok := (HOO.out k).2 q HXS.out.1
        refine ⟨k + 1, by omega, by go_num, Lib.hid ⟨?_, ?_, HST.out _ _ _ _ H2.out.1⟩⟩
        · exact ((HJ.out.1.trans (H1.out.2.mono fun j _ h => ⟨h.1, h.2.1, h.2.2.1, h.2.2.2.1⟩)).trans (H2.out.2.mono fun j _ h => ⟨h.1, h.2.1, h.2.2.1, h.2.2.2.1⟩)).setCell (.inl HG.out) _
        · rw [hok, HPV.out]
          exact HE2.out.set q pv
      case measure => simp [intOf]; omega
    · have hkn : k = n := by omega
      subst hkn
      go_wp2
      exact K1.out _ _ _ _ _ _ _ _ _ _ _ _ _ _ _ _ _ _ _ _ _ _ _ _ ⟨HJ.out.1, HJ.out.2.1, HJ.out.2.2⟩
end Go.Proofs.YtppoiahhaclleaaDoor

/- The keeper of whatever program. -/
namespace Go.Proofs.YtppoiahhaclleaaDoor
open Go.RowKit

/-- A keeper that gives these places out, another behind each free. -/
def KeepsG (sp : List (Int × Int)) (ord : List Int) (pool : Nat) (pl : Nat → Int) : Prop :=
  ∀ (w : World) (kb gs g gb go B : Nat), KeepAt w kb (2 ^ pool - 1) 18446744073709551615 (.slice none 0 0) → TzAt w → 0 < B → B ≤ w.heap.size → B ≤ kb → (kb ≠ gs ∧ kb ≠ g ∧ kb ≠ gb ∧ kb ≠ go) → (gs < w.heap.size ∧ g < w.heap.size ∧ gb < w.heap.size ∧ go < w.heap.size ∧ B ≤ go) →
    ∃ St Sf : Nat → World → Prop, St 0 w ∧
    (∀ (k q : Nat) (s : Int × Int), ord[k]? = some (q : Int) → sp[q]? = some s → ∀ wr, St k wr → Calls Tryd.prog 37 #[.pointer (some ⟨kb, 0, none⟩), .int .i64 s.1] wr fun e w' => e = .returned (.tuple #[]) ∧ Sf k w' ∧ Chg (fun j => B ≤ j ∧ j ≠ gs ∧ j ≠ g ∧ j ≠ gb ∧ j ≠ go) wr w') ∧
    (∀ (k q : Nat) (s : Int × Int), ord[k]? = some (q : Int) → sp[q]? = some s → ∀ wr, Sf k wr → Calls Tryd.prog 38 #[.pointer (some ⟨kb, 0, none⟩), .int .i64 s.2] wr fun e w' => e = .returned (.int .i64 (pl k)) ∧ St (k + 1) w' ∧ Chg (fun j => B ≤ j ∧ j ≠ gs ∧ j ≠ g ∧ j ≠ gb ∧ j ≠ go) wr w') ∧
    (∀ k wr x v, St k wr → St k (wr.setCell ⟨go, x, none⟩ v))
theorem kinv_start {pool : Nat} : KInv pool ⟨2 ^ pool - 1, 18446744073709551615, []⟩ := by
  refine ⟨fun i hi => ?_, (show (18446744073709551615 : Nat) < 18446744073709551616 from by omega), fun i hi => .inl ?_, (fun x hx => by cases hx), List.nodup_nil⟩
  · have hi' : (2 ^ pool - 1).testBit i = true := hi
    rw [Nat.testBit_two_pow_sub_one] at hi'
    exact of_decide_eq_true hi'
  · show (2 ^ 64 - 1).testBit i = true
    rw [Nat.testBit_two_pow_sub_one]
    exact decide_eq_true hi
theorem kinv {sp : List (Int × Int)} {ord : List Int} {pool : Nat} (hm : pool ≤ 16) : ∀ k, k ≤ 64 → KInv pool (keepS sp ord pool k) ∧ (keepS sp ord pool k).held.length ≤ k := by
  intro k
  induction k with
  | zero => exact fun _ => ⟨kinv_start, Nat.le_refl _⟩
  | succ k ih =>
    intro hk
    obtain ⟨h1, h2⟩ := ih (by omega)
    have hf := h1.free hm (spanAt sp ord k).1
    have hl : (freeK (spanAt sp ord k).1 (keepS sp ord pool k)).held.length ≤ k := Nat.le_trans (List.length_filter_le _ _) h2
    refine ⟨(hf.take hm (by omega) _).1, ?_⟩
    show (takeK _ _).held.length ≤ k + 1
    unfold takeK
    split <;> (rw [List.length_append]; simp; exact hl)
theorem and_pow (x : Nat) (h0 : x ≠ 0) (h : x < 18446744073709551616) : andV x = ((x &&& (x - 1) : Nat) : Int) := by
  unfold andV
  have e : IntKind.u64.wrap ((x : Int) - 1) = ((x - 1 : Nat) : Int) := by
    rw [IntKind.wrap_u64, show (x : Int) - 1 = ((x - 1 : Nat) : Int) by omega]
    have h3 : x - 1 < 18446744073709551616 := by omega
    exact Int.emod_eq_of_lt (Int.natCast_nonneg _) (Int.ofNat_lt.2 h3)
  rw [e]
  exact bits_and_u64_nat x (x - 1) h (by omega)
/-- What is held, as a value. -/
def HeldV (w : World) (B : Nat) (v : Value) (l : List (Int × Int)) : Prop :=
  (v = .slice none 0 0 ∧ l = []) ∨ ∃ g o c, v = .slice (some ⟨g, o, none⟩) l.length c ∧ B ≤ g ∧ HeldBlk w g o c l
/-- A keeper in memory. -/
def KMem (B kb : Nat) (s : KS) (w : World) : Prop :=
  ∃ (v : Value) (l : List (Int × Int)), l.Perm s.held ∧ KeepAt w kb s.pool s.slots v ∧ HeldV w B v l ∧ TzAt w ∧ B ≤ w.heap.size
theorem gone_perm {now : Int} {gone rest l h : List (Int × Int)} (hp : (gone ++ rest).Perm l) (hl : l.Perm h) (h1 : ∀ x ∈ gone, x.2 < now) (h2 : ∀ x ∈ rest, now ≤ x.2) : gone.Perm (goneK now h) ∧ rest.Perm (restK now h) := by
  have hh := hp.trans hl
  have a := hh.filter fun x => decide (x.2 < now)
  have b := hh.filter fun x => !decide (x.2 < now)
  rw [List.filter_append] at a b
  rw [List.filter_eq_self.2 (fun x hx => decide_eq_true (h1 x hx)), List.filter_eq_nil_iff.2 (fun x hx => by have := h2 x hx; simp; omega), List.append_nil] at a
  rw [List.filter_eq_nil_iff.2 (fun x hx => by have := h1 x hx; simp; omega), List.filter_eq_self.2 (fun x hx => by have := h2 x hx; simp; omega), List.nil_append] at b
  exact ⟨a, b⟩
theorem kfree {B kb m : Nat} {s : KS} (hi : KInv m s) (hm : m ≤ 16) (hl : s.held.length ≤ 64) (hkb : kb < B) (hkb0 : 0 < kb) (now : Int) (w : World) (h : KMem B kb s w) :
    Calls Tryd.prog 37 #[.pointer (some ⟨kb, 0, none⟩), .int .i64 now] w fun e w' => e = .returned (.tuple #[]) ∧ KMem B kb (freeK now s) w' ∧ Chg (fun j => j = kb ∨ B ≤ j) w w' := by
  obtain ⟨v, l, hp, hk, hv, hT, hB⟩ := h
  rcases hv with ⟨rfl, rfl⟩ | ⟨g, o, c, rfl, hg, hh⟩
  · refine (free_zero (k := kb) (c := 0) (A := none) now w hk).mono ?_
    rintro e w' ⟨rfl, hb⟩
    have he : s.held = [] := List.Perm.eq_nil (hp.symm)
    refine ⟨rfl, ⟨.slice none 0 0, [], ?_, ?_, .inl ⟨rfl, rfl⟩, hT.next hb (by omega), Nat.le_trans hB hb.size⟩, .of_below hb⟩
    · show List.Perm [] (restK now s.held); rw [he]; exact List.Perm.refl _
    · show KeepAt w' kb (relP s.pool (goneK now s.held)) (relS s.slots (goneK now s.held)) _
      rw [he]; exact hk.next hb
  · have hll : l.length ≤ 64 := by rw [hp.length_eq]; exact hl
    refine (free_any (n := l.length) (l := l) now w hk hh rfl (by omega) (by omega) (fun x hx => hi.places hm x (hp.mem_iff.1 hx)) (hi.pool_lt hm) hi.sl).mono ?_
    rintro e w' ⟨rfl, gone, rest, o', c', h1, h2, h3, h4, h5, h6⟩
    obtain ⟨p1, p2⟩ := gone_perm h1 hp h2 h3
    refine ⟨rfl, ⟨_, rest, p2, ?_, .inr ⟨g, o', c', rfl, hg, h5⟩, TzAt.chg hT h6 (fun e => by rcases e with e | e <;> omega) (by omega), Nat.le_trans hB h6.size⟩, h6.weak fun j hj => hj.elim .inl fun e => .inr (e ▸ hg)⟩
    show KeepAt w' kb (relP s.pool (goneK now s.held)) (relS s.slots (goneK now s.held)) _
    rw [← relP_perm p1, ← relS_perm p1]
    exact h4
theorem ktake {B kb m : Nat} {s : KS} (hi : KInv m s) (hm : m ≤ 16) (hl : s.held.length < 64) (hkb : kb < B) (hkb0 : 0 < kb) (un : Int) (w : World) (h : KMem B kb s w) :
    Calls Tryd.prog 38 #[.pointer (some ⟨kb, 0, none⟩), .int .i64 un] w fun e w' => e = .returned (.int .i64 (placeK s)) ∧ KMem B kb (takeK un s) w' ∧ Chg (fun j => j = kb ∨ B ≤ j) w w' := by
  obtain ⟨v, l, hp, hk, hv, hT, hB⟩ := h
  have hs0 := hi.some_slot hl
  have hp64 := hi.pool_lt hm
  have hkw : kb < w.heap.size := by omega
  have hll : l.length ≤ 1000 := by rw [hp.length_eq]; omega
  by_cases hp0 : s.pool = 0
  · have ep : placeK s = -1 - (Lib.ctz 64 s.slots : Nat) := by unfold placeK; rw [if_pos hp0]
    have et : takeK un s = ⟨s.pool, s.slots &&& (s.slots - 1), s.held ++ [(placeK s, un)]⟩ := by unfold takeK; rw [if_pos hp0]
    rw [et, ep]
    rcases hv with ⟨rfl, rfl⟩ | ⟨g, o, c, rfl, hg, hh⟩
    · refine (take_slot (base := B) (l := []) (A := none) (n := 0) (c := 0) un w hk (World.ownsRow_nil _ _ _ _) (fun e => by cases e) hT hp0 hi.sl (by omega) rfl hB (and_pow _ hs0 hi.sl)).mono ?_
      rintro e w' ⟨rfl, ⟨A, c, h1, h2, h3⟩, h4⟩
      obtain ⟨g, rfl, hg, hh⟩ := held_own (l := [] ++ [(-1 - ((Lib.ctz 64 s.slots : Nat) : Int), un)]) h2 rfl (by omega)
      have h4' : Chg (fun j => j = kb ∨ B ≤ j) w w' := h4.weak fun j hj => hj.elim .inl fun e => by cases e
      exact ⟨rfl, ⟨_, _, hp.append_right _, h1, .inr ⟨g, 0, c, rfl, hg, hh⟩, TzAt.chg hT h4' (fun e => by rcases e with e | e <;> omega) (by omega), Nat.le_trans hB h4'.size⟩, h4'⟩
    · refine (take_slot2 (B := B) (l := l) (n := l.length) un w hk hh (by omega) hg hT hp0 hi.sl hll rfl hB (and_pow _ hs0 hi.sl)).mono ?_
      rintro e w' ⟨rfl, ⟨g', o', c', h1, h2, h3, _⟩, h4⟩
      have h4' : Chg (fun j => j = kb ∨ B ≤ j) w w' := h4.weak fun j hj => hj.elim .inl fun e => .inr (e ▸ hg)
      exact ⟨rfl, ⟨_, _, hp.append_right _, h1, .inr ⟨g', o', c', by rw [List.length_append]; rfl, h3, h2⟩, TzAt.chg hT h4' (fun e => by rcases e with e | e <;> omega) (by omega), Nat.le_trans hB h4'.size⟩, h4'⟩
  · have ep : placeK s = (Lib.ctz 64 s.pool : Nat) := by unfold placeK; rw [if_neg hp0]
    have et : takeK un s = ⟨s.pool &&& (s.pool - 1), s.slots, s.held ++ [(placeK s, un)]⟩ := by unfold takeK; rw [if_neg hp0]
    rw [et, ep]
    rcases hv with ⟨rfl, rfl⟩ | ⟨g, o, c, rfl, hg, hh⟩
    · refine (take_reg (base := B) (l := []) (A := none) (n := 0) (c := 0) un w hk (World.ownsRow_nil _ _ _ _) (fun e => by cases e) hT hp0 hp64 (by omega) rfl hB (and_pow _ hp0 hp64)).mono ?_
      rintro e w' ⟨rfl, ⟨A, c, h1, h2, h3⟩, h4⟩
      obtain ⟨g, rfl, hg, hh⟩ := held_own (l := [] ++ [(((Lib.ctz 64 s.pool : Nat) : Int), un)]) h2 rfl (by omega)
      have h4' : Chg (fun j => j = kb ∨ B ≤ j) w w' := h4.weak fun j hj => hj.elim .inl fun e => by cases e
      exact ⟨rfl, ⟨_, _, hp.append_right _, h1, .inr ⟨g, 0, c, rfl, hg, hh⟩, TzAt.chg hT h4' (fun e => by rcases e with e | e <;> omega) (by omega), Nat.le_trans hB h4'.size⟩, h4'⟩
    · refine (take_reg2 (B := B) (l := l) (n := l.length) un w hk hh (by omega) hg hT hp0 hp64 hll rfl hB (and_pow _ hp0 hp64)).mono ?_
      rintro e w' ⟨rfl, ⟨g', o', c', h1, h2, h3, _⟩, h4⟩
      have h4' : Chg (fun j => j = kb ∨ B ≤ j) w w' := h4.weak fun j hj => hj.elim .inl fun e => .inr (e ▸ hg)
      exact ⟨rfl, ⟨_, _, hp.append_right _, h1, .inr ⟨g', o', c', by rw [List.length_append]; rfl, h3, h2⟩, TzAt.chg hT h4' (fun e => by rcases e with e | e <;> omega) (by omega), Nat.le_trans hB h4'.size⟩, h4'⟩
theorem keeps_all {sp : List (Int × Int)} {ord : List Int} {pool : Nat} (hm : pool ≤ 16) (hl : ord.length ≤ 64) : KeepsG sp ord pool (plK sp ord pool) := by
  intro w kb gs g gb go B hk hT hB0 hB hkb hne hlt
  have hkw := lt_of_block hk
  have hat : ∀ (k q : Nat) (s : Int × Int), ord[k]? = some (q : Int) → sp[q]? = some s → spanAt sp ord k = s ∧ k < 64 := fun k q s h1 h2 => by
    refine ⟨?_, by have := (List.getElem?_eq_some_iff.1 h1).1; omega⟩
    unfold spanAt
    rw [List.getD_eq_getElem?_getD, List.getD_eq_getElem?_getD, h1]
    show (sp[(q : Int).toNat]?).getD _ = s
    rw [Int.toNat_natCast, h2]
    rfl
  have hch : ∀ {a b : World}, Chg (fun j => j = kb ∨ w.heap.size ≤ j) a b → Chg (fun j => B ≤ j ∧ j ≠ gs ∧ j ≠ g ∧ j ≠ gb ∧ j ≠ go) a b := fun h => h.weak fun j hj => by
    rcases hj with rfl | hj
    · exact ⟨hkb, hne.1, hne.2.1, hne.2.2.1, hne.2.2.2⟩
    · omega
  refine ⟨fun k wr => KMem w.heap.size kb (keepS sp ord pool k) wr, fun k wr => KMem w.heap.size kb (freeK (spanAt sp ord k).1 (keepS sp ord pool k)) wr, ⟨_, [], List.Perm.refl _, hk, .inl ⟨rfl, rfl⟩, hT, Nat.le_refl _⟩, ?_, ?_, ?_⟩
  · intro k q s h1 h2 wr hst
    obtain ⟨e1, e2⟩ := hat k q s h1 h2
    have hi := kinv (sp := sp) (ord := ord) hm k (by omega)
    refine (kfree hi.1 hm (by omega) hkw (by omega) s.1 wr hst).mono ?_
    rintro e w' ⟨rfl, h3, h4⟩
    exact ⟨rfl, by show KMem _ _ (freeK (spanAt sp ord k).1 _) w'; rw [e1]; exact h3, hch h4⟩
  · intro k q s h1 h2 wr hst
    obtain ⟨e1, e2⟩ := hat k q s h1 h2
    have hi := kinv (sp := sp) (ord := ord) hm k (by omega)
    have hl2 : (freeK (spanAt sp ord k).1 (keepS sp ord pool k)).held.length < 64 := Nat.lt_of_le_of_lt (List.length_filter_le _ _) (by omega)
    refine (ktake (hi.1.free hm _) hm hl2 hkw (by omega) s.2 wr hst).mono ?_
    rintro e w' ⟨rfl, h3, h4⟩
    exact ⟨rfl, by show KMem _ _ (takeK (spanAt sp ord k).2 _) w'; rw [e1]; rw [e1] at h3; exact h3, hch h4⟩
  · intro k wr x v ⟨u, l, h1, h2, h3, h4, h5⟩
    have hc : Chg (fun j => j = go) wr (wr.setCell ⟨go, x, none⟩ v) := (Chg.refl (fun j => j = go) wr).setCell (p := ⟨go, x, none⟩) (.inl rfl) v
    refine ⟨u, l, h1, h2.chg hc hne.2.2.2, ?_, TzAt.chg h4 hc (by omega) (by omega), Nat.le_trans h5 hc.size⟩
    rcases h3 with h3 | ⟨g', o, c, e, hg, hh⟩
    · exact .inl h3
    · exact .inr ⟨g', o, c, e, hg, hh.chg hc (by omega)⟩
end Go.Proofs.YtppoiahhaclleaaDoor

/- alloc.Build, of whatever program and pool that may be. -/
namespace Go.Proofs.YtppoiahhaclleaaDoor
open Go.RowKit

set_option maxRecDepth 100000 in
set_option maxHeartbeats 8000000 in
theorem Build_all (p : LP) (Ab Ao : Option Addr) (nb cb no co n pool : Nat) (w : World) (hp : ProgAt w (fun k => k < w.heap.size) [.int .i64 p.regs, .slice Ab nb cb, .slice Ao no co] p) (h0 : (checkF p 64).2 = 0) (hn : p.regs = n) (hpl : pool ≤ 16)
    (hT : TzAt w) :
    Calls Tryd.prog 13 #[.agg #[.int .i64 p.regs, .slice Ab nb cb, .slice Ao no co], .int .i64 (pool : Nat)] w fun e w' => ∃ (go : Nat) (ord : List Int), e = .returned (.tuple #[.slice (some ⟨go, 0, none⟩) n n, .int .i64 0]) ∧ w.heap.size ≤ go ∧ ord.Perm (ordTo (spansF p) n) ∧ Srt (keyF (spansF p)) ord ∧
      EndsAt w' go (OF ord (plK (spansF p) ord pool) n (ordTo (spansF p) n).length) ∧ Below w.heap.size w w' := by
  obtain ⟨W, hW, hbW, hzW, hl_, hr_⟩ := boxed w #[.int .i64 p.regs, .slice Ab nb cb, .slice Ao no co] 25
  have c0 : W.cell? ⟨w.heap.size, 0, none⟩ = some (.int .i64 p.regs) := by rw [hl_]; rfl
  have c1 : W.cell? ⟨w.heap.size, 1, none⟩ = some (.slice Ab nb cb) := by rw [hl_]; rfl
  have c2 : W.cell? ⟨w.heap.size, 2, none⟩ = some (.slice Ao no co) := by rw [hl_]; rfl
  have hp1 := prog_next hp hbW
  have HC := Lib.hid (check_any p Ab Ao nb cb no co W hp1)
  have HSP := Lib.hid (fun wr (hb : Below W.heap.size W wr) => spans_any p Ab Ao nb cb no co n wr (prog_next hp1 hb) h0 hn)
  have HW := Lib.hid hW
  have HB := Lib.hid hbW
  have hn64 : n ≤ 64 := by have := (head_ok (check_run h0).1); omega
  have HLEN := Lib.hid (show (spansF p).length = n by rw [spans_len, hn]; rfl)
  have HT := Lib.hid hT
  have HW0 := Lib.hid (show 0 < w.heap.size from by
    have := hT 0 (by decide)
    have := lt_cell this
    exact this)
  have HRG := Lib.hid hn
  obtain ⟨sp, hsp⟩ : ∃ sp, spansF p = sp := ⟨_, rfl⟩
  rw [hsp] at HSP HLEN ⊢
  obtain ⟨x, hx⟩ : ∃ x, (checkF p 64).1 = x := ⟨_, rfl⟩
  rw [hx, h0] at HC
  rw [hn] at c0 HC
  simp only [hn] at HSP
  have d1 : decide ((pool : Int) < 0) = false := decide_eq_false (by omega)
  have d2 : decide ((16 : Int) < (pool : Int)) = false := decide_eq_false (by omega)
  have d3 : ¬ 16 < pool := by omega
  have hlt : w.heap.size < W.heap.size := by omega
  have HLT := Lib.hid hlt
  clear hW hbW hzW hl_ hr_ hp hp1 hx h0 hn hT hlt hsp
  go_enter Tryd.func13, Tryd.ntmps13
  go_upto_region 1 with fail
  rw [← HW.out]
  go_upto_region 6 with ((with_reducible refine (HC.out).mono ?_); rintro e w1 ⟨rfl, hb1⟩; have HB1 := Lib.hid hb1; clear hb1)
  have HSP1 := Lib.hid (HSP.out w1 HB1.out)
  have e0 := (HB1.out.cell (p := ⟨w.heap.size, 0, none⟩) HLT.out).trans c0
  have e1 := (HB1.out.cell (p := ⟨w.heap.size, 1, none⟩) HLT.out).trans c1
  have e2 := (HB1.out.cell (p := ⟨w.heap.size, 2, none⟩) HLT.out).trans c2
  have HE0 := Lib.hid e0
  clear c0 c1 c2
  go_upto_region 7 with ((with_reducible refine (HSP1.out).mono ?_); rintro e w2 ⟨gs, rfl, hgs, hsp, hb2⟩; have HS2 := Lib.hid (And.intro hgs (And.intro hsp hb2)); clear hgs hsp hb2 e0 e1 e2)
  obtain ⟨gb, hgb⟩ : ∃ q, w2.heap.size = q := ⟨_, rfl⟩
  obtain ⟨W3, hW3⟩ : ∃ q, q = w2.alloc (.cells #[.slice (some ⟨gs, 0, none⟩) n n] 66) := ⟨_, rfl⟩
  rw [← hW3, hgb]
  have hb3 : Below w2.heap.size w2 W3 := by rw [hW3]; exact (Below.refl _ _).alloc (Nat.le_refl _) _
  have hz3 : W3.heap.size = gb + 1 := by rw [hW3, ← hgb]; simp
  have h3 : W3.heap[gb]? = some (.cells #[.slice (some ⟨gs, 0, none⟩) n n] 66 (0, 0)) := by rw [hW3, ← hgb]; exact heap_alloc_new w2 _
  have HK3 := Lib.hid (show KeysAt W3 gb gs n sp from ⟨by simp only [World.cell?, h3]; rfl, HS2.out.2.1.next hb3, HLEN.out⟩)
  have HGS := Lib.hid (show w1.heap.size ≤ gs ∧ gs < gb from ⟨HS2.out.1, by have := lt_of_block HS2.out.2.1; omega⟩)
  have HBW3 := Lib.hid (show Below w.heap.size w W3 from HB.out.trans ((HB1.out.trans ((HS2.out.2.2.trans (hb3.mono HS2.out.2.2.size)).mono HB1.out.size)).mono HB.out.size))
  have HW1 := Lib.hid (show w.heap.size < w1.heap.size from Nat.lt_of_lt_of_le HLT.out HB1.out.size)
  have e3 : W3.cell? ⟨w.heap.size, 0, none⟩ = some (.int .i64 n) := by
    rw [((HS2.out.2.2.trans (hb3.mono HS2.out.2.2.size)).cell (p := ⟨w.heap.size, 0, none⟩) HW1.out)]
    exact HE0.out
  obtain ⟨go, hgo⟩ : ∃ q, W3.heap.size = q := ⟨_, rfl⟩
  have hmk := make_ints n (by omega) W3
  obtain ⟨W4, hW4⟩ : ∃ q, q = W3.alloc (.cells (intV (List.replicate n 0)).toArray 3) := ⟨_, rfl⟩
  have hb4 : Below W3.heap.size W3 W4 := by rw [hW4]; exact (Below.refl _ _).alloc (Nat.le_refl _) _
  have h4 : W4.heap[go]? = some (.cells (intV (List.replicate n 0)).toArray 3 (0, 0)) := by rw [hW4, ← hgo]; exact heap_alloc_new W3 _
  have hz4 : W4.heap.size = go + 1 := by rw [hW4, ← hgo]; simp
  rw [← hW4, hgo] at hmk
  have e4 : W4.cell? ⟨w.heap.size, 0, none⟩ = some (.int .i64 n) := (hb4.cell (p := ⟨w.heap.size, 0, none⟩) (by have := HGS.out; have := HW1.out; simp only []; omega)).trans e3
  obtain ⟨g0, hg0⟩ : ∃ q, W4.heap.size = q := ⟨_, rfl⟩
  have hmk2 := make_none n (by omega) W4
  obtain ⟨W5, hW5⟩ : ∃ q, q = W4.alloc (.cells (intV (List.replicate n 0)).toArray 3) := ⟨_, rfl⟩
  have hb5 : Below W4.heap.size W4 W5 := by rw [hW5]; exact (Below.refl _ _).alloc (Nat.le_refl _) _
  have h5 : W5.heap[g0]? = some (.cells (intV (List.replicate n 0)).toArray 3 (0, 0)) := by rw [hW5, ← hg0]; exact heap_alloc_new W4 _
  have hz5 : W5.heap.size = g0 + 1 := by rw [hW5, ← hg0]; simp
  rw [← hW5, hg0] at hmk2
  have HZ := Lib.hid (show gb + 1 = go ∧ go + 1 = g0 ∧ W5.heap.size = g0 + 1 ∧ W3.heap.size = go ∧ W4.heap.size = g0 from ⟨by omega, by omega, hz5, hgo, hg0⟩)
  have HK5 := Lib.hid (show KeysAt W5 gb gs n sp from (HK3.out.next hb4).next hb5)
  have HEO := Lib.hid (show EndsAt W5 go (List.replicate n 0) from (hb5.block go (lt_of_block h4)).trans h4)
  have HOWN := Lib.hid (own_none W5 g0 n (intV (List.replicate n 0)) (by simp [intV]) (by omega) h5)
  have HBW5 := Lib.hid (show Below w.heap.size w W5 from HBW3.out.trans ((hb4.trans (hb5.mono hb4.size)).mono HBW3.out.size))
  have b5 := HK5.out.box
  clear hW3 hb3 hz3 h3 hb4 h4 hz4 hW4 hb5 h5 hz5 hW5 hg0 hgo hgb
  go_upto_region 8 with fail
  clear hmk e3
  go_upto_region 9 with fail
  clear hmk2 e4
  go_wp2
  refine wp_code (c := partL Tryd.f13 0) (by kernel_rfl) ?_
  refine build_l0 (gs := gs) (base := g0) (sp := sp) _ _ HK5.out.row ⟨HLEN.out, by omega⟩ ⟨by have := HGS.out; have := HZ.out; omega, by have := HZ.out; omega⟩ HOWN.out ?_
  intro g c v11 v12 v40 v41 v42 v43 v44 v45 v46 v47 v48 v49 v50 v51 w6 hb6 hown6
  clear b5
  obtain ⟨rest, hor, hgg⟩ := own_ord hown6
  have HGG := Lib.hid hgg
  have HOR := Lib.hid hor
  have HB6 := Lib.hid hb6
  have HK6 := Lib.hid (show KeysAt w6 gb gs n sp from KeysAt.chg HK5.out (F := fun j => g0 ≤ j) ⟨hb6.os, hb6.tape, hb6.output, hb6.size, fun j _ hj => hb6.block j (Nat.lt_of_not_le hj)⟩ (show ¬ g0 ≤ gb by have := HGS.out; have := HZ.out; omega) (show ¬ g0 ≤ gs by have := HGS.out; have := HZ.out; omega))
  obtain ⟨ln, hln⟩ : ∃ q, (ordTo sp n).length = q := ⟨_, rfl⟩
  rw [hln]
  have hln0 : ln ≤ 64 := by rw [← hln]; exact Nat.le_trans (ord_len sp n) hn64
  have hln1 : ln ≤ 1000 := by omega
  have HSO := Lib.hid (SortStable_all (n := ln) (c := c) (l := ordTo sp n) w6 HOR.out hln HK6.out (by omega) (by omega) (fun x hx => ord_mem x hx) ⟨by have := HGS.out; have := HZ.out; omega, by have := HGS.out; have := HZ.out; omega⟩)
  have HLN := Lib.hid hln
  have HLN0 := Lib.hid hln0
  clear hb6 hown6 hor hgg hln
  go_upto_region 16 with ((with_reducible refine (HSO.out).mono ?_); rintro e w7 ⟨rfl, ord, hpm, hsr, h1, h2⟩; have H7 := Lib.hid (And.intro h1 h2); clear h1 h2; have HPM := Lib.hid hpm; have HSR := Lib.hid hsr; have HOL := Lib.hid (And.intro (show ord.length = ln by rw [hpm.length_eq]; exact HLN.out) (show ∀ x ∈ ord, 0 ≤ x ∧ x < (n : Int) from fun x hx => ord_mem x (hpm.mem_iff.1 hx))); clear hpm hsr)
  refine wp_code (c := partR Tryd.f13 16) (by kernel_rfl) ?_
  refine build_r16 (pool := pool) _ _ hpl ?_
  intro v55 v56 v57 v58 v59 w8 hw8
  have h7g : g < w7.heap.size := lt_of_block H7.out.1
  have hb8 : Below w7.heap.size w7 w8 := by rw [hw8]; exact (Below.refl _ _).alloc (Nat.le_refl _) _
  have hk8 : KeepAt w8 w7.heap.size (2 ^ pool - 1) 18446744073709551615 (.slice none 0 0) := by rw [hw8]; exact heap_alloc_new w7 _
  obtain ⟨kb, hkb⟩ : ∃ q, w7.heap.size = q := ⟨_, rfl⟩
  have hz8 : w8.heap.size = kb + 1 := by rw [hw8, ← hkb]; simp
  have hsz : W5.heap.size ≤ w6.heap.size ∧ w6.heap.size ≤ w7.heap.size := ⟨HB6.out.size, H7.out.2.size⟩
  have hall : w.heap.size < w1.heap.size ∧ w1.heap.size ≤ gs ∧ gs < gb ∧ gb < go ∧ go < g0 ∧ g0 ≤ g ∧ g < kb ∧ g0 < kb := by
    have := HZ.out; have := HGS.out; have := HGG.out; have := HW1.out
    omega
  have HALL := Lib.hid hall
  have HBW7 := Lib.hid (show Below w.heap.size w w7 from (HBW5.out.trans (HB6.out.mono (by omega))).trans (H7.out.2.below (B := w.heap.size) (fun j hj (e : j = g) => by omega) (Nat.le_trans HBW5.out.size hsz.1)))
  have HBW8 := Lib.hid (show Below w.heap.size w w8 from HBW7.out.trans (hb8.mono HBW7.out.size))
  have HK8 := Lib.hid (show KeysAt w8 gb gs n sp from (KeysAt.chg HK6.out H7.out.2 (by omega) (by omega)).next hb8)
  have HO8 := Lib.hid (show OrdAt w8 g ord rest from H7.out.1.next hb8)
  have HE8 := Lib.hid (show EndsAt w8 go (List.replicate n 0) from by
    have h6 : EndsAt w6 go (List.replicate n 0) := (HB6.out.block go (by omega)).trans HEO.out
    exact (hb8.block go (by omega)).trans (EndsAt.chg h6 H7.out.2 (by omega)))
  rw [hkb] at hk8 ⊢
  obtain ⟨St, Sf, hs0, hfr, htk, hst⟩ := keeps_all (sp := sp) (ord := ord) hpl (by rw [HOL.out.1]; exact HLN0.out) w8 kb gs g gb go w.heap.size hk8 (HT.out.next HBW8.out HW0.out) HW0.out HBW8.out.size (by omega) ⟨by omega, by omega, by omega, by omega⟩ ⟨by omega, by omega, by omega, by omega, by omega⟩
  have HST := Lib.hid (And.intro hs0 (And.intro hfr (And.intro htk hst)))
  clear hs0 hfr htk hst hall hsz hz8 hkb hk8 hb8 hw8 h7g
  go_wp2
  refine wp_code (c := partL Tryd.f13 2) (by kernel_rfl) ?_
  refine build_l2g (gs := gs) (m := n) (B := w.heap.size) (sp := sp) (ord := ord) (rest := rest) (O := OF ord (plK sp ord pool) n) (pl := plK sp ord pool) (St := St) (Sf := Sf) _ _ HK8.out HO8.out HE8.out ⟨HOL.out.1, hln1, by omega⟩ HOL.out.2 HST.out.1 HST.out.2.1 HST.out.2.2.1 (fun k => ⟨OF_len, fun q hq => by rw [OF, List.getD_eq_getElem?_getD, hq]; rfl⟩) ⟨by have := HALL.out; omega, by have := HALL.out; omega, by have := HALL.out; omega, by have := HALL.out; omega⟩ HST.out.2.2.2 ?_
  intro v15 v62 v63 v64 v65 v66 v67 v68 v69 v70 v71 v72 v73 v74 v75 v76 v77 v78 v79 v80 v81 v82 v83 w9 h9
  have H9 := Lib.hid h9
  clear h9
  go_wp2
  go_ret2
  refine ⟨go, ord, rfl, by have := HALL.out; omega, HPM.out, HSR.out, by first | exact H9.out.2.1 | (rw [HLN.out]; exact H9.out.2.1), HBW8.out.trans (H9.out.1.below (B := w.heap.size) (fun j hj e => by have := e.1; omega) HBW8.out.size)⟩
end Go.Proofs.YtppoiahhaclleaaDoor
