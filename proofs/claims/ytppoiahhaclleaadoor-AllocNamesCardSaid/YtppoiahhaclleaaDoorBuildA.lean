/- alloc.Build: its loops, over whatever keeper. -/
import Derived.Test.YtppoiahhaclleaaDoorKeep14
namespace Go.Proofs.YtppoiahhaclleaaDoor
open Go.RowKit

theorem EndsAt.chg {P : Nat → Prop} {w w' : World} {g : Nat} {E : List Int} (h : EndsAt w g E) (hb : Chg P w w') (h1 : ¬ P g) : EndsAt w' g E := (hb.block g (lt_of_block h) h1).trans h
theorem OrdAt.chg {P : Nat → Prop} {w w' : World} {g : Nat} {E : List Int} {r : List Value} (h : OrdAt w g E r) (hb : Chg P w w') (h1 : ¬ P g) : OrdAt w' g E r := (hb.block g (lt_of_block h) h1).trans h
theorem EndsAt.set {w : World} {g : Nat} {l : List Int} (h : EndsAt w g l) (k : Nat) (x : Int) : EndsAt (w.setCell ⟨g, k, none⟩ (.int .i64 x)) g (l.set k x) := by
  have := setCell_row h k (.int .i64 x)
  unfold EndsAt
  rw [this]
  unfold intV
  rw [List.map_set]
theorem KeysAt.cell2 {w : World} {gb gs n : Nat} {sp : List (Int × Int)} (h : KeysAt w gb gs n sp) {x : Nat} {s : Int × Int} (hs : sp[x]? = some s) : w.cell? ⟨gs, x * 2, none⟩ = some (.int .i64 s.1) ∧ w.cell? ⟨gs, x * 2 + 1, none⟩ = some (.int .i64 s.2) := h.row.cells hs
set_option maxRecDepth 100000 in
set_option maxHeartbeats 4000000 in
theorem build_l2 {g n c gb gs m go kb B : Nat} {sp : List (Int × Int)} {ord : List Int} {rest : List Value} {O : Nat → List Int} {pl : Nat → Int} {St : Nat → World → Prop} (w : World) (Q : Exit → Act → World → Prop) {u0 u1 u2 u3 u4 u5 u6 u7 u10 u11 u12 u14 u15 u16 u17 u18 u19 u20 u21 u22 u23 u24 u25 u26 u27 u28 u29 u30 u31 u32 u33 u34 u35 u36 u37 u38 u39 u40 u41 u42 u43 u44 u45 u46 u47 u48 u49 u50 u51 u52 u53 u54 u55 u56 u57 u58 u59 u63 u64 u65 u66 u67 u68 u69 u70 u71 u72 u73 u74 u75 u76 u77 u78 u79 u80 u81 u82 u83 u84 : Value} (hk : KeysAt w gb gs m sp) (ho : OrdAt w g ord rest) (he : EndsAt w go (O 0)) (hl : ord.length = n ∧ n ≤ 1000 ∧ m ≤ 1000) (hmem : ∀ x ∈ ord, 0 ≤ x ∧ x < (m : Int)) (hs : St 0 w)
    (hfree : ∀ (k q : Nat) (s : Int × Int), ord[k]? = some (q : Int) → sp[q]? = some s → ∀ wr, St k wr → Calls Tryd.prog 37 #[.pointer (some ⟨kb, 0, none⟩), .int .i64 s.1] wr fun e w' => e = .returned (.tuple #[]) ∧ St k w' ∧ Chg (fun j => B ≤ j ∧ j ≠ gs ∧ j ≠ g ∧ j ≠ gb ∧ j ≠ go) wr w')
    (htake : ∀ (k q : Nat) (s : Int × Int), ord[k]? = some (q : Int) → sp[q]? = some s → ∀ wr, St k wr → Calls Tryd.prog 38 #[.pointer (some ⟨kb, 0, none⟩), .int .i64 s.2] wr fun e w' => e = .returned (.int .i64 (pl k)) ∧ St (k + 1) w' ∧ Chg (fun j => B ≤ j ∧ j ≠ gs ∧ j ≠ g ∧ j ≠ gb ∧ j ≠ go) wr w')
    (hO : ∀ k : Nat, (O k).length = m ∧ ∀ q : Nat, ord[k]? = some (q : Int) → O (k + 1) = (O k).set q (pl k)) (hg : B ≤ go ∧ go ≠ gs ∧ go ≠ g ∧ go ≠ gb) (hst : ∀ k wr x v, St k wr → St k (wr.setCell ⟨go, x, none⟩ v))
    (k1 : ∀ (v15 v62 v63 v64 v65 v66 v67 v68 v69 v70 v71 v72 v73 v74 v75 v76 v77 v78 v79 v80 v81 v82 v83 : Value) (w' : World), Chg (fun j => B ≤ j ∧ j ≠ gs ∧ j ≠ g ∧ j ≠ gb) w w' ∧ EndsAt w' go (O n) ∧ St n w' → Q (.exit 2) ⟨#[u0, u1, u2, u3, u4, u5, u6, u7, .pointer (some ⟨gb, 0, none⟩), .slice (some ⟨go, 0, none⟩) m m, u10, u11, u12, .pointer (some ⟨kb, 0, none⟩), u14, v15, u16, u17, u18, u19, u20, u21, u22, u23, u24, u25, u26, u27, u28, u29, u30, u31, u32, u33, u34, u35, u36, u37, u38, u39, u40, u41, u42, u43, u44, u45, u46, u47, u48, u49, u50, u51, u52, u53, u54, u55, u56, u57, u58, u59, .slice (some ⟨g, 0, none⟩) n c, .int .i64 (n : Nat), v62, v63, v64, v65, v66, v67, v68, v69, v70, v71, v72, v73, v74, v75, v76, v77, v78, v79, v80, v81, v82, v83, u84], []⟩ w') : (partL Tryd.f13 2).wp Tryd.prog Q ⟨#[u0, u1, u2, u3, u4, u5, u6, u7, .pointer (some ⟨gb, 0, none⟩), .slice (some ⟨go, 0, none⟩) m m, u10, u11, u12, .pointer (some ⟨kb, 0, none⟩), u14, u15, u16, u17, u18, u19, u20, u21, u22, u23, u24, u25, u26, u27, u28, u29, u30, u31, u32, u33, u34, u35, u36, u37, u38, u39, u40, u41, u42, u43, u44, u45, u46, u47, u48, u49, u50, u51, u52, u53, u54, u55, u56, u57, u58, u59, .slice (some ⟨g, 0, none⟩) n c, .int .i64 (n : Nat), .int .i64 0, u63, u64, u65, u66, u67, u68, u69, u70, u71, u72, u73, u74, u75, u76, u77, u78, u79, u80, u81, u82, u83, u84], []⟩ w := by
  have hn1 := hl.2.1
  have hm1 := hl.2.2
  have HK := Lib.hid hk
  have HO := Lib.hid ho
  have HE := Lib.hid he
  have HL := Lib.hid hl
  have HM := Lib.hid hmem
  have HS := Lib.hid hs
  have HFR := Lib.hid hfree
  have HTK := Lib.hid htake
  have HOO := Lib.hid hO
  have HG := Lib.hid hg
  have HST := Lib.hid hst
  have K1 := Lib.hid k1
  clear hk ho he hl hmem hs hfree htake hO hg hst k1
  conv => arg 2; whnf
  go_wp2
  go_loopw [62] (fun j wr => ∃ k : Nat, k ≤ n ∧ j = .int .i64 k ∧ Hid (Chg (fun j => B ≤ j ∧ j ≠ gs ∧ j ≠ g ∧ j ≠ gb) w wr ∧ EndsAt wr go (O k) ∧ St k wr)) (fun j _ => n - (intOf j).toNat)
  case atStart => exact ⟨0, by omega, rfl, Lib.hid ⟨Chg.refl _ _, HE.out, HS.out⟩⟩
  case round =>
    clear HE HS
    obtain ⟨k, hk, rfl, HJ⟩ := hrel
    by_cases hlt : k < n
    · obtain ⟨x, hx⟩ : ∃ s, ord[k]? = some s := ⟨_, List.getElem?_eq_getElem (by have := HL.out.1; omega)⟩
      have mx := HM.out x (List.mem_of_getElem? hx)
      obtain ⟨q, hq⟩ : ∃ q : Nat, q = x.toNat := ⟨_, rfl⟩
      obtain rfl : x = (q : Int) := by omega
      obtain ⟨s, hs⟩ : ∃ s, sp[q]? = some s := ⟨_, List.getElem?_eq_getElem (by have := HK.out.len; omega)⟩
      have HC := Lib.hid (And.intro (HFR.out k q s hx hs) (HTK.out k q s hx hs))
      have HKr := Lib.hid (KeysAt.chg HK.out HJ.out.1 (by have := HG.out; intro h; exact h.2.2.2 rfl) (by intro h; exact h.2.1 rfl))
      have hc0 := (OrdAt.chg HO.out HJ.out.1 (by intro h; exact h.2.2.1 rfl)).cell hx
      have hb0 := HKr.out.box
      have hb1 := (HKr.out.cell2 hs).1
      have HXS := Lib.hid (And.intro hx hs)
      have HC1 := Lib.hid (HC.out.1 wr HJ.out.2.2)
      obtain ⟨s0, h0⟩ : ∃ x, s.1 = x := ⟨_, rfl⟩
      obtain ⟨s1, h1⟩ : ∃ x, s.2 = x := ⟨_, rfl⟩
      rw [h0] at HC1 hb1
      have HSS := Lib.hid (And.intro h0 h1)
      have i0 : (0 : Int) ≤ (k : Int) := by omega
      have i1 : (k : Int) < (n : Int) := by omega
      have j0 : (0 : Int) ≤ (q : Int) := by omega
      have j1 : (q : Int) < (m : Int) := by omega
      have HQ := Lib.hid hq
      clear hx hs mx hq h0 h1
      go_upto_region 21 with ((with_reducible refine (HC1.out).mono ?_); rintro e w1 ⟨rfl, hst1, hch1⟩; have H1 := Lib.hid (And.intro hst1 hch1); clear hst1 hch1)
      clear hc0 hb0 hb1
      have HK1 := Lib.hid (KeysAt.chg HKr.out H1.out.2 (by intro h; exact h.2.2.2.1 rfl) (by intro h; exact h.2.1 rfl))
      have HC2 := HC.out.2 w1 H1.out.1
      rw [HSS.out.2] at HC2
      have HC3 := Lib.hid HC2
      clear HC2
      have hb0 := HK1.out.box
      have hb2 := (HK1.out.cell2 HXS.out.2).2
      rw [HSS.out.2] at hb2
      obtain ⟨pv, hpv⟩ : ∃ x, pl k = x := ⟨_, rfl⟩
      rw [hpv] at HC3
      have HPV := Lib.hid hpv
      clear hpv
      go_wp2_with ((with_reducible refine (HC3.out).mono ?_); rintro e w2 ⟨rfl, hst2, hch2⟩; have H2 := Lib.hid (And.intro hst2 hch2); clear hst2 hch2; have HE2 := Lib.hid (EndsAt.chg (EndsAt.chg HJ.out.2.1 H1.out.2 (by intro h; exact h.2.2.2.2 rfl)) H2.out.2 (by intro h; exact h.2.2.2.2 rfl)); have hlo : q < (O k).length := (by rw [(HOO.out k).1]; omega); have c9 : w2.cell? ⟨go, q, none⟩ = some (.int .i64 ((O k)[q])) := HE2.out.cell (List.getElem?_eq_getElem hlo); have f9 := frozen_row HE2.out q)
      go_roundw
      case rel =>
        have hok := (HOO.out k).2 q HXS.out.1
        refine ⟨k + 1, by omega, by go_num, Lib.hid ⟨?_, ?_, HST.out _ _ _ _ H2.out.1⟩⟩
        · exact ((HJ.out.1.trans (H1.out.2.mono fun j _ h => ⟨h.1, h.2.1, h.2.2.1, h.2.2.2.1⟩)).trans (H2.out.2.mono fun j _ h => ⟨h.1, h.2.1, h.2.2.1, h.2.2.2.1⟩)).setCell (.inl HG.out) _
        · rw [hok, HPV.out]
          exact HE2.out.set q pv
      case measure => simp [intOf]; omega
    · have hkn : k = n := by omega
      subst hkn
      go_wp2
      exact K1.out _ _ _ _ _ _ _ _ _ _ _ _ _ _ _ _ _ _ _ _ _ _ _ _ ⟨HJ.out.1, HJ.out.2.1, HJ.out.2.2⟩
end Go.Proofs.YtppoiahhaclleaaDoor
