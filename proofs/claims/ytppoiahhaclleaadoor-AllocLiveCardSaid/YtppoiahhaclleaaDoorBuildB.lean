/- alloc.Build: the order is made. -/
import Derived.Test.YtppoiahhaclleaaDoorBuildA
namespace Go.Proofs.YtppoiahhaclleaaDoor
open Go.RowKit

def ordTo (sp : List (Int × Int)) (k : Nat) : List Int := ((List.range k).filter fun r => decide (0 ≤ (sp.getD r (-1, -1)).1)).map fun r : Nat => (r : Int)
theorem ord_yes {sp : List (Int × Int)} {k : Nat} {s : Int × Int} (h : sp[k]? = some s) (h0 : 0 ≤ s.1) : ordTo sp (k + 1) = ordTo sp k ++ [(k : Int)] := by
  unfold ordTo
  rw [List.range_succ, List.filter_append, List.map_append]
  congr 1
  simp [List.getD_eq_getElem?_getD, h, h0]
theorem ord_no {sp : List (Int × Int)} {k : Nat} {s : Int × Int} (h : sp[k]? = some s) (h0 : ¬ 0 ≤ s.1) : ordTo sp (k + 1) = ordTo sp k := by
  unfold ordTo
  rw [List.range_succ, List.filter_append, List.map_append]
  have : ([k].filter fun r => decide (0 ≤ (sp.getD r (-1, -1)).1)) = [] := by simp [List.getD_eq_getElem?_getD, h]; omega
  rw [this]; simp
theorem ord_len (sp : List (Int × Int)) (k : Nat) : (ordTo sp k).length ≤ k := by
  unfold ordTo
  rw [List.length_map]
  exact Nat.le_trans (List.length_filter_le _ _) (by simp)
theorem ord_mem {sp : List (Int × Int)} {k : Nat} : ∀ x ∈ ordTo sp k, 0 ≤ x ∧ x < (k : Int) := by
  intro x hx
  unfold ordTo at hx
  obtain ⟨r, hr, rfl⟩ := List.mem_map.1 hx
  have := List.mem_range.1 (List.mem_filter.1 hr).1
  exact ⟨by omega, by omega⟩
theorem own_ord {w : World} {base g n c : Nat} {l : List Int} (h : w.ownsRow base 3 1 (.slice (some ⟨g, 0, none⟩) n c) n (intV l)) : ∃ rest, OrdAt w g l rest ∧ base ≤ g := by
  rcases h.2 with ⟨h1, _⟩ | ⟨g', cap, cur, hv, hg, hh, hnc, hcm, hcs, htk⟩
  · cases h1
  · cases hv
    refine ⟨cur.toList.drop (n * 1), ?_, hg⟩
    unfold OrdAt
    rw [hh, ← htk, List.take_append_drop]
/-- An own row stays behind a block. -/
theorem own_some {w : World} {base e sz n : Nat} {v : Value} {xs : List Value} (h : w.ownsRow base e sz v n xs) (hv : v.ownBlock ≠ none) : ∃ g c, v = .slice (some ⟨g, 0, none⟩) n c := by
  rcases h.2 with ⟨rfl, _⟩ | ⟨g', cap, cur, hv, hg, hh, hnc, hcm, hcs, htk⟩
  · exact absurd rfl hv
  · exact ⟨g', cap, hv⟩
set_option maxRecDepth 100000 in
set_option maxHeartbeats 4000000 in
theorem build_l0 {gs n base g0 c0 : Nat} {sp : List (Int × Int)} (w : World) (Q : Exit → Act → World → Prop) {u0 u1 u2 u3 u4 u5 u6 u7 u8 u9 u11 u12 u13 u14 u15 u16 u17 u18 u19 u20 u21 u22 u23 u24 u25 u26 u27 u28 u29 u30 u31 u32 u33 u34 u35 u36 u37 u41 u42 u43 u44 u45 u46 u47 u48 u49 u50 u51 u52 u53 u54 u55 u56 u57 u58 u59 u60 u61 u62 u63 u64 u65 u66 u67 u68 u69 u70 u71 u72 u73 u74 u75 u76 u77 u78 u79 u80 u81 u82 u83 u84 : Value} (hsp : SpansAt w gs sp) (hn : sp.length = n ∧ n ≤ 1000) (hb : gs < base ∧ base ≤ w.heap.size) (hown : w.ownsRow base 3 1 (.slice (some ⟨g0, 0, none⟩) 0 c0) 0 (intV (ordTo sp 0)))
    (k1 : ∀ (g c : Nat), ∀ (v11 v12 v40 v41 v42 v43 v44 v45 v46 v47 v48 v49 v50 v51 : Value) (w' : World), Below base w w' → w'.ownsRow base 3 1 (.slice (some ⟨g, 0, none⟩) (ordTo sp n).length c) (ordTo sp n).length (intV (ordTo sp n)) →Q (.exit 0) ⟨#[u0, u1, u2, u3, u4, u5, u6, u7, u8, u9, .slice (some ⟨g, 0, none⟩) (ordTo sp n).length c, v11, v12, u13, u14, u15, u16, u17, u18, u19, u20, u21, u22, u23, u24, u25, u26, u27, u28, u29, u30, u31, u32, u33, u34, u35, u36, u37, .slice (some ⟨gs, 0, none⟩) n n, .int .i64 (n : Nat), v40, v41, v42, v43, v44, v45, v46, v47, v48, v49, v50, v51, u52, u53, u54, u55, u56, u57, u58, u59, u60, u61, u62, u63, u64, u65, u66, u67, u68, u69, u70, u71, u72, u73, u74, u75, u76, u77, u78, u79, u80, u81, u82, u83, u84], []⟩ w') : (partL Tryd.f13 0).wp Tryd.prog Q ⟨#[u0, u1, u2, u3, u4, u5, u6, u7, u8, u9, .slice (some ⟨g0, 0, none⟩) 0 c0, u11, u12, u13, u14, u15, u16, u17, u18, u19, u20, u21, u22, u23, u24, u25, u26, u27, u28, u29, u30, u31, u32, u33, u34, u35, u36, u37, .slice (some ⟨gs, 0, none⟩) n n, .int .i64 (n : Nat), .int .i64 0, u41, u42, u43, u44, u45, u46, u47, u48, u49, u50, u51, u52, u53, u54, u55, u56, u57, u58, u59, u60, u61, u62, u63, u64, u65, u66, u67, u68, u69, u70, u71, u72, u73, u74, u75, u76, u77, u78, u79, u80, u81, u82, u83, u84], []⟩ w := by
  have hn1 := hn.2
  have HSP := Lib.hid hsp
  have HN := Lib.hid hn
  have HB := Lib.hid hb
  have K1 := Lib.hid k1
  have HOW := Lib.hid hown
  clear hsp hn hb hown k1
  obtain ⟨j0, hie, hy0, hy1, hy2⟩ := info_parts infoI
  conv => arg 2; whnf
  go_wp2
  go_loopw [10, 40] (fun v j wr => ∃ (k g c ln : Nat), k ≤ n ∧ j = .int .i64 k ∧ v = .slice (some ⟨g, 0, none⟩) ln c ∧ Hid (ln = (ordTo sp k).length ∧ Below base w wr ∧ wr.ownsRow base 3 1 (.slice (some ⟨g, 0, none⟩) ln c) ln (intV (ordTo sp k)))) (fun _ j _ => n - (intOf j).toNat)
  case atStart => exact ⟨0, g0, c0, 0, by omega, rfl, rfl, Lib.hid ⟨rfl, Below.refl _ _, HOW.out⟩⟩
  case round =>
    clear HOW
    obtain ⟨k, g, c, ln, hk, rfl, rfl, HJ⟩ := hrel
    by_cases hlt : k < n
    · obtain ⟨s, hs⟩ : ∃ s, sp[k]? = some s := ⟨_, List.getElem?_eq_getElem (by have := HN.out.1; omega)⟩
      have HSr := Lib.hid (show SpansAt wr gs sp from (HJ.out.2.1.block gs HB.out.1).trans HSP.out)
      have hc := HSr.out.cells hs
      obtain ⟨W5, hW5⟩ : ∃ q, q = wr.alloc (.cells #[.int .i64 s.1, .int .i64 s.2] 68) := ⟨_, rfl⟩
      have hb5 : Below wr.heap.size wr W5 := by rw [hW5]; exact (Below.refl _ _).alloc (Nat.le_refl _) _
      have h5 : W5.heap[wr.heap.size]? = some (.cells #[.int .i64 s.1, .int .i64 s.2] 68 (0, 0)) := by rw [hW5]; exact heap_alloc_new wr _
      have z0 : W5.cell? ⟨wr.heap.size, 0, none⟩ = some (.int .i64 s.1) := by simp only [World.cell?, h5]; rfl
      have z1 : W5.cell? ⟨wr.heap.size, 1, none⟩ = some (.int .i64 s.2) := by simp only [World.cell?, h5]; rfl
      have HB5 := Lib.hid hb5
      have HW5 := Lib.hid hW5
      have hlv := live_any s W5
      obtain ⟨s0, h0⟩ : ∃ x, s.1 = x := ⟨_, rfl⟩
      obtain ⟨s1, h1⟩ : ∃ x, s.2 = x := ⟨_, rfl⟩
      rw [h0, h1] at hc hlv HW5
      rw [h0] at z0
      rw [h1] at z1
      have HLV := Lib.hid hlv
      have HS := Lib.hid (And.intro hs (And.intro h0 h1))
      have hc0 := hc.1
      have hc1 := hc.2
      have hln : ln ≤ 1000 := by have := ord_len sp k; have := HJ.out.1; have := HN.out.2; omega
      have hwr : base ≤ wr.heap.size := Nat.le_trans HB.out.2 (HJ.out.2.1.size)
      have i0 : (0 : Int) ≤ (k : Int) := by omega
      have i1 : (k : Int) < (n : Int) := by omega
      clear hs h0 h1 hc hW5 hb5 h5 hlv
      go_upto_region 12 with fail
      rw [← HW5.out]
      clear hc0 hc1
      cases d0 : decide (0 ≤ s0)
      · rw [d0] at HLV
        have HD := Lib.hid d0
        clear d0
        go_wp2_with ((with_reducible refine (HLV.out).mono ?_); rintro e w1 ⟨rfl, hb1⟩; have HB1 := Lib.hid (HB5.out.trans (hb1.mono HB5.out.size)); clear hb1)
        go_roundw
        case rel =>
          have ho : ordTo sp (k + 1) = ordTo sp k := ord_no HS.out.1 (by rw [HS.out.2.1]; exact of_decide_eq_false HD.out)
          exact ⟨k + 1, g, c, ln, by omega, by go_num, rfl, Lib.hid ⟨by rw [ho]; exact HJ.out.1, HJ.out.2.1.trans (HB1.out.mono hwr), by rw [ho]; exact row_keep (fun q hq => HB1.out.block q (own_lt HJ.out.2.2 q hq).1) HJ.out.2.2⟩⟩
        case measure => simp [intOf]; omega
      · rw [d0] at HLV
        have HD := Lib.hid d0
        clear d0
        go_upto_region 13 with ((with_reducible refine (HLV.out).mono ?_); rintro e w1 ⟨rfl, hb1⟩; have HB1 := Lib.hid (HB5.out.trans (hb1.mono HB5.out.size)); have HO1 := Lib.hid (show w1.ownsRow base 3 1 (.slice (some ⟨g, 0, none⟩) ln c) ln (intV (ordTo sp k)) from row_keep (fun q hq => HB1.out.block q (own_lt HJ.out.2.2 q hq).1) HJ.out.2.2); clear hb1)
        have hw1 : base ≤ w1.heap.size := Nat.le_trans hwr HB1.out.size
        clear z0 z1
        go_wp2_with ((at_builtin; refine wpList_append_own_at _ rfl _ _ 35 rfl base 3 j0 (.int .i64 0) 1 8 Tryd.underlying35 hie hy0 hy1 hy2 rfl (by decide) _ ln _ rfl (HO1.out.alloc _) ⟨w1.heap.size, 0, none⟩ 1 1 [.int .i64 (k : Nat)] rfl (by simp) (World.news_of_block (cs := #[.int .i64 (k : Nat)]) (t := 3) (fr := (0, 0)) (heap_alloc_new w1 _)) (by simp [Value.oneCell']) (by unfold maxLen; omega) (by omega) (by simp; omega) ?_); intro v6 w6 hown6 hg6 _ hwh6; obtain ⟨g6, c6, rfl⟩ := own_some hown6 (by rcases hwh6 with h | h <;> rw [h] <;> first | exact Option.some_ne_none g | exact Option.some_ne_none _); have HOWN6 := Lib.hid hown6; have HG6 := Lib.hid hg6; have HWH6 := Lib.hid hwh6; clear hown6 hg6 hwh6)
        go_roundw
        case rel =>
          have ho : ordTo sp (k + 1) = ordTo sp k ++ [(k : Int)] := ord_yes HS.out.1 (by rw [HS.out.2.1]; exact of_decide_eq_true HD.out)
          have hb6 : Below base w1 (w1.alloc (.cells #[.int .i64 (k : Nat)] 3)) := (Below.refl _ _).alloc hw1 _
          refine ⟨k + 1, g6, c6, ln + 1, by omega, by go_num, rfl, Lib.hid ⟨by rw [ho, List.length_append, ← HJ.out.1]; rfl, ?_, ?_⟩⟩
          · exact (HJ.out.2.1.trans ((HB1.out.mono hwr).trans hb6)).grown HG6.out (Nat.le_trans hw1 hb6.size) (fun q hq => (own_lt HO1.out q hq).2)
          · rw [ho]
            have := HOWN6.out
            unfold intV at this ⊢
            rw [List.map_append]
            exact this
        case measure => simp [intOf]; omega
    · have hkn : k = n := by omega
      subst hkn
      have HL := HJ.out.1
      subst HL
      go_wp2
      exact K1.out g c _ _ _ _ _ _ _ _ _ _ _ _ _ _ _ HJ.out.2.1 HJ.out.2.2
end Go.Proofs.YtppoiahhaclleaaDoor
