/- Of any kernel: the law DutiesAsked tells true, and what was handed in reads as it did. No conditions. -/
import Derived.Test.YtjbabpnepjhllaaGreatLo4
import Derived.Test.YtjbabpnepjhllaaGreatPlainChk21
import Derived.Test.YtjbabpnepjhllaaGreatLo7
import Derived.Test.YtjbabpnepjhllaaGreatNeedsF
import Derived.Test.YtjbabpnepjhllaaGreatWords21
import Derived.Deep.Slices
import Derived.ProofKit
import Derived.Test.YtjbabpnepjhllaaGreatRows
import Derived.OpenShut
namespace Go.Proofs.YtjbabpnepjhllaaGreat
open Go.RowKit

theorem more_facts {w : World} {base n : Nat} {v : Value} {l : List Fct} (h : w.ownsRow base 45 3 v n (cellsOfF l)) (hn : n = l.length) : FactsAt w (fun q => q < w.heap.size) v l := by
  subst hn
  exact Rows.mono (facts_own h) fun q hq => (own_lt h q hq).1
theorem light_parts {k : Krn} (h : lightK k = true) : k.vars.length ≤ 16 ∧ k.ops.length ≤ 40 ∧ k.reqs.length ≤ 40 := by
  unfold lightK at h
  simp only [Bool.and_eq_true, decide_eq_true_eq] at h
  exact h.2
set_option maxRecDepth 100000 in
set_option maxHeartbeats 20000000 in
/-- DutiesMore. -/
theorem more_any (Av Ao Ar Al Am : Option Addr) (nv cv no co nr cr nl cl nm cm : Nat) (k : Krn) (at_ : Int) (l m : List Fct) (w : World) (hk : KernAt w (fun q => q < w.heap.size) [.slice Av nv cv, .slice Ao no co, .slice Ar nr cr] k)
    (hl : FactsAt w (fun q => q < w.heap.size) (.slice Al nl cl) l) (hm : FactsAt w (fun q => q < w.heap.size) (.slice Am nm cm) m) (hokl : ∀ f ∈ l, FctOk f) (hokm : ∀ f ∈ m, FctOk f) :
    Calls Tryz.prog 7 #[.agg #[.slice Av nv cv, .slice Ao no co, .slice Ar nr cr], .int .i64 at_, .slice Al nl cl, .slice Am nm cm] w fun e w' => e = .returned (.bool true) ∧ Below w.heap.size w w' := by
  obtain ⟨W, hW⟩ : ∃ W, W = w.alloc (.cells #[.slice Av nv cv, .slice Ao no co, .slice Ar nr cr] 25) := ⟨_, rfl⟩
  have hb : Below w.heap.size w W := by rw [hW]; exact (Below.refl _ _).alloc (Nat.le_refl _) _
  have hbox : W.heap[w.heap.size]? = some (.cells #[.slice Av nv cv, .slice Ao no co, .slice Ar nr cr] 25 (0, 0)) := by rw [hW]; exact heap_alloc_new w _
  have hk2 : KernAt W (fun k => k < W.heap.size) [.slice Av nv cv, .slice Ao no co, .slice Ar nr cr] k := (hk.keep (SameOn.of_below hb fun q hq => hq)).mono fun j hj => by have := hb.size; omega
  have hkb := kbox_of hbox hk2
  have HW := Lib.hid hW
  have HB := Lib.hid hb
  have HK := Lib.hid hkb
  have HLV := Lib.hid (lives_any W)
  have HLK := Lib.hid (fun (w1 : World) (h1 : Below W.heap.size W w1) => light_any Av Ao Ar nv cv no co nr cr k w1 _ (kern_next hk2 h1) (fun k hk => hk))
  have HL1 := Lib.hid (LightFacts_any Al nl cl)
  have HL2 := Lib.hid (LightFacts_any Am nm cm)
  have c0 := hkb.c0
  have c1 := hkb.c1
  have c2 := hkb.c2
  cases hL : lightK k
  · rw [hL] at HLK
    clear hW hb hbox hk2 hkb hk hl hm hokl hokm hL c0 c1 c2
    go_enter Tryz.func7, Tryz.ntmps7
    go_upto_region 1 with (first | go_in)
    rw [← HW.out]
    clear HW
    go_upto_region 3 with (first | ((with_reducible refine HLV.out.mono ?_); rintro e w1 ⟨rfl, hb1⟩; have HB1 := Lib.hid hb1; clear hb1) | go_in)
    have c0 := (HK.out.next HB1.out).c0
    have c1 := (HK.out.next HB1.out).c1
    have c2 := (HK.out.next HB1.out).c2
    go_wp2_with (first | ((with_reducible refine (HLK.out _ HB1.out).mono ?_); rintro e w2 ⟨rfl, hb2⟩; have HB2 := Lib.hid (HB1.out.trans (hb2.mono HB1.out.size)); clear hb2) | ((with_reducible refine (HL1.out _).mono ?_); rintro e w2 ⟨rfl, hw_⟩; subst hw_) | ((with_reducible refine (HL2.out _).mono ?_); rintro e w2 ⟨rfl, hw_⟩; subst hw_) | go_in)
    go_ret
    exact ⟨rfl, HB.out.trans (HB2.out.mono HB.out.size)⟩
  rw [hL] at HLK
  by_cases h1 : nl ≤ 40
  rotate_left
  · rw [decide_eq_false h1] at HL1
    clear hW hb hbox hk2 hkb hk hl hm hokl hokm hL h1 c0 c1 c2
    go_enter Tryz.func7, Tryz.ntmps7
    go_upto_region 1 with (first | go_in)
    rw [← HW.out]
    clear HW
    go_upto_region 3 with (first | ((with_reducible refine HLV.out.mono ?_); rintro e w1 ⟨rfl, hb1⟩; have HB1 := Lib.hid hb1; clear hb1) | go_in)
    have c0 := (HK.out.next HB1.out).c0
    have c1 := (HK.out.next HB1.out).c1
    have c2 := (HK.out.next HB1.out).c2
    go_wp2_with (first | ((with_reducible refine (HLK.out _ HB1.out).mono ?_); rintro e w2 ⟨rfl, hb2⟩; have HB2 := Lib.hid (HB1.out.trans (hb2.mono HB1.out.size)); clear hb2) | ((with_reducible refine (HL1.out _).mono ?_); rintro e w2 ⟨rfl, hw_⟩; subst hw_) | ((with_reducible refine (HL2.out _).mono ?_); rintro e w2 ⟨rfl, hw_⟩; subst hw_) | go_in)
    go_ret
    exact ⟨rfl, HB.out.trans (HB2.out.mono HB.out.size)⟩
  rw [decide_eq_true h1] at HL1
  by_cases h2 : nm ≤ 40
  rotate_left
  · rw [decide_eq_false h2] at HL2
    clear hW hb hbox hk2 hkb hk hl hm hokl hokm hL h1 h2 c0 c1 c2
    go_enter Tryz.func7, Tryz.ntmps7
    go_upto_region 1 with (first | go_in)
    rw [← HW.out]
    clear HW
    go_upto_region 3 with (first | ((with_reducible refine HLV.out.mono ?_); rintro e w1 ⟨rfl, hb1⟩; have HB1 := Lib.hid hb1; clear hb1) | go_in)
    have c0 := (HK.out.next HB1.out).c0
    have c1 := (HK.out.next HB1.out).c1
    have c2 := (HK.out.next HB1.out).c2
    go_wp2_with (first | ((with_reducible refine (HLK.out _ HB1.out).mono ?_); rintro e w2 ⟨rfl, hb2⟩; have HB2 := Lib.hid (HB1.out.trans (hb2.mono HB1.out.size)); clear hb2) | ((with_reducible refine (HL1.out _).mono ?_); rintro e w2 ⟨rfl, hw_⟩; subst hw_) | ((with_reducible refine (HL2.out _).mono ?_); rintro e w2 ⟨rfl, hw_⟩; subst hw_) | go_in)
    go_ret
    exact ⟨rfl, HB.out.trans (HB2.out.mono HB.out.size)⟩
  rw [decide_eq_true h2] at HL2
  obtain ⟨hv16, _, _⟩ := light_parts hL
  have hnl := (rows_len hl).1
  have hnm := (rows_len hm).1
  have hlW : FactsAt W (fun q => q < W.heap.size) (.slice Al nl cl) l := rows_next hl hb
  have hmW : FactsAt W (fun q => q < W.heap.size) (.slice Am nm cm) m := rows_next hm hb
  have HA1 := Lib.hid (fun (w3 : World) (h3 : Below W.heap.size W w3) => After_any Av Ao Ar Al nv cv no co nr cr nl cl k at_ l w3 _ (kern_next hk2 h3) (fun k hk => hk) (by omega) (rows_next hlW h3) hokl (by omega))
  have HA2 := Lib.hid (fun (w3 : World) (A : Option Addr) (c : Nat) (h3 : Below W.heap.size W w3) (h4 : FactsAt w3 (fun q => q < w3.heap.size) (.slice A (l.length + nm) c) (l ++ m)) => After_any Av Ao Ar A nv cv no co nr cr (l.length + nm) c k at_ (l ++ m) w3 _ (kern_next hk2 h3) (fun k hk => hk) (by omega) h4 (fun f hf => by rcases List.mem_append.1 hf with h | h; exact hokl f h; exact hokm f h) (by rw [List.length_append]; omega))
  have HOW := Lib.hid (fun (w3 : World) (h3 : Below W.heap.size W w3) => OwnF_any (.slice Al nl cl) l w3 _ (rows_next hlW h3) (by omega))
  have HCO := Lib.hid (fun (w3 : World) (h3 : Below W.heap.size W w3) => Common_any Al Am nl cl nm cm l m w3 _ (rows_next hlW h3) (rows_next hmW h3) (fun k hk => hk) hokl (by omega) (by omega))
  have HLW := Lib.hid hlW
  have HMW := Lib.hid hmW
  have HN := Lib.hid (And.intro hnl hnm)
  have HSUB := Lib.hid (after_sub (k := k) (at_ := at_) (l := l) (m := l ++ m) fun x hx => List.mem_append.2 (.inl hx))
  have HLEN := Lib.hid (show (after_at k at_ l).length ≤ 90000 ∧ (after_at k at_ (l ++ m)).length ≤ 90000 from ⟨after_len (by omega) (by omega), after_len (by omega) (by rw [List.length_append]; omega)⟩)
  have HCL := Lib.hid (show (commonF l m).length ≤ 90000 from Nat.le_trans (common_len l m) (by omega))
  have HORD := Lib.hid (after_ord k at_ l)
  have HSZ := Lib.hid (And.intro h1 h2)
  obtain ⟨a, ha⟩ : ∃ a, a = after_at k at_ l := ⟨_, rfl⟩
  obtain ⟨b, hbb⟩ : ∃ b, b = after_at k at_ (l ++ m) := ⟨_, rfl⟩
  obtain ⟨c, hcc⟩ : ∃ c, c = commonF l m := ⟨_, rfl⟩
  have HCM := Lib.hid (show ∀ f ∈ c, f ∈ l ∧ f ∈ m from fun f hf => by rw [hcc] at hf; exact ⟨(mem_commonF.1 hf).1, (mem_commonF.1 hf).2.1⟩)
  rw [← ha] at HA1 HSUB HLEN HORD
  rw [← hbb] at HSUB HLEN
  rw [← hcc] at HCO HCL
  simp only [← hbb] at HA2
  clear hW hb hbox hk2 hkb hk hl hm hokl hokm hL h1 h2 c0 c1 c2 hv16 hnl hnm hlW hmW ha hbb hcc
  go_enter Tryz.func7, Tryz.ntmps7
  go_upto_region 1 with (first | go_in)
  rw [← HW.out]
  clear HW
  go_upto_region 3 with (first | ((with_reducible refine HLV.out.mono ?_); rintro e w1 ⟨rfl, hb1⟩; have HB1 := Lib.hid hb1; clear hb1) | go_in)
  have c0 := (HK.out.next HB1.out).c0
  have c1 := (HK.out.next HB1.out).c1
  have c2 := (HK.out.next HB1.out).c2
  go_upto_region 5 with (first | ((with_reducible refine (HLK.out _ HB1.out).mono ?_); rintro e w2 ⟨rfl, hb2⟩; have HB2 := Lib.hid (HB1.out.trans (hb2.mono HB1.out.size)); clear hb2) | ((with_reducible refine (HL1.out _).mono ?_); rintro e w2 ⟨rfl, hw_⟩; subst hw_) | ((with_reducible refine (HL2.out _).mono ?_); rintro e w2 ⟨rfl, hw_⟩; subst hw_) | go_in)
  clear c0 c1 c2 HLV HLK HL1 HL2
  have HKB := Lib.hid (show ∀ w_, Below w2.heap.size w2 w_ → w_.cell? ⟨w.heap.size, 0, none⟩ = some (.slice Av nv cv) ∧ w_.cell? ⟨w.heap.size, 1, none⟩ = some (.slice Ao no co) ∧ w_.cell? ⟨w.heap.size, 2, none⟩ = some (.slice Ar nr cr) from fun w_ h_ => by
    have h := HK.out.next (HB2.out.trans (h_.mono HB2.out.size))
    exact ⟨h.c0, h.c1, h.c2⟩)
  have hS := (Below.refl w2.heap.size w2).drew
  have up : ∀ {w_}, Below w2.heap.size w2 w_ → Below W.heap.size W w_ := fun h => HB2.out.trans (h.mono HB2.out.size)
  (refine wp_region_lines (Below w2.heap.size w2) (by kernel_rfl) (by kernel_rfl) ((Below.refl w2.heap.size w2).drew) ?_)
  (try simp only [])
  repeat (first | (refine runL_no (by rfl) ?_; (try simp only [Act.put, List.setIfInBounds_toArray, List.set_cons_zero, List.set_cons_succ])) | (refine runL_val (v := ?_) (by rfl) ?_ ?_; rotate_left; (focus (intro w_ hw_; have f0_ := (HKB.out w_ hw_).1; have f1_ := (HKB.out w_ hw_).2.1; have f2_ := (HKB.out w_ hw_).2.2; go_simp; (try with_reducible rfl); done)); (try simp only [Act.put, List.setIfInBounds_toArray, List.set_cons_zero, List.set_cons_succ])) | (refine runL_call (f := ?_) (args := ?_) (w1 := ?_) (by rfl) (by rfl) ?_ ?_; rotate_left 3; (focus (go_simp; refine ⟨⟨?_, ?_⟩, ?_⟩ <;> with_reducible rfl)); (with_reducible refine (HA1.out _ (up hS)).mono ?_); rintro e_ w3 ⟨A5, n5, c5, rfl, hf5, hb3⟩; have HF5 := Lib.hid hf5; replace hS := hS.trans (hb3.mono hS.size); have HS3 := Lib.hid hS.size; clear hf5 hb3; refine ⟨_, rfl, .inr hS, ?_⟩; (try simp only [Act.put, List.setIfInBounds_toArray, List.set_cons_zero, List.set_cons_succ])) | (refine runL_call (f := ?_) (args := ?_) (w1 := ?_) (by rfl) (by rfl) ?_ ?_; rotate_left 3; (focus (go_simp; refine ⟨⟨?_, ?_⟩, ?_⟩ <;> with_reducible rfl)); (with_reducible refine (HOW.out w3 (up hS)).mono ?_); rintro e_ w4 ⟨g4, cap4, rfl, ho4, hc4, hb4⟩; have HO4 := Lib.hid ho4; have HC4 := Lib.hid hc4; have HB4 := Lib.hid hb4; replace hS := hS.trans (hb4.mono hS.size); clear ho4 hc4 hb4; refine ⟨_, rfl, .inr hS, ?_⟩; (try simp only [Act.put, List.setIfInBounds_toArray, List.set_cons_zero, List.set_cons_succ])) | (refine runL_call (f := ?_) (args := ?_) (w1 := ?_) (by rfl) (by rfl) ?_ ?_; rotate_left 3; (focus (go_simp; refine ⟨⟨?_, ?_⟩, ?_⟩ <;> with_reducible rfl)); (with_reducible refine (HA2.out w6 A6 c6 (up hS) HF6.out).mono ?_); rintro e_ w7 ⟨A7, n7, c7, rfl, hf7, hb7⟩; have HF7 := Lib.hid hf7; have HB7 := Lib.hid hb7; replace hS := hS.trans (hb7.mono hS.size); clear hf7 hb7; refine ⟨_, rfl, .inr hS, ?_⟩; (try simp only [Act.put, List.setIfInBounds_toArray, List.set_cons_zero, List.set_cons_succ])) | (refine runL_appendFs (base := w3.heap.size) (F := fun q => q < w4.heap.size) (xs := l) (more := m) (by rfl) (by rfl) _ _ rfl (by rfl) HO4.out HC4.out (by rfl) (rows_next HMW.out (up hS)) (by have := HN.out.1; have := HSZ.out; omega) HB4.out.size ?_; intro A6 c6 w6 ho6 hb6; have HF6 := Lib.hid (more_facts ho6 (by rw [List.length_append, ← HN.out.2])); have HB6 := Lib.hid (HB4.out.trans hb6); replace hS := hS.trans (hb6.mono HS3.out); clear ho6 hb6; refine ⟨hS, ?_⟩; (try simp only [Act.put, List.setIfInBounds_toArray, List.set_cons_zero, List.set_cons_succ])))
  (refine runL_nil ?_)
  have HS := Lib.hid (up hS)
  have HFA := Lib.hid (show FactsAt w7 (fun q => q < w7.heap.size) (.slice A5 n5 c5) a from rows_next HF5.out (HB6.out.trans (HB7.out.mono HB6.out.size)))
  have n5a := (rows_len HF5.out).1
  have HN5 := Lib.hid n5a
  have hn5 : n5 ≤ 90000 := by have := HLEN.out.1; omega
  clear hS up HF5 HO4 HC4 HF6 HB6 HB7 HB4 HS3 HKB HA1 HA2 HOW n5a
  go_wp2
  go_loopw [8, 11] (fun _ s11 wr => ∃ j : Nat, j ≤ n5 ∧ s11 = .int .i64 (j : Nat) ∧ Below w7.heap.size w7 wr) (fun _ s11 _ => n5 - (intOf s11).toNat)
  case atStart => exact ⟨0, Nat.zero_le _, rfl, Below.refl _ _⟩
  case round =>
    obtain ⟨j, hj, rfl, hbr⟩ := hrel
    have HBR := Lib.hid hbr
    by_cases hlt : j < n5
    · have d1 : decide (j < n5) = true := decide_eq_true hlt
      obtain ⟨x, hx⟩ : ∃ v, a[j]? = some v := ⟨_, List.getElem?_eq_getElem (by have := HN5.out; omega)⟩
      have hxa := List.mem_of_getElem? hx
      have HX := Lib.hid hx
      have HK1 := Lib.hid (fun (w_ : World) (h : Below wr.heap.size wr w_) => Knows_any (.slice A7 n7 c7) x b w_ _ (rows_next HF7.out (hbr.trans (h.mono hbr.size))) (fun k hk => hk) (by have := HLEN.out.2; omega))
      have HK2 := Lib.hid (fun (w_ : World) (h : Below wr.heap.size wr w_) => Knows_any (.slice A5 n5 c5) x a w_ _ (rows_next HFA.out (hbr.trans (h.mono hbr.size))) (fun k hk => hk) (by have := HLEN.out.1; omega))
      rw [knowsF_mem (HSUB.out x hxa)] at HK1
      rw [knowsF_mem hxa] at HK2
      have hat := rows_next HFA.out hbr
      obtain ⟨g, off, hA, hg, z0, z1, z2⟩ := FactsAt.at_ hat hx
      have HFC := Lib.hid (show ∀ w_, Below wr.heap.size wr w_ → w_.cell? ⟨g, off + j * 3, none⟩ = some (.int .i64 x.kind) ∧ w_.cell? ⟨g, off + j * 3 + 1, none⟩ = some (.int .i64 x.a) ∧ w_.cell? ⟨g, off + j * 3 + 2, none⟩ = some (.int .i64 x.b) from fun w_ h => ⟨(h.cell (p := ⟨g, off + j * 3, none⟩) hg).trans z0, (h.cell (p := ⟨g, off + j * 3 + 1, none⟩) hg).trans z1, (h.cell (p := ⟨g, off + j * 3 + 2, none⟩) hg).trans z2⟩)
      have i0 : (0 : Int) ≤ (j : Int) := by omega
      have i1 : (j : Int) < (n5 : Int) := by omega
      have i2 : IntKind.i64.wrap (j : Int) = j := by rw [IntKind.wrap_i64]; omega
      clear hx hxa z0 z1 z2
      by_cases h0 : j = 0
      · have d3 : decide (0 < j) = false := decide_eq_false (by omega)
        have d4 : decide ((0 : Int) < (j : Int)) = false := decide_eq_false (by omega)
        subst hA
        clear h0 hat hbr hg
        go_upto_region 9 with (first | go_in)
        have hS := (Below.refl wr.heap.size wr).drew
        (refine wp_region_lines (Below wr.heap.size wr) (by kernel_rfl) (by kernel_rfl) ((Below.refl wr.heap.size wr).drew) ?_)
        (try simp only [])
        repeat (first | (refine runL_no (by rfl) ?_; (try simp only [Act.put, List.setIfInBounds_toArray, List.set_cons_zero, List.set_cons_succ])) | (refine runL_val (v := ?_) (by rfl) ?_ ?_; rotate_left; (focus (intro w_ hw_; obtain ⟨f0_, f1_, f2_⟩ := HFC.out w_ hw_; go_simp; (try with_reducible rfl); done)); (try simp only [Act.put, List.setIfInBounds_toArray, List.set_cons_zero, List.set_cons_succ])) | (refine runL_call (f := ?_) (args := ?_) (w1 := ?_) (by rfl) (by rfl) ?_ ?_; rotate_left 3; (focus (go_simp; refine ⟨⟨?_, ?_⟩, ?_⟩ <;> with_reducible rfl)); (first | with_reducible refine (HK1.out _ hS).mono ?_ | with_reducible refine (HK2.out _ hS).mono ?_); rintro e_ w8 ⟨rfl, hb8⟩; replace hS := hS.trans (hb8.mono hS.size); clear hb8; refine ⟨_, rfl, .inr hS, ?_⟩; (try simp only [Act.put, List.setIfInBounds_toArray, List.set_cons_zero, List.set_cons_succ])))
        (refine runL_nil ?_)
        have HS8 := Lib.hid hS
        clear hS
        go_wp2
        go_roundw
        case rel => exact ⟨j + 1, hlt, by go_num, HBR.out.trans (HS8.out.mono HBR.out.size)⟩
        case measure => simp [intOf]; omega
      · obtain ⟨i, hi⟩ : ∃ i, j = i + 1 := ⟨j - 1, by omega⟩
        have d3 : decide (0 < j) = true := decide_eq_true (by omega)
        have d4 : decide ((0 : Int) < (j : Int)) = true := decide_eq_true (by omega)
        obtain ⟨y, hy⟩ : ∃ v, a[i]? = some v := ⟨_, List.getElem?_eq_getElem (by have := HN5.out; omega)⟩
        obtain ⟨g', off', hA', hg', z0, z1, z2⟩ := FactsAt.at_ hat hy
        have hAe := hA.symm.trans hA'
        simp only [Option.some.injEq, Addr.mk.injEq, and_true] at hAe
        obtain ⟨e1, e2⟩ := hAe
        subst e1; subst e2
        have HFD := Lib.hid (show ∀ w_, Below wr.heap.size wr w_ → w_.cell? ⟨g, off + i * 3, none⟩ = some (.int .i64 y.kind) ∧ w_.cell? ⟨g, off + i * 3 + 1, none⟩ = some (.int .i64 y.a) ∧ w_.cell? ⟨g, off + i * 3 + 2, none⟩ = some (.int .i64 y.b) from fun w_ h => ⟨(h.cell (p := ⟨g, off + i * 3, none⟩) hg).trans z0, (h.cell (p := ⟨g, off + i * 3 + 1, none⟩) hg).trans z1, (h.cell (p := ⟨g, off + i * 3 + 2, none⟩) hg).trans z2⟩)
        have hqe := fun w_ => eq_fact x y w_
        rw [show (x == y) = false from beq_eq_false_iff_ne.2 (ord_ne HORD.out hy (hi ▸ HX.out))] at hqe
        have i9 : IntKind.i64.wrap ((j : Int) - 1) = (i : Int) := by rw [IntKind.wrap_i64]; omega
        have i7 : (0 : Int) ≤ (i : Int) := by omega
        have i8 : (i : Int) < (n5 : Int) := by omega
        have i6 : IntKind.i64.wrap (i : Int) = i := by rw [IntKind.wrap_i64]; omega
        have HI := Lib.hid hi
        subst hA
        clear h0 hat hbr hg hg' hA' hy z0 z1 z2 hi
        go_upto_region 9 with (first | go_in)
        have hS := (Below.refl wr.heap.size wr).drew
        (refine wp_region_lines (Below wr.heap.size wr) (by kernel_rfl) (by kernel_rfl) ((Below.refl wr.heap.size wr).drew) ?_)
        (try simp only [])
        repeat (first | (refine runL_no (by rfl) ?_; (try simp only [Act.put, List.setIfInBounds_toArray, List.set_cons_zero, List.set_cons_succ])) | (refine runL_val (v := ?_) (by rfl) ?_ ?_; rotate_left; (focus (intro w_ hw_; obtain ⟨f0_, f1_, f2_⟩ := HFC.out w_ hw_; obtain ⟨f3_, f4_, f5_⟩ := HFD.out w_ hw_; have f6_ := hqe w_; go_simp; (try with_reducible rfl); done)); (try simp only [Act.put, List.setIfInBounds_toArray, List.set_cons_zero, List.set_cons_succ])) | (refine runL_call (f := ?_) (args := ?_) (w1 := ?_) (by rfl) (by rfl) ?_ ?_; rotate_left 3; (focus (go_simp; refine ⟨⟨?_, ?_⟩, ?_⟩ <;> with_reducible rfl)); (first | with_reducible refine (HK1.out _ hS).mono ?_ | with_reducible refine (HK2.out _ hS).mono ?_); rintro e_ w8 ⟨rfl, hb8⟩; replace hS := hS.trans (hb8.mono hS.size); clear hb8; refine ⟨_, rfl, .inr hS, ?_⟩; (try simp only [Act.put, List.setIfInBounds_toArray, List.set_cons_zero, List.set_cons_succ])))
        (refine runL_nil ?_)
        have HS8 := Lib.hid hS
        clear hS hqe
        go_wp2
        go_roundw
        case rel => exact ⟨j + 1, hlt, by go_num, HBR.out.trans (HS8.out.mono HBR.out.size)⟩
        case measure => simp [intOf]; omega
    · have d1 : decide (j < n5) = false := decide_eq_false hlt
      have HB8 := Lib.hid (HS.out.trans (hbr.mono HS.out.size))
      clear hbr
      go_upto_region 12 with (first | ((with_reducible refine (HCO.out _ HB8.out).mono ?_); rintro e w8 ⟨A8, n8, c8, rfl, hf8, hb8⟩; have HF8 := Lib.hid hf8; have HB9 := Lib.hid (HB8.out.trans (hb8.mono HB8.out.size)); clear hf8 hb8) | go_in)
      have n8a := (rows_len HF8.out).1
      have HN8 := Lib.hid n8a
      have hn8 : n8 ≤ 90000 := by have := HCL.out; omega
      clear n8a HBR HFA HF7
      go_wp2
      go_loopw [8, 13] (fun _ s13 wr => ∃ j : Nat, j ≤ n8 ∧ s13 = .int .i64 (j : Nat) ∧ Below w8.heap.size w8 wr) (fun _ s13 _ => n8 - (intOf s13).toNat)
      case atStart => exact ⟨0, Nat.zero_le _, rfl, Below.refl _ _⟩
      case round =>
        obtain ⟨i, hi, rfl, hbr⟩ := hrel
        have HBR := Lib.hid hbr
        by_cases hlt2 : i < n8
        · have d2 : decide (i < n8) = true := decide_eq_true hlt2
          obtain ⟨x, hx⟩ : ∃ v, c[i]? = some v := ⟨_, List.getElem?_eq_getElem (by have := HN8.out; omega)⟩
          have hxc := HCM.out x (List.mem_of_getElem? hx)
          have hup := HB9.out.trans (hbr.mono HB9.out.size)
          have HK1 := Lib.hid (fun (w_ : World) (h : Below wr.heap.size wr w_) => Knows_any (.slice Al nl cl) x l w_ _ (rows_next HLW.out (hup.trans (h.mono hup.size))) (fun k hk => hk) (by have := HSZ.out; have := HN.out; omega))
          have HK2 := Lib.hid (fun (w_ : World) (h : Below wr.heap.size wr w_) => Knows_any (.slice Am nm cm) x m w_ _ (rows_next HMW.out (hup.trans (h.mono hup.size))) (fun k hk => hk) (by have := HSZ.out; have := HN.out; omega))
          rw [knowsF_mem hxc.1] at HK1
          rw [knowsF_mem hxc.2] at HK2
          obtain ⟨g, off, rfl, hg, z0, z1, z2⟩ := FactsAt.at_ (rows_next HF8.out hbr) hx
          have HFC := Lib.hid (show ∀ w_, Below wr.heap.size wr w_ → w_.cell? ⟨g, off + i * 3, none⟩ = some (.int .i64 x.kind) ∧ w_.cell? ⟨g, off + i * 3 + 1, none⟩ = some (.int .i64 x.a) ∧ w_.cell? ⟨g, off + i * 3 + 2, none⟩ = some (.int .i64 x.b) from fun w_ h => ⟨(h.cell (p := ⟨g, off + i * 3, none⟩) hg).trans z0, (h.cell (p := ⟨g, off + i * 3 + 1, none⟩) hg).trans z1, (h.cell (p := ⟨g, off + i * 3 + 2, none⟩) hg).trans z2⟩)
          have i0 : (0 : Int) ≤ (i : Int) := by omega
          have i1 : (i : Int) < (n8 : Int) := by omega
          have i2 : IntKind.i64.wrap (i : Int) = i := by rw [IntKind.wrap_i64]; omega
          clear hx hxc hup hg hbr
          go_wp2_with (first | ((with_reducible refine (HK1.out _ (Below.refl _ _)).mono ?_); rintro e_ w10 ⟨rfl, hb10⟩; have HB10 := Lib.hid hb10; obtain ⟨z0, z1, z2⟩ := HFC.out _ hb10; clear hb10) | ((with_reducible refine (HK2.out _ HB10.out).mono ?_); rintro e_ w11 ⟨rfl, hb11⟩; have HB11 := Lib.hid (HB10.out.trans (hb11.mono HB10.out.size)); clear hb11) | go_in)
          go_roundw
          case rel => exact ⟨i + 1, hlt2, by go_num, HBR.out.trans (HB11.out.mono HBR.out.size)⟩
          case measure => simp [intOf]; omega
        · have d2 : decide (i < n8) = false := decide_eq_false hlt2
          clear hbr
          go_wp2
          go_ret
          exact ⟨rfl, HB.out.trans ((HB9.out.trans (HBR.out.mono HB9.out.size)).mono HB.out.size)⟩
end Go.Proofs.YtjbabpnepjhllaaGreat

/- law21: DutiesAsked, plain: with each need put ahead of its operation a kernel may be, too, and all needs are known. -/
namespace Go.Proofs.YtjbabpnepjhllaaGreat

def needOp (f : Fct) : KOp := ⟨17, -1, -1, f.a, f.b, -1, f.kind.toNat⟩
def insOps (o : KOp) : List KOp := if o.kind = 17 then [o] else (needsF o).map needOp ++ [o]
def askOps (ops : List KOp) : List KOp := (ops.map insOps).flatten
theorem askOps_cons (o : KOp) (r : List KOp) : askOps (o :: r) = insOps o ++ askOps r := rfl
theorem askOps_append (a b : List KOp) : askOps (a ++ b) = askOps a ++ askOps b := by unfold askOps; simp
theorem askOps_next {ops : List KOp} {j : Nat} {o : KOp} (ho : ops[j]? = some o) : askOps (ops.take (j + 1)) = askOps (ops.take j) ++ insOps o := by
  rw [List.take_add_one, ho, askOps_append]
  simp [askOps]
theorem needs_len (o : KOp) : (needsF o).length ≤ 3 := by
  unfold needsF
  (repeat' split) <;> simp
theorem insOps_len (o : KOp) : (insOps o).length ≤ 4 := by
  unfold insOps
  split
  · simp
  · have := needs_len o; simp; omega
theorem askOps_len (ops : List KOp) : (askOps ops).length ≤ 4 * ops.length := by
  induction ops with
  | nil => simp [askOps]
  | cons o r ih => rw [askOps_cons, List.length_append, List.length_cons]; have := insOps_len o; omega
/-- A need of an operation that is no need. -/
structure NeedOf (o : KOp) (f : Fct) : Prop where
  kind : f.kind = 1 ∨ f.kind = 2 ∨ f.kind = 3
  a : (f.a = o.a ∧ 10 ≤ o.kind ∧ o.kind ≤ 13) ∨ (f.a = o.b ∧ 10 ≤ o.kind ∧ o.kind ≤ 12) ∨ (f.a = o.c ∧ 9 ≤ o.kind ∧ o.kind ≤ 13)
  b : (f.kind = 2 ∧ f.b = o.c ∧ 9 ≤ o.kind ∧ o.kind ≤ 13) ∨ (f.kind ≠ 2 ∧ f.b = -1)
theorem need_of {o : KOp} {f : Fct} (h17 : o.kind ≠ 17) (hf : f ∈ needsF o) : NeedOf o f := by
  unfold needsF at hf
  split at hf
  · simp only [List.mem_singleton] at hf
    subst hf
    exact ⟨.inr (.inr rfl), .inr (.inr ⟨rfl, by omega, by omega⟩), .inr ⟨by simp [aloneF], rfl⟩⟩
  split at hf
  · simp only [List.mem_cons, List.not_mem_nil, or_false] at hf
    rcases hf with rfl | rfl
    · exact ⟨.inr (.inl rfl), .inl ⟨rfl, by omega, by omega⟩, .inl ⟨rfl, rfl, by omega, by omega⟩⟩
    · exact ⟨.inr (.inl rfl), .inr (.inl ⟨rfl, by omega, by omega⟩), .inl ⟨rfl, rfl, by omega, by omega⟩⟩
  split at hf
  · simp only [List.mem_cons, List.not_mem_nil, or_false] at hf
    rcases hf with rfl | rfl | rfl
    · exact ⟨.inl rfl, .inr (.inr ⟨rfl, by omega, by omega⟩), .inr ⟨by simp [aloneF], rfl⟩⟩
    · exact ⟨.inr (.inl rfl), .inl ⟨rfl, by omega, by omega⟩, .inl ⟨rfl, rfl, by omega, by omega⟩⟩
    · exact ⟨.inr (.inl rfl), .inr (.inl ⟨rfl, by omega, by omega⟩), .inl ⟨rfl, rfl, by omega, by omega⟩⟩
  split at hf
  · simp only [List.mem_cons, List.not_mem_nil, or_false] at hf
    rcases hf with rfl | rfl
    · exact ⟨.inl rfl, .inr (.inr ⟨rfl, by omega, by omega⟩), .inr ⟨by simp [aloneF], rfl⟩⟩
    · exact ⟨.inr (.inl rfl), .inl ⟨rfl, by omega, by omega⟩, .inl ⟨rfl, rfl, by omega, by omega⟩⟩
  (try rw [if_neg h17] at hf)
  cases hf
theorem needs_need {o : KOp} {f : Fct} (h : NeedOf o f) : needsF (needOp f) = [f] := by
  unfold needsF needOp
  obtain ⟨k, a, b⟩ := f
  obtain ⟨hk, _, hb⟩ := h
  simp only at hk hb ⊢
  rcases hk with rfl | rfl | rfl
  · rcases hb with ⟨h, _⟩ | ⟨_, rfl⟩
    · omega
    · rfl
  · rfl
  · rcases hb with ⟨h, _⟩ | ⟨_, rfl⟩
    · omega
    · rfl
/-- The operations' states one after the other. -/
def opRun (vs : List KVar) : List KOp → Option (List Bool × Int) → Option (List Bool × Int)
  | [], s => s
  | o :: r, s => opRun vs r (s.bind (opStep vs o))
theorem opRun_append (vs : List KVar) : ∀ (a b : List KOp) (s), opRun vs (a ++ b) s = opRun vs b (opRun vs a s)
  | [], _, _ => rfl
  | _ :: r, b, _ => opRun_append vs r b _
theorem opTo_run (vs : List KVar) (ops : List KOp) : ∀ k, k ≤ ops.length → opTo vs ops k = opRun vs (ops.take k) (some (vs.map givenK, 0)) := by
  intro k
  induction k with
  | zero => intro _; rfl
  | succ k ih =>
    intro hk
    obtain ⟨o, ho⟩ : ∃ o, ops[k]? = some o := ⟨_, List.getElem?_eq_getElem (by omega)⟩
    rw [List.take_add_one, ho, opRun_append, ← ih (by omega)]
    simp only [opTo, ho]
    cases opTo vs ops k <;> rfl
theorem opRun_none (vs : List KVar) : ∀ l : List KOp, opRun vs l none = none
  | [] => rfl
  | _ :: r => opRun_none vs r
theorem step_need {vs : List KVar} {o : KOp} {f : Fct} {s t : List Bool × Int} (h : opStep vs o s = some t) (hs : 0 ≤ s.2 ∧ s.2 ≤ 4) (hf : NeedOf o f) : opStep vs (needOp f) s = some s := by
  obtain ⟨h1, _⟩ := opStep_one h
  have hp := oneK_parts h1
  have hmade : ∀ v ∈ takesK o, s.1.getD v.toNat false = true := by
    unfold opStep at h
    rw [if_neg (by rw [h1]; simp)] at h
    intro v hv
    by_cases hx : (takesK o).any (fun v => !(s.1.getD v.toNat false)) = true
    · rw [if_pos hx] at h; cases h
    · have := fun hn => hx (List.any_eq_true.2 ⟨v, hv, hn⟩)
      simpa using this
  have ha : 0 ≤ f.a ∧ f.a < vs.length ∧ f.a ∈ takesK o := by
    have hm : ∀ v, v ∈ [o.a, o.b, o.c] → 0 ≤ v → v ∈ takesK o := fun v hv h0 => by
      unfold takesK
      exact List.mem_append_left _ (List.mem_filter.2 ⟨hv, by simpa using h0⟩)
    rcases hf.a with ⟨e, h2, h3⟩ | ⟨e, h2, h3⟩ | ⟨e, h2, h3⟩
    · have := hp.a (.inl (by omega)); rw [e]; exact ⟨this.1, this.2, hm _ (by simp) this.1⟩
    · have := hp.b (.inr (by omega)); rw [e]; exact ⟨this.1, this.2, hm _ (by simp) this.1⟩
    · have := hp.c (by omega); rw [e]; exact ⟨this.1, this.2, hm _ (by simp) this.1⟩
  have hb : (f.kind = 2 ∧ 0 ≤ f.b ∧ f.b < vs.length ∧ f.b ∈ takesK o) ∨ (f.kind ≠ 2 ∧ f.b = -1) := by
    rcases hf.b with ⟨e, h2, h3, h4⟩ | h2
    · have := hp.c (by omega)
      refine .inl ⟨e, by rw [h2]; exact this.1, by rw [h2]; exact this.2, ?_⟩
      unfold takesK
      rw [h2]
      exact List.mem_append_left _ (List.mem_filter.2 ⟨by simp, by simpa using this.1⟩)
    · exact .inr h2
  have hone : oneK vs (needOp f) = true := by
    unfold oneK
    rw [if_pos (show (needOp f).kind = 17 from rfl)]
    unfold needK needOp thereK
    simp only [beq_self_eq_true, Bool.true_and, Bool.and_eq_true, decide_eq_true_eq]
    refine ⟨⟨ha.1, ha.2.1⟩, ?_⟩
    rcases hb with ⟨e, h2, h3, _⟩ | ⟨e, h2⟩
    · rw [if_pos (by rw [e]; rfl)]
      simp only [Bool.and_eq_true, decide_eq_true_eq]
      exact ⟨h2, h3⟩
    · have hk := hf.kind
      rw [if_neg (by omega), if_pos (by omega), h2]
      rfl
  have htk : ∀ v ∈ takesK (needOp f), v ∈ takesK o := by
    intro v hv
    have e : takesK (needOp f) = [f.a, f.b, -1].filter (fun v => decide (0 ≤ v)) ++ [] := rfl
    rw [e, List.append_nil] at hv
    obtain ⟨h2, h3⟩ := List.mem_filter.1 hv
    simp only [List.mem_cons, List.not_mem_nil, or_false, decide_eq_true_eq] at h2 h3
    rcases h2 with rfl | rfl | rfl
    · exact ha.2.2
    · rcases hb with ⟨_, _, _, h5⟩ | ⟨_, h5⟩
      · exact h5
      · omega
    · omega
  unfold opStep
  rw [if_neg (by rw [hone]; simp), if_neg ?_]
  · simp only [needOp]
    simp only [show ¬((17 : Int) = 15) by decide, show ¬((17 : Int) = 16) by decide, if_false, show ¬((0 : Int) ≤ -1) by decide]
    rw [if_neg (by omega)]
  · intro hx
    obtain ⟨v, hv, h2⟩ := List.any_eq_true.1 hx
    rw [hmade v (htk v hv)] at h2
    cases h2
theorem run_needs {vs : List KVar} {o : KOp} {s t : List Bool × Int} (h : opStep vs o s = some t) (hs : 0 ≤ s.2 ∧ s.2 ≤ 4) : ∀ (l : List Fct), (∀ f ∈ l, NeedOf o f) → opRun vs (l.map needOp) (some s) = some s
  | [], _ => rfl
  | f :: r, hl => by
    show opRun vs (r.map needOp) (opStep vs (needOp f) s) = some s
    rw [step_need h hs (hl f List.mem_cons_self)]
    exact run_needs h hs r fun g hg => hl g (List.mem_cons_of_mem _ hg)
theorem run_ins {vs : List KVar} {o : KOp} {s t : List Bool × Int} (h : opStep vs o s = some t) (hs : 0 ≤ s.2 ∧ s.2 ≤ 4) : opRun vs (insOps o) (some s) = some t := by
  unfold insOps
  by_cases h17 : o.kind = 17
  · rw [if_pos h17]; exact h
  · rw [if_neg h17, opRun_append, run_needs h hs _ fun f hf => need_of h17 hf]
    exact h
theorem run_ask {vs : List KVar} : ∀ (ops : List KOp) (s : List Bool × Int), 0 ≤ s.2 ∧ s.2 ≤ 4 → ∀ t, opRun vs ops (some s) = some t → opRun vs (askOps ops) (some s) = some t
  | [], _, _, _, h => h
  | o :: r, s, hs, t, h => by
    have h' : opRun vs r (opStep vs o s) = some t := h
    cases hq : opStep vs o s with
    | none => rw [hq, opRun_none] at h'; cases h'
    | some u =>
      rw [hq] at h'
      obtain ⟨_, _, h2, h3⟩ := opStep_one hq
      rw [askOps_cons, opRun_append, run_ins hq hs]
      exact run_ask r u ⟨h2, h3⟩ t h'
/-- It may be. -/
theorem ask_check {k : Krn} (hc : checkK k = true) (hn : k.ops.length ≤ 1000) : checkK ⟨k.vars, askOps k.ops, k.reqs⟩ = true := by
  obtain ⟨h1, h2, h3, h4, h5⟩ := checkK_parts hc
  have hl := askOps_len k.ops
  unfold checkK
  simp only [Bool.and_eq_true, decide_eq_true_eq, List.all_eq_true]
  refine ⟨h1, by omega, h3, h4, ?_⟩
  unfold opsK at h5 ⊢
  have e1 := opTo_run k.vars k.ops k.ops.length (Nat.le_refl _)
  have e2 := opTo_run k.vars (askOps k.ops) (askOps k.ops).length (Nat.le_refl _)
  rw [List.take_length] at e1 e2
  cases hq : opTo k.vars k.ops k.ops.length with
  | none => rw [hq] at h5; cases h5
  | some s =>
    rw [hq] at h5 e1
    rw [e2, run_ask k.ops _ (by simp) s e1.symm]
    exact h5
theorem ask_split {ops : List KOp} : ∀ {i : Nat} {q : KOp}, (askOps ops)[i]? = some q → q.kind ≠ 17 → ∃ pre post, askOps ops = pre ++ ((needsF q).map needOp ++ q :: post) ∧ i = pre.length + (needsF q).length ∧ q ∈ ops := by
  induction ops with
  | nil => intro i q h; simp [askOps] at h
  | cons o r ih =>
    intro i q h hk
    rw [askOps_cons] at h ⊢
    rcases Nat.lt_or_ge i (insOps o).length with hi | hi
    · rw [List.getElem?_append_left hi] at h
      by_cases h17 : o.kind = 17
      · unfold insOps at h hi
        rw [if_pos h17] at h hi
        have : i = 0 := by simpa using hi
        subst this
        cases h
        exact absurd h17 hk
      · unfold insOps at h hi ⊢
        rw [if_neg h17] at h hi ⊢
        rcases Nat.lt_or_ge i (needsF o).length with h1 | h1
        · rw [List.getElem?_append_left (by simpa using h1), List.getElem?_map] at h
          cases hf : (needsF o)[i]? with
          | none => rw [hf] at h; cases h
          | some f => rw [hf] at h; cases h; exact absurd rfl hk
        · have e : i = (needsF o).length := by simp at hi; omega
          rw [List.getElem?_append_right (by simpa using h1), e] at h
          simp at h
          subst h
          exact ⟨[], askOps r, by simp, by simpa using e, List.mem_cons_self⟩
    · rw [List.getElem?_append_right hi] at h
      obtain ⟨pre, post, h1, h2, h3⟩ := ih h hk
      exact ⟨insOps o ++ pre, post, by rw [h1, List.append_assoc], by rw [List.length_append]; omega, List.mem_cons_of_mem _ h3⟩
end Go.Proofs.YtjbabpnepjhllaaGreat

/- law21: DutiesAsked, plain: all needs are known. -/
namespace Go.Proofs.YtjbabpnepjhllaaGreat

/-- All needs are known. -/
theorem ask_known {k : Krn} {A : List (List Fct)} (hc : checkK ⟨k.vars, askOps k.ops, k.reqs⟩ = true) (hA : AheadIs ⟨k.vars, askOps k.ops, k.reqs⟩ A) (hm : ∀ o ∈ k.ops, o.kind ≠ 17 → ∀ f ∈ needsF o, mayF f = true)
    {i : Nat} {q : KOp} (hq : (askOps k.ops)[i]? = some q) (h17 : q.kind ≠ 17) {f : Fct} (hf : f ∈ needsF q) : knowsF (A.getD i []) f = true := by
  obtain ⟨pre, post, h1, h2, h3⟩ := ask_split hq h17
  obtain ⟨l', hl, hg⟩ := ahead_good hc hA
  have hil : i < (askOps k.ops).length := (List.getElem?_eq_some_iff.1 hq).1
  have key : ∀ t, t ≤ (needsF q).length → ∀ g ∈ (needsF q).take t, g ∈ A.getD (pre.length + t) [] := by
    intro t
    induction t with
    | zero => intro _ g hg; simp at hg
    | succ t ih =>
      intro ht g hgm
      obtain ⟨p, hp⟩ : ∃ p, (needsF q)[t]? = some p := ⟨_, List.getElem?_eq_getElem (by omega)⟩
      have hpm := List.mem_of_getElem? hp
      have hop : (askOps k.ops)[pre.length + t]? = some (needOp p) := by
        rw [h1, List.getElem?_append_right (by omega), List.getElem?_append_left (by simp; omega), List.getElem?_map, show pre.length + t - pre.length = t by omega, hp]
        rfl
      have h4 := hg.op (pre.length + t) (needOp p) (Nat.zero_le _) (by simp only; omega) hop (by show (17 : Int) ≠ 15; decide) (by show (17 : Int) ≠ 16; decide)
      rw [gv_in (by simp only; omega), gv_in (by simp only; omega)] at h4
      rw [← Nat.add_assoc, h4, mem_afterF (by rintro ⟨h, _⟩; exact absurd h (by show ¬ (17 : Int) = 2; decide))]
      have hnw : ∀ l, newsF k.vars (needOp p) l = [p] := fun l => by
        rw [← needs_need (need_of h17 hpm)]
        rfl
      rw [List.take_add_one, hp] at hgm
      rcases List.mem_append.1 hgm with h5 | h5
      · have h6 := ih (by omega) g h5
        have hgq := List.mem_of_mem_take h5
        exact ⟨hm q h3 h17 g hgq, .inr ⟨h6, rfl⟩⟩
      · simp at h5
        subst h5
        refine ⟨hm q h3 h17 g hpm, .inl ?_⟩
        rw [hnw]
        exact List.mem_singleton.2 rfl
  rw [h2]
  exact knowsF_mem (key _ (Nat.le_refl _) f (by rw [List.take_length]; exact hf))
end Go.Proofs.YtjbabpnepjhllaaGreat

/- law21: DutiesAsked, the memory: a kernel whose operations grow; a row of bools that grows. -/
namespace Go.Proofs.YtjbabpnepjhllaaGreat
open Go.RowKit

theorem infoKopA : (Tryz.prog.info? 43).map (fun i => (i.zero, i.size, i.bytes)) = some (some (.agg #[.int .i64 0, .int .i64 0, .int .i64 0, .int .i64 0, .int .i64 0, .int .i64 0, .int .u64 0]), 7, 56) := by kernel_rfl
def cellsK (l : List KOp) : List Value := (l.map kopRow).flatten
theorem cellsK_snoc (l : List KOp) (q : KOp) : cellsK (l ++ [q]) = cellsK l ++ kopRow q := by simp [cellsK]
def boolV (l : List Bool) : List Value := l.map Value.bool
theorem boolV_snocA (l : List Bool) (b : Bool) : boolV (l ++ [b]) = boolV l ++ [.bool b] := by simp [boolV]
theorem flat_boolsA (l : List Bool) : (l.map fun n => [Value.bool n]).flatten = boolV l := by
  unfold boolV
  induction l with
  | nil => rfl
  | cons a l ih => simp only [List.map_cons, List.flatten_cons, ih]; rfl
theorem kops_own {w : World} {base : Nat} {v : Value} {l : List KOp} (h : w.ownsRow base 43 7 v l.length (cellsK l)) : KOpsAt w (fun k => v.ownBlock = some k) v l := by
  have hsz : ∀ r ∈ (l.map kopRow), r.length = 7 := by intro r hr; obtain ⟨x, _, rfl⟩ := List.mem_map.1 hr; rfl
  rcases Nat.eq_zero_or_pos l.length with h0 | hpos
  · obtain rfl := List.eq_nil_of_length_eq_zero h0
    rcases h.2 with ⟨rfl, _⟩ | ⟨g, cap, cur, rfl, _, _, hnc, _⟩
    · exact ⟨none, 0, rfl, by simp, by simp, fun h => absurd rfl h⟩
    · exact ⟨_, cap, rfl, by simp, by simp, fun h => absurd rfl h⟩
  · obtain ⟨g, cap, rfl, hg, hnc, hrow⟩ := rowsBlk_of_own (show w.ownsRow base 43 7 v l.length (l.map kopRow).flatten from h) hsz hpos
    refine ⟨_, cap, by simp, by simpa using hnc, hsz, fun _ => ⟨g, 0, rfl, rfl, fun i j r u hr hu => ?_⟩⟩
    rw [Nat.zero_add]
    exact hrow.cell hr hu
theorem bits_ownA {w : World} {base : Nat} {v : Value} {l : List Bool} (h : w.ownsRow base 4 1 v l.length (boolV l)) : BitsAt w (fun k => v.ownBlock = some k) v l := by
  have hsz : ∀ r ∈ (l.map fun n => [Value.bool n]), r.length = 1 := by intro r hr; obtain ⟨x, _, rfl⟩ := List.mem_map.1 hr; rfl
  have hfl := flat_boolsA l
  rcases Nat.eq_zero_or_pos l.length with h0 | hpos
  · obtain rfl := List.eq_nil_of_length_eq_zero h0
    rcases h.2 with ⟨rfl, _⟩ | ⟨g, cap, cur, rfl, _, _, hnc, _⟩
    · exact ⟨none, 0, rfl, by simp, by simp, fun h => absurd rfl h⟩
    · exact ⟨_, cap, rfl, by simp, by simp, fun h => absurd rfl h⟩
  · rw [← hfl] at h
    obtain ⟨g, cap, rfl, hg, hnc, hrow⟩ := rowsBlk_of_own h hsz hpos
    refine ⟨_, cap, by simp, by simpa using hnc, hsz, fun _ => ⟨g, 0, rfl, rfl, fun i j r u hr hu => ?_⟩⟩
    rw [Nat.zero_add]
    exact hrow.cell hr hu

variable {o : Oper} {a : Act} {w : World}
theorem exec_kop1A {q : KOp} (x : Operand) (ho : o.op = .buildSlice 23 1 #[(0, x)]) (hx : a.eval x = .agg (kopRow q).toArray) :
    (execOp a.eval o).run Tryz.prog w = .ok (.value (.slice (some ⟨w.heap.size, 0, none⟩) 1 1)) (w.alloc (.cells (kopRow q).toArray 43)) := by
  obtain ⟨j0, hie, hy0, hy1, hy2⟩ := info_parts infoKopA
  have h := run_buildSlice (P := Tryz.prog) w 23 43 1 #[(0, .agg (kopRow q).toArray)] (kopRow q).toArray j0 _ Tryz.underlying23 hie hy0 (by rw [hy1]; decide) (by rw [hy1]; decide) (by rw [hy1]; kernel_rfl)
  unfold execOp
  simp only [ho, hx, List.map_toArray, List.map_cons, List.map_nil, Sem.run_bind, h, Result.andThen_ok, Sem.run_pure]
theorem exec_appendK {base n : Nat} {v : Value} {l : List KOp} {q : KOp} {g : Nat} (s x : Operand) (ho : o.op = .call { callee := .builtin .append, args := #[s, x], argTypes := #[23, 23] })
    (hs : a.eval s = v) (hown : w.ownsRow base 43 7 v n (cellsK l)) (hx : a.eval x = .slice (some ⟨g, 0, none⟩) 1 1) (hg : w.heap[g]? = some (.cells (kopRow q).toArray 43 (0, 0))) (h63 : n ≤ 1000000) (hbase : base ≤ w.heap.size) :
    ∃ v' w', (execOp a.eval o).run Tryz.prog w = .ok (.value v') w' ∧ w'.ownsRow base 43 7 v' (n + 1) (cellsK (l ++ [q])) ∧ w.grownBy w' v.ownBlock ∧ (v'.ownBlock = v.ownBlock ∨ v'.ownBlock = some w.heap.size) := by
  obtain ⟨j0, hie, hy0, hy1, hy2⟩ := info_parts infoKopA
  obtain ⟨v', w', h1, h2, h3, _, h5⟩ := run_append_own_at (P := Tryz.prog) w base 23 o.type 43 j0 (.agg #[.int .i64 0, .int .i64 0, .int .i64 0, .int .i64 0, .int .i64 0, .int .i64 0, .int .u64 0]) 7 56 Tryz.underlying23 hie hy0 hy1 hy2 rfl (by decide) v n (cellsK l) hown ⟨g, 0, none⟩ 1 1 (kopRow q) rfl
    (by simpa using World.news_of_block (cs := (kopRow q).toArray) (t := 43) (fr := (0, 0)) hg) (by simp [Value.oneCell', kopRow]) (by unfold maxLen; omega) (by omega) hbase
  refine ⟨v', w', ?_, by rw [cellsK_snoc]; exact h2, h3, h5⟩
  unfold execOp
  simp only [ho, resolve, invoke, builtin, hs, hx, List.map_toArray, List.map_cons, List.map_nil, Sem.run_bind, h1, Result.andThen_ok, Sem.run_pure]
theorem runL_appendK {ops : Array Oper} {Q : Act → World → Prop} {S : World → Prop} {o : Oper} {l : List Oper} {a : Act} {w : World} (hT : isT o = true) (hw : Region.wanted o (yielded ops a.tmps) = true) {base n : Nat} {v : Value} {xs : List KOp} {q : KOp} {g : Nat}
    (s x : Operand) (ho : o.op = .call { callee := .builtin .append, args := #[s, x], argTypes := #[23, 23] }) (hs : a.eval s = v) (hown : w.ownsRow base 43 7 v n (cellsK xs)) (hx : a.eval x = .slice (some ⟨g, 0, none⟩) 1 1)
    (hg : w.heap[g]? = some (.cells (kopRow q).toArray 43 (0, 0))) (h63 : n ≤ 1000000) (hbase : base ≤ w.heap.size)
    (k : ∀ v' w', w'.ownsRow base 43 7 v' (n + 1) (cellsK (xs ++ [q])) → w.grownBy w' v.ownBlock → (v'.ownBlock = v.ownBlock ∨ v'.ownBlock = some w.heap.size) → S w' ∧ runL Tryz.prog ops S Q l (a.put o.dst v') w') : runL Tryz.prog ops S Q (o :: l) a w := by
  obtain ⟨v', w', h1, h2, h3, h4⟩ := exec_appendK s x ho hs hown hx hg h63 hbase
  obtain ⟨k1, k2⟩ := k v' w' h2 h3 h4
  exact runL_op hT hw h1 (.inr k1) k2

theorem setCell_rowK {w : World} {b ty : Nat} {row : List Value} (h : w.heap[b]? = some (.cells row.toArray ty (0, 0))) (k : Nat) (v : Value) : (w.setCell ⟨b, k, none⟩ v).heap[b]? = some (.cells (row.set k v).toArray ty (0, 0)) := by
  rw [World.setCell]
  simp only [Array.getElem?_modify, if_pos, h, Option.map_some]
  simp
/-- The kernel that grows: its box, its operations. -/
structure AskO (W : World) (bo : Nat) (v0 v2 : Value) (O : List KOp) (A : Option Addr) (m c : Nat) (w : World) : Prop where
  box : w.heap[bo]? = some (.cells #[v0, .slice A m c, v2] 25 (0, 0))
  own : w.ownsRow W.heap.size 43 7 (.slice A m c) m (cellsK O)
  len : m = O.length
  ne : (Value.slice A m c).ownBlock ≠ some bo
  low : W.heap.size ≤ bo
  bel : Below W.heap.size W w
/-- The row of bools that grows. -/
structure AskN (W : World) (bo : Nat) (vo va : Value) (ma : Nat) (bs : List Bool) (w : World) : Prop where
  own : w.ownsRow W.heap.size 4 1 va ma (boolV bs)
  len : ma = bs.length
  ne : va.ownBlock ≠ some bo
  apart : ∀ k, va.ownBlock = some k → vo.ownBlock ≠ some k
theorem AskO.cells {W : World} {bo : Nat} {v0 v2 : Value} {O : List KOp} {A : Option Addr} {m c : Nat} {w : World} (h : AskO W bo v0 v2 O A m c w) : w.cell? ⟨bo, 0, none⟩ = some v0 ∧ w.cell? ⟨bo, 1, none⟩ = some (.slice A m c) ∧ w.cell? ⟨bo, 2, none⟩ = some v2 := by
  simp [World.cell?, h.box]
theorem kept_below {base e sz n : Nat} {v : Value} {xs : List Value} {w w' : World} (h : w.ownsRow base e sz v n xs) (hb : Below w.heap.size w w') : w'.ownsRow base e sz v n xs :=
  h.kept (grownBy_of_below hb) (by cases hh : v.ownBlock <;> simp)
theorem AskO.next {W : World} {bo : Nat} {v0 v2 : Value} {O : List KOp} {A : Option Addr} {m c : Nat} {w w' : World} (h : AskO W bo v0 v2 O A m c w) (hb : Below w.heap.size w w') : AskO W bo v0 v2 O A m c w' :=
  ⟨(hb.block bo (lt_of_block h.box)).trans h.box, kept_below h.own hb, h.len, h.ne, h.low, h.bel.trans (hb.mono h.bel.size)⟩
theorem AskN.next {W : World} {bo : Nat} {vo va : Value} {ma : Nat} {bs : List Bool} {w w' : World} (h : AskN W bo vo va ma bs w) (hb : Below w.heap.size w w') : AskN W bo vo va ma bs w' := ⟨kept_below h.own hb, h.len, h.ne, h.apart⟩
/-- One operation more. -/
theorem ask_push {W : World} {bo : Nat} {v0 v2 va : Value} {O : List KOp} {A A2 : Option Addr} {m c c2 ma : Nat} {bs : List Bool} {w w1 w2 : World} {q : KOp} (h : AskO W bo v0 v2 O A m c w) (hn : AskN W bo (.slice A m c) va ma bs w) (h1 : Below w.heap.size w w1)
    (h2 : w2.ownsRow W.heap.size 43 7 (.slice A2 (m + 1) c2) (m + 1) (cellsK (O ++ [q]))) (hg : (w1.alloc (.cells (kopRow q).toArray 43)).grownBy w2 (Value.slice A m c).ownBlock)
    (hw : (Value.slice A2 (m + 1) c2).ownBlock = (Value.slice A m c).ownBlock ∨ (Value.slice A2 (m + 1) c2).ownBlock = some (w1.alloc (.cells (kopRow q).toArray 43)).heap.size) :
    AskO W bo v0 v2 (O ++ [q]) A2 (m + 1) c2 (w2.setCell ⟨bo, 1, none⟩ (.slice A2 (m + 1) c2)) ∧ AskN W bo (.slice A2 (m + 1) c2) va ma bs (w2.setCell ⟨bo, 1, none⟩ (.slice A2 (m + 1) c2)) ∧
      Chg (fun q => q = bo ∨ (Value.slice A m c).ownBlock = some q) w (w2.setCell ⟨bo, 1, none⟩ (.slice A2 (m + 1) c2)) ∧ ∀ q, (Value.slice A2 (m + 1) c2).ownBlock = some q → (Value.slice A m c).ownBlock = some q ∨ w.heap.size ≤ q := by
  have hbl := lt_of_block h.box
  have hs1 := h1.size
  have hs2 : w1.heap.size + 1 ≤ w2.heap.size := by have := hg.size; simpa using this
  have hal : Below w.heap.size w (w1.alloc (.cells (kopRow q).toArray 43)) := h1.alloc hs1 _
  have hx2 : w2.heap[bo]? = some (.cells #[v0, .slice A m c, v2] 25 (0, 0)) := (hg.block bo (by have := hal.size; omega) (fun e => h.ne e.symm)).trans ((hal.block bo hbl).trans h.box)
  have hne : (Value.slice A2 (m + 1) c2).ownBlock ≠ some bo := fun e => by
    rcases hw with e1 | e1
    · exact h.ne (e1 ▸ e)
    · rw [e1] at e
      simp at e; omega
  have hown2 : w2.ownsRow W.heap.size 4 1 va ma (boolV bs) := (kept_below hn.own hal).kept hg (by
    cases hh : va.ownBlock with
    | none => exact .inl rfl
    | some k => exact .inr fun e => hn.apart k hh e.symm)
  refine ⟨⟨?_, h2.kept (grownBy_setCell _ _ _ _) (.inr hne), by rw [List.length_append, ← h.len]; rfl, hne, h.low, ?_⟩, ⟨hown2.kept (grownBy_setCell _ _ _ _) (.inr hn.ne), hn.len, hn.ne, fun k hk e => ?_⟩, ⟨?_, ?_, ?_, by simp; omega, fun j hj hne => ?_⟩, fun q hq => ?_⟩
  · have := setCell_rowK (row := [v0, .slice A m c, v2]) hx2 1 (.slice A2 (m + 1) c2)
    exact this
  · refine Below.setCell ?_ h.low _
    refine Below.grown (h.bel.trans (hal.mono h.bel.size)) hg (by have := h.bel.size; have := hal.size; omega) fun k hk => ?_
    exact (own_lt h.own k hk).2
  · rcases hw with e1 | e1
    · exact hn.apart k hk (e1 ▸ e)
    · rw [e1] at e
      have := (own_lt hn.own k hk).1
      simp at e; omega
  · exact hg.os.trans hal.os
  · exact hg.tape.trans hal.tape
  · exact hg.output.trans hal.output
  · exact (Below.heap_setCell _ _ _ j (fun e => hne (.inl e))).trans ((hg.block j (by have := hal.size; omega) (fun e => hne (.inr e.symm))).trans (hal.block j hj))
  · rcases hw with e1 | e1
    · exact .inl (e1 ▸ hq)
    · rw [e1] at hq
      simp at hq; exact .inr (by omega)
/-- One bool more. -/
theorem ask_mark {W : World} {bo : Nat} {v0 v2 va va2 : Value} {O : List KOp} {A : Option Addr} {m c ma : Nat} {bs : List Bool} {b : Bool} {w w1 w2 : World} (h : AskO W bo v0 v2 O A m c w) (hn : AskN W bo (.slice A m c) va ma bs w) (h1 : Below w.heap.size w w1)
    (h2 : w2.ownsRow W.heap.size 4 1 va2 (ma + 1) (boolV bs ++ [.bool b])) (hg : w1.grownBy w2 va.ownBlock) (hw : va2.ownBlock = va.ownBlock ∨ va2.ownBlock = some w1.heap.size) :
    AskO W bo v0 v2 O A m c w2 ∧ AskN W bo (.slice A m c) va2 (ma + 1) (bs ++ [b]) w2 ∧ Chg (fun q => va.ownBlock = some q) w w2 ∧ ∀ q, va2.ownBlock = some q → va.ownBlock = some q ∨ w.heap.size ≤ q := by
  have hbl := lt_of_block h.box
  have hs1 := h1.size
  have hao := h.next h1
  refine ⟨⟨(hg.block bo (by omega) (fun e => hn.ne e.symm)).trans hao.box, hao.own.kept hg ?_, h.len, h.ne, h.low, ?_⟩, ⟨by rw [boolV_snocA]; exact h2, by rw [List.length_append, ← hn.len]; rfl, fun e => ?_, fun k hk => ?_⟩, ⟨hg.os.trans h1.os, hg.tape.trans h1.tape, hg.output.trans h1.output, by have := hg.size; omega, fun j hj hne => (hg.block j (by omega) (fun e => hne e.symm)).trans (h1.block j hj)⟩, fun q hq => ?_⟩
  · cases hh : (Value.slice A m c).ownBlock with
    | none => exact .inl rfl
    | some k => exact .inr fun e => hn.apart k e.symm hh
  · exact Below.grown hao.bel hg hao.bel.size fun k hk => (own_lt hn.own k hk).2
  · rcases hw with e1 | e1
    · exact hn.ne (e1 ▸ e)
    · rw [e1] at e; simp at e; omega
  · rcases hw with e1 | e1
    · exact hn.apart k (e1 ▸ hk)
    · rw [e1] at hk
      cases hk
      intro e
      have := (own_lt h.own _ e).1
      omega
  · rcases hw with e1 | e1
    · exact .inl (e1 ▸ hq)
    · rw [e1] at hq
      simp at hq; exact .inr (by omega)
/-- A row that is kept meanwhile: in blocks of K. -/
structure AskK (K : Nat → Prop) (bo : Nat) (vo va : Value) (w0 w : World) : Prop where
  kept : AskTo K w0 w
  free : ∀ q, K q → q < w0.heap.size ∧ q ≠ bo ∧ vo.ownBlock ≠ some q ∧ va.ownBlock ≠ some q
theorem AskK.below {K : Nat → Prop} {bo : Nat} {vo va : Value} {w0 w w' : World} (h : AskK K bo vo va w0 w) (hb : Below w.heap.size w w') : AskK K bo vo va w0 w' :=
  ⟨⟨h.kept.same.trans (SameOn.of_below hb fun k hk => by have := (h.free k hk).1; have := h.kept.size; omega), Nat.le_trans h.kept.size hb.size⟩, h.free⟩
theorem AskK.push {K : Nat → Prop} {bo : Nat} {vo vo2 va : Value} {w0 w w' : World} (h : AskK K bo vo va w0 w) (hc : Chg (fun q => q = bo ∨ vo.ownBlock = some q) w w') (hn : ∀ q, vo2.ownBlock = some q → vo.ownBlock = some q ∨ w.heap.size ≤ q) : AskK K bo vo2 va w0 w' := by
  have hs := h.kept.size
  refine ⟨⟨h.kept.same.trans (hc.same fun k hk => ⟨by have := (h.free k hk).1; omega, fun e => ?_⟩), Nat.le_trans hs hc.size⟩, fun q hq => ⟨(h.free q hq).1, (h.free q hq).2.1, fun e => ?_, (h.free q hq).2.2.2⟩⟩
  · rcases e with e | e
    · exact (h.free k hk).2.1 e
    · exact (h.free k hk).2.2.1 e
  · rcases hn q e with h1 | h1
    · exact (h.free q hq).2.2.1 h1
    · have := (h.free q hq).1; omega
theorem AskK.mark {K : Nat → Prop} {bo : Nat} {vo va va2 : Value} {w0 w w' : World} (h : AskK K bo vo va w0 w) (hc : Chg (fun q => va.ownBlock = some q) w w') (hn : ∀ q, va2.ownBlock = some q → va.ownBlock = some q ∨ w.heap.size ≤ q) : AskK K bo vo va2 w0 w' := by
  have hs := h.kept.size
  refine ⟨⟨h.kept.same.trans (hc.same fun k hk => ⟨by have := (h.free k hk).1; omega, fun e => (h.free k hk).2.2.2 e⟩), Nat.le_trans hs hc.size⟩, fun q hq => ⟨(h.free q hq).1, (h.free q hq).2.1, (h.free q hq).2.2.1, fun e => ?_⟩⟩
  rcases hn q e with h1 | h1
  · exact (h.free q hq).2.2.2 h1
  · have := (h.free q hq).1; omega
/-- The kernel at the end. -/
theorem AskO.kern {W : World} {bo : Nat} {Av Ar A : Option Addr} {nv cv nr cr m c : Nat} {O : List KOp} {w : World} {k : Krn} {vo0 : Value} (h : AskO W bo (.slice Av nv cv) (.slice Ar nr cr) O A m c w) (hk : KernAt W (fun q => q < W.heap.size) [.slice Av nv cv, vo0, .slice Ar nr cr] k) (hO : ∀ o ∈ O, KOpOk o) (hn : O.length ≤ 100000) :
    KernAt w (fun q => q < w.heap.size) [.slice Av nv cv, .slice A m c, .slice Ar nr cr] ⟨k.vars, O, k.reqs⟩ := by
  obtain ⟨vv, vo, vr, e, h1, h2, h3⟩ := (kern_next hk h.bel).row
  simp only [List.cons.injEq, and_true] at e
  obtain ⟨rfl, rfl, rfl⟩ := e
  have hl := h.len
  have ho := h.own
  rw [hl] at ho
  refine ⟨⟨_, _, _, rfl, h1, ?_, h3⟩, hk.nv, by simp only; omega, hk.nr, hk.vars, hO, hk.reqs⟩
  rw [hl]
  exact Rows.mono (kops_own ho) fun q hq => (own_lt ho q hq).1
end Go.Proofs.YtjbabpnepjhllaaGreat

/- ref20.Needs. -/
namespace Go.Proofs.YtjbabpnepjhllaaGreat
open Go.RowKit

set_option maxRecDepth 100000 in
set_option maxHeartbeats 4000000 in
/-- ref20.Needs. -/
theorem RNeeds_any (o : KOp) (w : World) : Calls Tryz.prog 16 #[.agg (kopRow o).toArray] w (SortedSays w.heap.size (needsF o) w) := by
  obtain ⟨W, hW⟩ : ∃ W, W = w.alloc (.cells (kopRow o).toArray 43) := ⟨_, rfl⟩
  have hb : Below w.heap.size w W := by rw [hW]; exact (Below.refl _ _).alloc (Nat.le_refl _) _
  have hz : W.heap.size = w.heap.size + 1 := by rw [hW]; simp
  have hblk : W.heap[w.heap.size]? = some (.cells (kopRow o).toArray 43 (0, 0)) := by rw [hW]; exact heap_alloc_new w _
  obtain ⟨W2, hW2⟩ : ∃ W2, W2 = (W.alloc (.cells #[.int .i64 2, .int .i64 o.a, .int .i64 o.c, .int .i64 2, .int .i64 o.b, .int .i64 o.c] 45)).alloc (.cells #[.int .i64 1, .int .i64 o.c, .int .i64 (-1)] 45) := ⟨_, rfl⟩
  have hz2 : W2.heap.size = W.heap.size + 2 := by rw [hW2]; simp
  have hb2 : Below W.heap.size W W2 := by rw [hW2]; exact ((Below.refl _ _).alloc (Nat.le_refl _) _).alloc (by simp) _
  have hl : W2.heap[W.heap.size]? = some (.cells (cellsOfF [lessF o.a o.c, lessF o.b o.c]).toArray 45 (0, 0)) := by
    rw [hW2]; exact (Below.heap_alloc _ _ _ (by simp)).trans (heap_alloc_new W _)
  have ho : W2.heap[W.heap.size + 1]? = some (.cells #[.int .i64 1, .int .i64 o.c, .int .i64 (-1)] 45 (0, 0)) := by
    have := heap_alloc_new (W.alloc (.cells #[.int .i64 2, .int .i64 o.a, .int .i64 o.c, .int .i64 2, .int .i64 o.b, .int .i64 o.c] 45)) (.cells #[.int .i64 1, .int .i64 o.c, .int .i64 (-1)] 45)
    rw [hW2]; simpa using this
  have hk2 := (hb2.block w.heap.size (lt_of_block hblk)).trans hblk
  have c0 : W.cell? ⟨w.heap.size, 0, none⟩ = some (.int .i64 o.kind) := by simp only [World.cell?, hblk]; rfl
  have c3 : W.cell? ⟨w.heap.size, 3, none⟩ = some (.int .i64 o.a) := by simp only [World.cell?, hblk]; rfl
  have c4 : W.cell? ⟨w.heap.size, 4, none⟩ = some (.int .i64 o.b) := by simp only [World.cell?, hblk]; rfl
  have c5 : W.cell? ⟨w.heap.size, 5, none⟩ = some (.int .i64 o.c) := by simp only [World.cell?, hblk]; rfl
  have c6 : W.cell? ⟨w.heap.size, 6, none⟩ = some (.int .u64 o.imm) := by simp only [World.cell?, hblk]; rfl
  have HW := Lib.hid hW
  have HW2 := Lib.hid hW2
  have HB := Lib.hid hb
  have HB2 := Lib.hid hb2
  have HL := Lib.hid hl
  have HO := Lib.hid ho
  have HZ := Lib.hid (And.intro hz hz2)
  have l0 : w.heap.size < W.heap.size := by omega
  clear hW hW2 hb hb2 hz hz2 hblk hl ho hk2
  have d0 := HB2.out.cell (p := ⟨w.heap.size, 0, none⟩) l0
  have d3 := HB2.out.cell (p := ⟨w.heap.size, 3, none⟩) l0
  have d4 := HB2.out.cell (p := ⟨w.heap.size, 4, none⟩) l0
  have d5 := HB2.out.cell (p := ⟨w.heap.size, 5, none⟩) l0
  have d6 := HB2.out.cell (p := ⟨w.heap.size, 6, none⟩) l0
  rw [c0] at d0
  rw [c3] at d3
  rw [c4] at d4
  rw [c5] at d5
  rw [c6] at d6
  obtain ⟨k, hk⟩ : ∃ k, o.kind = k := ⟨_, rfl⟩
  rw [hk] at c0 d0
  have hN : needsF o = if k = 9 then [aloneF 3 o.c] else if k = 10 ∨ k = 11 then [lessF o.a o.c, lessF o.b o.c] else if k = 12 then [aloneF 1 o.c, lessF o.a o.c, lessF o.b o.c] else if k = 13 then [aloneF 1 o.c, lessF o.a o.c] else if k = 17 then (if o.imm = 2 then [lessF o.a o.b] else if o.imm = 1 then [aloneF 1 o.a] else if o.imm = 3 then [aloneF 3 o.a] else []) else [] := by unfold needsF; rw [hk]
  clear hk
  have HEND := Lib.hid (show Below w.heap.size w W2 from HB.out.trans (HB2.out.mono HB.out.size))
  by_cases k9 : k = 9
  · subst k9
    have HN := Lib.hid (show needsF o = [aloneF 3 o.c] by rw [hN, if_pos rfl])
    clear hN
    go_enter Tryz.func16, Tryz.ntmps16
    go_upto_region 1 with fail
    rw [← HW.out]
    go_upto_region 3 with fail
    rw [← HW2.out]
    go_wp2
    go_ret
    exact ⟨_, rfl, by rw [HN.out]; exact own_lit (l := [aloneF 3 o.c]) (heap_alloc_new W2 _) (by have := HZ.out; omega) (by simp), below_lit HEND.out (Below.refl _ _) _⟩
  rw [if_neg k9] at hN
  by_cases k10 : k = 10 ∨ k = 11
  · rw [if_pos k10] at hN
    have HN := Lib.hid hN
    clear hN k9
    rcases k10 with rfl | rfl
    · go_enter Tryz.func16, Tryz.ntmps16
      go_upto_region 1 with fail
      rw [← HW.out]
      go_upto_region 3 with fail
      rw [← HW2.out]
      go_wp2
      go_ret
      exact ⟨_, rfl, by rw [HN.out]; exact own_lit (l := [lessF o.a o.c, lessF o.b o.c]) HL.out (by have := HZ.out; omega) (by simp), HEND.out⟩
    · go_enter Tryz.func16, Tryz.ntmps16
      go_upto_region 1 with fail
      rw [← HW.out]
      go_upto_region 3 with fail
      rw [← HW2.out]
      go_wp2
      go_ret
      exact ⟨_, rfl, by rw [HN.out]; exact own_lit (l := [lessF o.a o.c, lessF o.b o.c]) HL.out (by have := HZ.out; omega) (by simp), HEND.out⟩
  rw [if_neg k10] at hN
  have e9 : (k == 9) = false := beq_eq_false_iff_ne.2 k9
  have e10 : (k == 10) = false := beq_eq_false_iff_ne.2 fun e => k10 (.inl e)
  have e11 : (k == 11) = false := beq_eq_false_iff_ne.2 fun e => k10 (.inr e)
  have HCL := Lib.hid (show ∀ w_, Below W2.heap.size W2 w_ → w_.cell? ⟨W.heap.size + 1, 0, none⟩ = some (.int .i64 1) ∧ w_.cell? ⟨W.heap.size + 1, 1, none⟩ = some (.int .i64 o.c) ∧ w_.cell? ⟨W.heap.size + 1, 2, none⟩ = some (.int .i64 (-1)) ∧ w_.cell? ⟨W.heap.size, 0, none⟩ = some (.int .i64 2) ∧ w_.cell? ⟨W.heap.size, 1, none⟩ = some (.int .i64 o.a) ∧ w_.cell? ⟨W.heap.size, 2, none⟩ = some (.int .i64 o.c) ∧ w_.cell? ⟨W.heap.size, 3, none⟩ = some (.int .i64 2) ∧ w_.cell? ⟨W.heap.size, 4, none⟩ = some (.int .i64 o.b) ∧ w_.cell? ⟨W.heap.size, 5, none⟩ = some (.int .i64 o.c) from fun w_ h => by
    have h1 := (h.block _ (lt_of_block HO.out)).trans HO.out
    have h2 := (h.block _ (lt_of_block HL.out)).trans HL.out
    refine ⟨?_, ?_, ?_, ?_, ?_, ?_, ?_, ?_, ?_⟩ <;> first | (simp only [World.cell?, h1]; rfl) | (simp only [World.cell?, h2]; rfl))
  clear k9 k10
  by_cases k12 : k = 12
  · rw [if_pos k12] at hN
    have HN := Lib.hid hN
    subst k12
    clear hN
    go_enter Tryz.func16, Tryz.ntmps16
    go_upto_region 1 with fail
    rw [← HW.out]
    go_upto_region 3 with fail
    rw [← HW2.out]
    go_upto_region 10 with fail
    have hS := (Below.refl W2.heap.size W2).drew
    (refine wp_region_lines (Below W2.heap.size W2) (by kernel_rfl) (by kernel_rfl) (Below.refl W2.heap.size W2).drew ?_)
    (try simp only [])
    repeat (first | (refine runL_no (by rfl) ?_; (try simp only [Act.put, List.setIfInBounds_toArray, List.set_cons_zero, List.set_cons_succ])) | (refine runL_val (v := ?_) (by rfl) ?_ ?_; rotate_left; (focus (intro w_ hw_; obtain ⟨q0_, q1_, q2_, p0_, p1_, p2_, p3_, p4_, p5_⟩ := HCL.out w_ hw_; go_simp; (try with_reducible rfl); done)); (try simp only [Act.put, List.setIfInBounds_toArray, List.set_cons_zero, List.set_cons_succ])) | (refine runL_op (by rfl) (by rfl) (exec_facts3 (f := aloneF 1 o.c) (g := lessF o.a o.c) (h := lessF o.b o.c) _ _ _ rfl rfl rfl rfl) (.inr (below_lit (Below.refl _ _) hS _)) ?_; (try simp only [Act.put, List.setIfInBounds_toArray, List.set_cons_zero, List.set_cons_succ])))
    (refine runL_nil ?_)
    go_wp2
    go_ret
    exact ⟨_, rfl, by rw [HN.out]; exact own_lit (l := [aloneF 1 o.c, lessF o.a o.c, lessF o.b o.c]) (heap_alloc_new W2.drew _) (by have := HZ.out; show w.heap.size ≤ W2.heap.size; omega) (by simp), below_lit HEND.out hS _⟩
  rw [if_neg k12] at hN
  have e12 : (k == 12) = false := beq_eq_false_iff_ne.2 k12
  clear k12
  by_cases k13 : k = 13
  · rw [if_pos k13] at hN
    have HN := Lib.hid hN
    subst k13
    clear hN
    go_enter Tryz.func16, Tryz.ntmps16
    go_upto_region 1 with fail
    rw [← HW.out]
    go_upto_region 3 with fail
    rw [← HW2.out]
    go_upto_region 12 with fail
    have hS := (Below.refl W2.heap.size W2).drew
    (refine wp_region_lines (Below W2.heap.size W2) (by kernel_rfl) (by kernel_rfl) (Below.refl W2.heap.size W2).drew ?_)
    (try simp only [])
    repeat (first | (refine runL_no (by rfl) ?_; (try simp only [Act.put, List.setIfInBounds_toArray, List.set_cons_zero, List.set_cons_succ])) | (refine runL_val (v := ?_) (by rfl) ?_ ?_; rotate_left; (focus (intro w_ hw_; obtain ⟨q0_, q1_, q2_, p0_, p1_, p2_, p3_, p4_, p5_⟩ := HCL.out w_ hw_; go_simp; (try with_reducible rfl); done)); (try simp only [Act.put, List.setIfInBounds_toArray, List.set_cons_zero, List.set_cons_succ])) | (refine runL_op (by rfl) (by rfl) (exec_facts2 (f := aloneF 1 o.c) (g := lessF o.a o.c) _ _ rfl rfl rfl) (.inr (below_lit (Below.refl _ _) hS _)) ?_; (try simp only [Act.put, List.setIfInBounds_toArray, List.set_cons_zero, List.set_cons_succ])))
    (refine runL_nil ?_)
    go_wp2
    go_ret
    exact ⟨_, rfl, by rw [HN.out]; exact own_lit (l := [aloneF 1 o.c, lessF o.a o.c]) (heap_alloc_new W2.drew _) (by have := HZ.out; show w.heap.size ≤ W2.heap.size; omega) (by simp), below_lit HEND.out hS _⟩
  rw [if_neg k13] at hN
  have e13 : (k == 13) = false := beq_eq_false_iff_ne.2 k13
  clear k13
  by_cases k17 : k = 17
  · rw [if_pos k17] at hN
    subst k17
    obtain ⟨m, hm⟩ : ∃ m, o.imm = m := ⟨_, rfl⟩
    rw [hm] at hN c6 d6
    by_cases m2 : m = 2
    · rw [if_pos m2] at hN
      have HN := Lib.hid hN
      subst m2
      clear hN hm
      go_enter Tryz.func16, Tryz.ntmps16
      go_upto_region 1 with fail
      rw [← HW.out]
      go_upto_region 3 with fail
      rw [← HW2.out]
      go_wp2
      go_ret
      exact ⟨_, rfl, by rw [HN.out]; exact own_lit (l := [lessF o.a o.b]) (heap_alloc_new W2 _) (by have := HZ.out; omega) (by simp), below_lit HEND.out (Below.refl _ _) _⟩
    rw [if_neg m2] at hN
    have b2 : ((m : Int) == 2) = false := beq_eq_false_iff_ne.2 (by omega)
    by_cases m1 : m = 1
    · rw [if_pos m1] at hN
      have HN := Lib.hid hN
      subst m1
      clear hN hm m2
      go_enter Tryz.func16, Tryz.ntmps16
      go_upto_region 1 with fail
      rw [← HW.out]
      go_upto_region 3 with fail
      rw [← HW2.out]
      go_wp2
      go_ret
      exact ⟨_, rfl, by rw [HN.out]; exact own_lit (l := [aloneF 1 o.a]) (heap_alloc_new W2 _) (by have := HZ.out; omega) (by simp), below_lit HEND.out (Below.refl _ _) _⟩
    rw [if_neg m1] at hN
    by_cases m3 : m = 3
    · rw [if_pos m3] at hN
      have HN := Lib.hid hN
      subst m3
      clear hN hm m2 m1
      go_enter Tryz.func16, Tryz.ntmps16
      go_upto_region 1 with fail
      rw [← HW.out]
      go_upto_region 3 with fail
      rw [← HW2.out]
      go_wp2
      go_ret
      exact ⟨_, rfl, by rw [HN.out]; exact own_lit (l := [aloneF 3 o.a]) (heap_alloc_new W2 _) (by have := HZ.out; omega) (by simp), below_lit HEND.out (Below.refl _ _) _⟩
    rw [if_neg m3] at hN
    have HN := Lib.hid hN
    by_cases m0 : m = 0
    · subst m0
      clear hN hm m1 m2 m3
      go_enter Tryz.func16, Tryz.ntmps16
      go_upto_region 1 with fail
      rw [← HW.out]
      go_upto_region 3 with fail
      rw [← HW2.out]
      go_wp2
      go_ret
      exact ⟨_, rfl, by rw [HN.out]; exact World.ownsRow_nil _ _ _ _, HEND.out⟩
    · have b1 : decide ((1 : Int) ≤ (m : Int)) = true := decide_eq_true (by omega)
      have b3 : decide ((m : Int) ≤ 3) = false := decide_eq_false (by omega)
      have b3' : decide (m ≤ 3) = false := decide_eq_false (by omega)
      clear hN hm m0 m1 m2 m3
      go_enter Tryz.func16, Tryz.ntmps16
      go_upto_region 1 with fail
      rw [← HW.out]
      go_upto_region 3 with fail
      rw [← HW2.out]
      go_wp2
      go_ret
      exact ⟨_, rfl, by rw [HN.out]; exact World.ownsRow_nil _ _ _ _, HEND.out⟩
  rw [if_neg k17] at hN
  have e17 : (k == 17) = false := beq_eq_false_iff_ne.2 k17
  have HN := Lib.hid hN
  clear hN k17
  go_enter Tryz.func16, Tryz.ntmps16
  go_upto_region 1 with fail
  rw [← HW.out]
  go_upto_region 3 with fail
  rw [← HW2.out]
  go_wp2
  go_ret
  exact ⟨_, rfl, by rw [HN.out]; exact World.ownsRow_nil _ _ _ _, HEND.out⟩
end Go.Proofs.YtjbabpnepjhllaaGreat

/- law21: DutiesAsked, the walk. -/
namespace Go.Proofs.YtjbabpnepjhllaaGreat
open Go.RowKit

theorem need_ok {o : KOp} {f : Fct} (h : NeedOf o f) (ho : KOpOk o) : KOpOk (needOp f) ∧ FctOk f ∧ IntKind.u64.wrap f.kind = f.kind ∧ ((f.kind.toNat : Nat) : Int) = f.kind := by
  have hk : 1 ≤ f.kind ∧ f.kind ≤ 3 := by have := h.kind; omega
  have ha : In64 f.a := by
    rcases h.a with ⟨e, _⟩ | ⟨e, _⟩ | ⟨e, _⟩
    · rw [e]; exact ho.a
    · rw [e]; exact ho.b
    · rw [e]; exact ho.c
  have hb : In64 f.b := by
    rcases h.b with ⟨_, e, _⟩ | ⟨_, e⟩
    · rw [e]; exact ho.c
    · rw [e]; unfold In64; omega
  refine ⟨⟨by unfold needOp In64; simp only; omega, by unfold needOp In64; simp only; omega, by unfold needOp In64; simp only; omega, ha, hb, by unfold needOp In64; simp only; omega, by unfold needOp; simp only; omega⟩, ⟨by unfold In64; omega, ha, hb⟩, by simp [IntKind.wrap, IntKind.bits, IntKind.signed]; omega, by omega⟩
theorem ask_kok {ops : List KOp} (h : ∀ o ∈ ops, KOpOk o) : ∀ q ∈ askOps ops, KOpOk q := by
  intro q hq
  unfold askOps at hq
  obtain ⟨l, hl, hql⟩ := List.mem_flatten.1 hq
  obtain ⟨o, ho, rfl⟩ := List.mem_map.1 hl
  unfold insOps at hql
  split at hql
  · simp at hql; subst hql; exact h q ho
  · rename_i h17
    rcases List.mem_append.1 hql with h1 | h1
    · obtain ⟨f, hf, rfl⟩ := List.mem_map.1 h1
      exact (need_ok (need_of h17 hf) (h o ho)).1
    · simp at h1; subst h1; exact h q ho
def is17 (o : KOp) : Bool := o.kind == 17
set_option maxRecDepth 100000 in
set_option maxHeartbeats 20000000 in
/-- DutiesAsked. -/
theorem asked_any (Av Ao Ar : Option Addr) (nv cv no co nr cr : Nat) (k : Krn) (w : World) (hk : KernAt w (fun q => q < w.heap.size) [.slice Av nv cv, .slice Ao no co, .slice Ar nr cr] k) :
    Calls Tryz.prog 4 #[.agg #[.slice Av nv cv, .slice Ao no co, .slice Ar nr cr]] w fun e w' => e = .returned (.bool true) ∧ Below w.heap.size w w' := by
  obtain ⟨W, hW⟩ : ∃ W, W = w.alloc (.cells #[.slice Av nv cv, .slice Ao no co, .slice Ar nr cr] 25) := ⟨_, rfl⟩
  have hb : Below w.heap.size w W := by rw [hW]; exact (Below.refl _ _).alloc (Nat.le_refl _) _
  have hbox : W.heap[w.heap.size]? = some (.cells #[.slice Av nv cv, .slice Ao no co, .slice Ar nr cr] 25 (0, 0)) := by rw [hW]; exact heap_alloc_new w _
  have hk2 : KernAt W (fun k => k < W.heap.size) [.slice Av nv cv, .slice Ao no co, .slice Ar nr cr] k := (hk.keep (SameOn.of_below hb fun q hq => hq)).mono fun j hj => by have := hb.size; omega
  have hkb := kbox_of hbox hk2
  have HW := Lib.hid hW
  have HB := Lib.hid hb
  have HK := Lib.hid hkb
  have HKW := Lib.hid hk2
  have HLV := Lib.hid (lives_any W)
  have HLK := Lib.hid (fun (w1 : World) (h1 : Below W.heap.size W w1) => light_any Av Ao Ar nv cv no co nr cr k w1 _ (kern_next hk2 h1) (fun k hk => hk))
  have c0 := hkb.c0
  have c1 := hkb.c1
  have c2 := hkb.c2
  have hno := hkb.nv.2.1
  cases hL : lightK k
  · rw [hL] at HLK
    clear hW hb hbox hk2 hkb hk hL c0 c1 c2 hno
    go_enter Tryz.func4, Tryz.ntmps4
    go_upto_region 1 with (first | go_in)
    rw [← HW.out]
    clear HW
    go_upto_region 3 with (first | ((with_reducible refine HLV.out.mono ?_); rintro e w1 ⟨rfl, hb1⟩; have HB1 := Lib.hid hb1; clear hb1) | go_in)
    have c0 := (HK.out.next HB1.out).c0
    have c1 := (HK.out.next HB1.out).c1
    have c2 := (HK.out.next HB1.out).c2
    go_wp2_with (first | ((with_reducible refine (HLK.out _ HB1.out).mono ?_); rintro e w2 ⟨rfl, hb2⟩; have HB2 := Lib.hid (HB1.out.trans (hb2.mono HB1.out.size)); clear c0 c1 c2; have c0 := (HK.out.next HB2.out).c0; have c1 := (HK.out.next HB2.out).c1; have c2 := (HK.out.next HB2.out).c2; clear hb2) | go_in)
    go_ret
    exact ⟨rfl, HB.out.trans (HB2.out.mono HB.out.size)⟩
  rw [hL] at HLK
  obtain ⟨hv16, ho40, _⟩ := light_parts hL
  have HCK := Lib.hid (fun (w1 : World) (h1 : Below W.heap.size W w1) => rcheck_any Av Ao Ar nv cv no co nr cr k w1 _ (kern_next hk2 h1) (fun k hk => hk) (by omega))
  cases hc : checkK k
  · rw [show errK k = 2 by unfold errK; rw [hc]; rfl] at HCK
    clear hW hb hbox hk2 hkb hk hL c0 c1 c2 hno hc hv16 ho40
    go_enter Tryz.func4, Tryz.ntmps4
    go_upto_region 1 with (first | go_in)
    rw [← HW.out]
    clear HW
    go_upto_region 3 with (first | ((with_reducible refine HLV.out.mono ?_); rintro e w1 ⟨rfl, hb1⟩; have HB1 := Lib.hid hb1; clear hb1) | go_in)
    have c0 := (HK.out.next HB1.out).c0
    have c1 := (HK.out.next HB1.out).c1
    have c2 := (HK.out.next HB1.out).c2
    go_wp2_with (first | ((with_reducible refine (HLK.out _ HB1.out).mono ?_); rintro e w2 ⟨rfl, hb2⟩; have HB2 := Lib.hid (HB1.out.trans (hb2.mono HB1.out.size)); clear c0 c1 c2; have c0 := (HK.out.next HB2.out).c0; have c1 := (HK.out.next HB2.out).c1; have c2 := (HK.out.next HB2.out).c2; clear hb2) | ((with_reducible refine (HCK.out _ HB2.out).mono ?_); rintro e w3 ⟨rfl, hb3⟩; have HB3 := Lib.hid (HB2.out.trans (hb3.mono HB2.out.size)); clear c0 c1 c2; have c0 := (HK.out.next HB3.out).c0; have c1 := (HK.out.next HB3.out).c1; have c2 := (HK.out.next HB3.out).c2; clear hb3) | go_in)
    go_ret
    exact ⟨rfl, HB.out.trans (HB3.out.mono HB.out.size)⟩
  rw [show errK k = 0 by unfold errK; rw [hc]; rfl] at HCK
  have HC := Lib.hid hc
  have HNO := Lib.hid (And.intro hno (And.intro ho40 hv16))
  have hn40 : no ≤ 40 := by omega
  clear hW hb hbox hk2 hkb hk hL c0 c1 c2 hno hc hv16 ho40
  go_enter Tryz.func4, Tryz.ntmps4
  go_upto_region 1 with (first | go_in)
  rw [← HW.out]
  clear HW
  go_upto_region 3 with (first | ((with_reducible refine HLV.out.mono ?_); rintro e w1 ⟨rfl, hb1⟩; have HB1 := Lib.hid hb1; clear hb1) | go_in)
  have c0 := (HK.out.next HB1.out).c0
  have c1 := (HK.out.next HB1.out).c1
  have c2 := (HK.out.next HB1.out).c2
  go_upto_region 6 with (first | ((with_reducible refine (HLK.out _ HB1.out).mono ?_); rintro e w2 ⟨rfl, hb2⟩; have HB2 := Lib.hid (HB1.out.trans (hb2.mono HB1.out.size)); clear c0 c1 c2; have c0 := (HK.out.next HB2.out).c0; have c1 := (HK.out.next HB2.out).c1; have c2 := (HK.out.next HB2.out).c2; clear hb2) | ((with_reducible refine (HCK.out _ HB2.out).mono ?_); rintro e w3 ⟨rfl, hb3⟩; have HB3 := Lib.hid (HB2.out.trans (hb3.mono HB2.out.size)); clear c0 c1 c2; have c0 := (HK.out.next HB3.out).c0; have c1 := (HK.out.next HB3.out).c1; have c2 := (HK.out.next HB3.out).c2; clear hb3) | go_in)
  clear c0 c1 c2 HLV HLK HCK
  obtain ⟨bo, hbo⟩ : ∃ bo, bo = w3.heap.size := ⟨_, rfl⟩
  obtain ⟨W5, hW5⟩ : ∃ W5, W5 = w3.alloc (.cells #[.slice Av nv cv, .slice none 0 0, .slice Ar nr cr] 25) := ⟨_, rfl⟩
  have HAO0 := Lib.hid (show AskO W bo (.slice Av nv cv) (.slice Ar nr cr) [] none 0 0 W5 from ⟨by rw [hW5, hbo]; exact heap_alloc_new w3 _, World.ownsRow_nil _ _ _ _, rfl, by simp [Value.ownBlock], by rw [hbo]; exact HB3.out.size, by rw [hW5]; exact HB3.out.alloc HB3.out.size _⟩)
  have HAN0 := Lib.hid (show AskN W bo (.slice none 0 0) (.slice none 0 0) 0 [] W5 from ⟨World.ownsRow_nil _ _ _ _, rfl, by simp [Value.ownBlock], fun k hk => by simp [Value.ownBlock] at hk⟩)
  rw [← hW5, ← hbo]
  clear hW5 hbo HB1 HB2 HB3
  obtain ⟨j0, hi, hz0, hz1, hz2⟩ := info_parts infoB
  have HI := Lib.hid (And.intro hi (And.intro hz0 (And.intro hz1 hz2)))
  clear hz0 hz1 hz2
  go_wp2
  go_loopw [2, 4, 5, 6, 7] (fun _ s4 s5 _ _ wr => ∃ (i : Nat) (A : Option Addr) (m c : Nat) (Aa : Option Addr) (ma ca : Nat), i ≤ no ∧ s5 = .int .i64 i ∧ s4 = .slice Aa ma ca ∧ AskO W bo (.slice Av nv cv) (.slice Ar nr cr) (askOps (k.ops.take i)) A m c wr ∧ AskN W bo (.slice A m c) (.slice Aa ma ca) ma ((askOps (k.ops.take i)).map is17) wr ∧ (∀ o ∈ k.ops.take i, o.kind ≠ 17 → ∀ f ∈ needsF o, mayF f = true)) (fun _ _ s5 _ _ _ => no - (intOf s5).toNat)
  case atStart => exact ⟨0, none, 0, 0, none, 0, 0, Nat.zero_le _, rfl, rfl, HAO0.out, HAN0.out, fun o ho => (by simp at ho)⟩
  case round =>
    obtain ⟨i, A, m, c, Aa, ma, ca, hi, rfl, rfl, hao, han, hmo⟩ := hrel
    have HMO := Lib.hid hmo
    have c1 := (HK.out.next hao.bel).c1
    by_cases hlt : i < no
    · have d1 : decide (i < no) = true := decide_eq_true hlt
      obtain ⟨o, ho⟩ : ∃ o, k.ops[i]? = some o := ⟨_, List.getElem?_eq_getElem (by have := HNO.out.1; omega)⟩
      have HOX := Lib.hid ho
      have HOK := Lib.hid (HKW.out.ops o (List.mem_of_getElem? ho))
      obtain ⟨gg, off, hA, hgg, x0, x1, x2, x3, x4, x5, x6⟩ := HK.out.ops.at_ ho
      subst hA
      have HOC := Lib.hid (show ∀ w_, Below W.heap.size W w_ → w_.cell? ⟨w.heap.size, 1, none⟩ = some (.slice (some ⟨gg, off, none⟩) no co) ∧ w_.cell? ⟨gg, off + i * 7, none⟩ = some (.int .i64 o.kind) ∧ w_.cell? ⟨gg, off + i * 7 + 1, none⟩ = some (.int .i64 o.d) ∧ w_.cell? ⟨gg, off + i * 7 + 2, none⟩ = some (.int .i64 o.e) ∧ w_.cell? ⟨gg, off + i * 7 + 3, none⟩ = some (.int .i64 o.a) ∧ w_.cell? ⟨gg, off + i * 7 + 4, none⟩ = some (.int .i64 o.b) ∧ w_.cell? ⟨gg, off + i * 7 + 5, none⟩ = some (.int .i64 o.c) ∧ w_.cell? ⟨gg, off + i * 7 + 6, none⟩ = some (.int .u64 o.imm) from fun w_ h => ⟨(HK.out.next h).c1, (h.cell (p := ⟨gg, _, none⟩) hgg).trans x0, (h.cell (p := ⟨gg, _, none⟩) hgg).trans x1, (h.cell (p := ⟨gg, _, none⟩) hgg).trans x2, (h.cell (p := ⟨gg, _, none⟩) hgg).trans x3, (h.cell (p := ⟨gg, _, none⟩) hgg).trans x4, (h.cell (p := ⟨gg, _, none⟩) hgg).trans x5, (h.cell (p := ⟨gg, _, none⟩) hgg).trans x6⟩)
      clear x0 x1 x2 x3 x4 x5 x6 hgg ho hmo c1
      have i1 : (0 : Int) ≤ (i : Int) := by omega
      have i2 : (i : Int) < (no : Int) := by omega
      have i3 : IntKind.i64.wrap (i : Int) = i := by rw [IntKind.wrap_i64]; omega
      have HRN := Lib.hid (fun w_ => show Calls Tryz.prog 16 #[.agg #[.int .i64 o.kind, .int .i64 o.d, .int .i64 o.e, .int .i64 o.a, .int .i64 o.b, .int .i64 o.c, .int .u64 o.imm]] w_ _ from RNeeds_any o w_)
      have HNL := Lib.hid (needs_len o)
      have HAO4 := Lib.hid hao
      have HAN4 := Lib.hid han
      obtain ⟨c1, x0, x1, x2, x3, x4, x5, x6⟩ := HOC.out _ hao.bel
      clear hao han HAO0 HAN0
      go_upto_region 11 with (first | ((with_reducible refine (HRN.out _).mono ?_); rintro e_ w4 ⟨v4, rfl, ho4, hb4⟩; obtain ⟨An, cn, rfl⟩ := own_form ho4; have HO4 := Lib.hid ho4; have HB4 := Lib.hid hb4; clear ho4 hb4) | go_in)
      clear c1 x0 x1 x2 x3 x4 x5 x6 HRN
      obtain ⟨nn, hnn⟩ : ∃ nn, nn = (needsF o).length := ⟨_, rfl⟩
      have HNN := Lib.hid hnn
      have hnn3 : nn ≤ 3 := by have := HNL.out; omega
      obtain ⟨K, hK⟩ : ∃ K : Nat → Prop, K = fun q => wr.heap.size ≤ q ∧ q < w4.heap.size := ⟨_, rfl⟩
      have HNF := Lib.hid (show FactsAt w4 K (.slice An nn cn) (needsF o) by
        rw [hnn, hK]
        exact Rows.mono (facts_own HO4.out) fun q hq => ⟨(own_lt HO4.out q hq).2, (own_lt HO4.out q hq).1⟩)
      have HAO5 := Lib.hid (HAO4.out.next HB4.out)
      have HAN5 := Lib.hid (HAN4.out.next HB4.out)
      have HAK5 := Lib.hid (show AskK K bo (.slice A m c) (.slice Aa ma ca) w4 w4 from ⟨AskTo.refl _ _, fun q hq => by
        rw [hK] at hq
        refine ⟨hq.2, fun e => ?_, fun e => ?_, fun e => ?_⟩
        · have := lt_of_block HAO4.out.box; omega
        · have := (own_lt HAO4.out.own q e).1; omega
        · have := (own_lt HAN4.out.own q e).1; omega⟩)
      rw [← hnn]
      clear hnn hK HO4 HAO4 HAN4
      go_wp2
      go_loopw [2, 4, 7] (fun _ s4 s7 wr2 => ∃ (n : Nat) (A : Option Addr) (m c : Nat) (Aa : Option Addr) (ma ca : Nat), n ≤ nn ∧ (o.kind = 17 → n = 0) ∧ s7 = .int .i64 n ∧ s4 = .slice Aa ma ca ∧ AskO W bo (.slice Av nv cv) (.slice Ar nr cr) (askOps (k.ops.take i) ++ ((needsF o).take n).map needOp) A m c wr2 ∧ AskN W bo (.slice A m c) (.slice Aa ma ca) ma ((askOps (k.ops.take i) ++ ((needsF o).take n).map needOp).map is17) wr2 ∧ (∀ f ∈ (needsF o).take n, mayF f = true) ∧ AskK K bo (.slice A m c) (.slice Aa ma ca) w4 wr2) (fun _ _ s7 _ => nn - (intOf s7).toNat)
      case atStart => exact ⟨0, A, m, c, Aa, ma, ca, Nat.zero_le _, fun _ => rfl, rfl, rfl, by simpa using HAO5.out, by simpa using HAN5.out, fun f hf => (by simp at hf), HAK5.out⟩
      case round =>
        obtain ⟨n, A, m, c, Aa, ma, ca, hn, h17n, rfl, rfl, hao, han, hmy, hak⟩ := hrel
        have HAO := Lib.hid hao
        have HAN := Lib.hid han
        have HMY := Lib.hid hmy
        have HAK := Lib.hid hak
        have HML := Lib.hid (show m ≤ 200 by
          have h1 := hao.len
          have h2 := askOps_len (k.ops.take i)
          rw [List.length_append, List.length_map, List.length_take] at h1
          rw [List.length_take] at h2
          omega)
        have hma : ma ≤ 200 := by
          have h1 := han.len
          have h2 := hao.len
          have := HML.out
          rw [List.length_map] at h1
          omega
        obtain ⟨c1, x0, _⟩ := HOC.out _ hao.bel
        by_cases h17 : o.kind = 17
        · have e17 : (o.kind != 17) = false := by rw [bne, beq_iff_eq.2 h17]; rfl
          have f17 : (o.kind == 17) = true := beq_iff_eq.2 h17
          have HNX := Lib.hid (show askOps (k.ops.take (i + 1)) = (askOps (k.ops.take i) ++ ((needsF o).take n).map needOp) ++ [o] by
            rw [askOps_next HOX.out, h17n h17]
            unfold insOps
            rw [if_pos h17]
            simp)
          have HIS := Lib.hid (show is17 o = true from f17)
          have HML2 := Lib.hid (show o.kind ≠ 17 → ∀ f ∈ needsF o, mayF f = true from fun h => absurd h17 h)
          clear hao han hmy hak h17 h17n
          by_cases hlt2 : n < nn
          · have d2 : decide (n < nn) = true := decide_eq_true hlt2
            go_upto_region 18 with (first | go_in)
            have HAO1 := Lib.hid (HAO.out.next (Below.refl wr.heap.size wr).drew)
            have HAN1 := Lib.hid (HAN.out.next (Below.refl wr.heap.size wr).drew)
            have HM1 := Lib.hid (show m ≤ 1000000 from by have := HML.out; omega)
            have HBX := Lib.hid HAO1.out.box
            have HBL := Lib.hid (lt_of_block HAO1.out.box)
            have HBN := Lib.hid HAO.out.ne
            have HFS := Lib.hid (show ∀ w_ : World, (w_.heap[bo]? = wr.drew.heap[bo]? ∧ Below W.heap.size W w_) → w_.cell? ⟨bo, 1, none⟩ = some (.slice A m c) ∧ w_.cell? ⟨w.heap.size, 1, none⟩ = some (.slice (some ⟨gg, off, none⟩) no co) ∧ w_.cell? ⟨gg, off + i * 7, none⟩ = some (.int .i64 o.kind) ∧ w_.cell? ⟨gg, off + i * 7 + 1, none⟩ = some (.int .i64 o.d) ∧ w_.cell? ⟨gg, off + i * 7 + 2, none⟩ = some (.int .i64 o.e) ∧ w_.cell? ⟨gg, off + i * 7 + 3, none⟩ = some (.int .i64 o.a) ∧ w_.cell? ⟨gg, off + i * 7 + 4, none⟩ = some (.int .i64 o.b) ∧ w_.cell? ⟨gg, off + i * 7 + 5, none⟩ = some (.int .i64 o.c) ∧ w_.cell? ⟨gg, off + i * 7 + 6, none⟩ = some (.int .u64 o.imm) from fun w_ h_ => ⟨(World.cell?_of_block h_.1).trans (by simp [World.cell?, HBX.out]), HOC.out w_ h_.2⟩)
            (refine wp_region_lines (fun w_ : World => w_.heap[bo]? = wr.drew.heap[bo]? ∧ Below W.heap.size W w_) (by kernel_rfl) (by kernel_rfl) ⟨rfl, HAO1.out.bel⟩ ?_)
            (try simp only [])
            repeat (first | (refine runL_no (by rfl) ?_; (try simp only [Act.put, List.setIfInBounds_toArray, List.set_cons_zero, List.set_cons_succ])) | (refine runL_val (v := ?_) (by rfl) ?_ ?_; rotate_left; (focus (intro w_ hw_; obtain ⟨f0_, f1_, f2_, f3_, f4_, f5_, f6_, f7_, f8_⟩ := HFS.out w_ hw_; go_simp; (try with_reducible rfl); done)); (try simp only [Act.put, List.setIfInBounds_toArray, List.set_cons_zero, List.set_cons_succ])) | (refine runL_op (by rfl) (by rfl) (exec_kop1A (q := o) _ rfl rfl) (.inr ⟨Below.heap_alloc wr.drew _ bo HBL.out, HAO1.out.bel.alloc HAO1.out.bel.size _⟩) ?_; (try simp only [Act.put, List.setIfInBounds_toArray, List.set_cons_zero, List.set_cons_succ])) | (refine runL_appendK (by rfl) (by rfl) _ _ rfl (v := .slice A m c) rfl (HAO1.out.own.alloc _) rfl (heap_alloc_new wr.drew _) HM1.out (by have := HAO1.out.bel.size; have h5 : wr.drew.heap.size = wr.heap.size := rfl; simp; omega) ?_; intro v6 w6 ho6 hg6 hb6; obtain ⟨A6, c6, rfl⟩ := own_form ho6; have HO6 := Lib.hid ho6; have HG6 := Lib.hid hg6; have HW6 := Lib.hid hb6; have HS6 := Lib.hid (show w6.heap[bo]? = wr.drew.heap[bo]? ∧ Below W.heap.size W w6 from ⟨(hg6.block bo (by have := HBL.out; have h5 : wr.drew.heap.size = wr.heap.size := rfl; simp; omega) (fun e => HBN.out e.symm)).trans (Below.heap_alloc wr.drew _ bo HBL.out), Below.grown (HAO1.out.bel.alloc HAO1.out.bel.size _) hg6 (by have := HAO1.out.bel.size; have h5 : wr.drew.heap.size = wr.heap.size := rfl; simp; omega) (fun k hk => (own_lt HAO1.out.own k hk).2)⟩); clear ho6 hg6 hb6; refine ⟨HS6.out, ?_⟩; (try simp only [Act.put, List.setIfInBounds_toArray, List.set_cons_zero, List.set_cons_succ])) | (refine runL_skip (w1 := w6.setCell ⟨bo, 1, none⟩ (.slice A6 (m + 1) c6)) (by rfl) (by rfl) (exec_store1 23 _ _ rfl bo 1 (.slice A6 (m + 1) c6) rfl rfl (by kernel_rfl) (by simp [World.cell?, HS6.out.1, HBX.out]) (by simp [World.frozen?, HS6.out.1, HBX.out]) rfl) (.inl ⟨rfl, by kernel_rfl⟩) ?_; (try simp only [Act.put])))
            (refine runL_nil ?_)
            have hp := ask_push HAO1.out HAN1.out (Below.refl _ _) HO6.out HG6.out HW6.out
            obtain ⟨W6, hW6⟩ : ∃ W6, W6 = w6.setCell ⟨bo, 1, none⟩ (.slice A6 (m + 1) c6) := ⟨_, rfl⟩
            rw [← hW6] at hp
            rw [← hW6]
            have HAO2 := Lib.hid hp.1
            have HAN2 := Lib.hid hp.2.1
            clear hW6 hp HAO1 HAN1 HS6 HO6 HG6 HW6 HFS HBX HBL HBN HAO HAN
            obtain ⟨f1_, f2_, _⟩ := HOC.out _ HAO2.out.bel
            go_wp2_with (at_builtin; (refine wpList_append_own_at _ rfl _ _ 38 rfl W.heap.size 4 j0 (.bool false) 1 1 Tryz.underlying38 HI.out.1 HI.out.2.1 HI.out.2.2.1 HI.out.2.2.2 rfl (by decide) (.slice Aa ma ca) ma _ rfl (HAN2.out.own.alloc _) ⟨W6.heap.size, 0, none⟩ 1 1 [.bool true] rfl (by rfl) (World.news_of_block (cs := #[.bool true]) (t := 4) (fr := (0, 0)) (heap_alloc_new W6 _)) (by simp [Value.oneCell']) (by unfold maxLen; omega) (by omega) (by have := HAO2.out.bel.size; simp; omega) ?_); intro v7 w7 hown hg _ hwh; obtain ⟨A7, c7, rfl⟩ := own_form hown; have HO7 := Lib.hid hown; have HG7 := Lib.hid hg; have HW7 := Lib.hid hwh; clear hown hg hwh)
            have hp := ask_mark HAO2.out HAN2.out ((Below.refl W6.heap.size W6).alloc (Nat.le_refl _) _) HO7.out HG7.out HW7.out
            have HAO3 := Lib.hid hp.1
            have HAN3 := Lib.hid hp.2.1
            clear hp HAO2 HAN2 HO7 HG7 HW7
            go_roundw
            case rel =>
              refine ⟨i + 1, A6, m + 1, c6, A7, ma + 1, c7, by omega, by go_num, rfl, by rw [HNX.out]; exact HAO3.out, by rw [HNX.out, List.map_append]; simp only [List.map_cons, List.map_nil, HIS.out]; exact HAN3.out, fun q hq h f hf => ?_⟩
              rw [List.take_add_one, HOX.out] at hq
              rcases List.mem_append.1 hq with h1 | h1
              · exact HMO.out q h1 h f hf
              · simp at h1; subst h1; exact HML2.out h f hf
            case measure => simp [intOf]; omega
          · have d2 : decide (n < nn) = false := decide_eq_false hlt2
            go_upto_region 18 with (first | go_in)
            have HAO1 := Lib.hid (HAO.out.next (Below.refl wr.heap.size wr).drew)
            have HAN1 := Lib.hid (HAN.out.next (Below.refl wr.heap.size wr).drew)
            have HM1 := Lib.hid (show m ≤ 1000000 from by have := HML.out; omega)
            have HBX := Lib.hid HAO1.out.box
            have HBL := Lib.hid (lt_of_block HAO1.out.box)
            have HBN := Lib.hid HAO.out.ne
            have HFS := Lib.hid (show ∀ w_ : World, (w_.heap[bo]? = wr.drew.heap[bo]? ∧ Below W.heap.size W w_) → w_.cell? ⟨bo, 1, none⟩ = some (.slice A m c) ∧ w_.cell? ⟨w.heap.size, 1, none⟩ = some (.slice (some ⟨gg, off, none⟩) no co) ∧ w_.cell? ⟨gg, off + i * 7, none⟩ = some (.int .i64 o.kind) ∧ w_.cell? ⟨gg, off + i * 7 + 1, none⟩ = some (.int .i64 o.d) ∧ w_.cell? ⟨gg, off + i * 7 + 2, none⟩ = some (.int .i64 o.e) ∧ w_.cell? ⟨gg, off + i * 7 + 3, none⟩ = some (.int .i64 o.a) ∧ w_.cell? ⟨gg, off + i * 7 + 4, none⟩ = some (.int .i64 o.b) ∧ w_.cell? ⟨gg, off + i * 7 + 5, none⟩ = some (.int .i64 o.c) ∧ w_.cell? ⟨gg, off + i * 7 + 6, none⟩ = some (.int .u64 o.imm) from fun w_ h_ => ⟨(World.cell?_of_block h_.1).trans (by simp [World.cell?, HBX.out]), HOC.out w_ h_.2⟩)
            (refine wp_region_lines (fun w_ : World => w_.heap[bo]? = wr.drew.heap[bo]? ∧ Below W.heap.size W w_) (by kernel_rfl) (by kernel_rfl) ⟨rfl, HAO1.out.bel⟩ ?_)
            (try simp only [])
            repeat (first | (refine runL_no (by rfl) ?_; (try simp only [Act.put, List.setIfInBounds_toArray, List.set_cons_zero, List.set_cons_succ])) | (refine runL_val (v := ?_) (by rfl) ?_ ?_; rotate_left; (focus (intro w_ hw_; obtain ⟨f0_, f1_, f2_, f3_, f4_, f5_, f6_, f7_, f8_⟩ := HFS.out w_ hw_; go_simp; (try with_reducible rfl); done)); (try simp only [Act.put, List.setIfInBounds_toArray, List.set_cons_zero, List.set_cons_succ])) | (refine runL_op (by rfl) (by rfl) (exec_kop1A (q := o) _ rfl rfl) (.inr ⟨Below.heap_alloc wr.drew _ bo HBL.out, HAO1.out.bel.alloc HAO1.out.bel.size _⟩) ?_; (try simp only [Act.put, List.setIfInBounds_toArray, List.set_cons_zero, List.set_cons_succ])) | (refine runL_appendK (by rfl) (by rfl) _ _ rfl (v := .slice A m c) rfl (HAO1.out.own.alloc _) rfl (heap_alloc_new wr.drew _) HM1.out (by have := HAO1.out.bel.size; have h5 : wr.drew.heap.size = wr.heap.size := rfl; simp; omega) ?_; intro v6 w6 ho6 hg6 hb6; obtain ⟨A6, c6, rfl⟩ := own_form ho6; have HO6 := Lib.hid ho6; have HG6 := Lib.hid hg6; have HW6 := Lib.hid hb6; have HS6 := Lib.hid (show w6.heap[bo]? = wr.drew.heap[bo]? ∧ Below W.heap.size W w6 from ⟨(hg6.block bo (by have := HBL.out; have h5 : wr.drew.heap.size = wr.heap.size := rfl; simp; omega) (fun e => HBN.out e.symm)).trans (Below.heap_alloc wr.drew _ bo HBL.out), Below.grown (HAO1.out.bel.alloc HAO1.out.bel.size _) hg6 (by have := HAO1.out.bel.size; have h5 : wr.drew.heap.size = wr.heap.size := rfl; simp; omega) (fun k hk => (own_lt HAO1.out.own k hk).2)⟩); clear ho6 hg6 hb6; refine ⟨HS6.out, ?_⟩; (try simp only [Act.put, List.setIfInBounds_toArray, List.set_cons_zero, List.set_cons_succ])) | (refine runL_skip (w1 := w6.setCell ⟨bo, 1, none⟩ (.slice A6 (m + 1) c6)) (by rfl) (by rfl) (exec_store1 23 _ _ rfl bo 1 (.slice A6 (m + 1) c6) rfl rfl (by kernel_rfl) (by simp [World.cell?, HS6.out.1, HBX.out]) (by simp [World.frozen?, HS6.out.1, HBX.out]) rfl) (.inl ⟨rfl, by kernel_rfl⟩) ?_; (try simp only [Act.put])))
            (refine runL_nil ?_)
            have hp := ask_push HAO1.out HAN1.out (Below.refl _ _) HO6.out HG6.out HW6.out
            obtain ⟨W6, hW6⟩ : ∃ W6, W6 = w6.setCell ⟨bo, 1, none⟩ (.slice A6 (m + 1) c6) := ⟨_, rfl⟩
            rw [← hW6] at hp
            rw [← hW6]
            have HAO2 := Lib.hid hp.1
            have HAN2 := Lib.hid hp.2.1
            clear hW6 hp HAO1 HAN1 HS6 HO6 HG6 HW6 HFS HBX HBL HBN HAO HAN
            obtain ⟨f1_, f2_, _⟩ := HOC.out _ HAO2.out.bel
            go_wp2_with (at_builtin; (refine wpList_append_own_at _ rfl _ _ 38 rfl W.heap.size 4 j0 (.bool false) 1 1 Tryz.underlying38 HI.out.1 HI.out.2.1 HI.out.2.2.1 HI.out.2.2.2 rfl (by decide) (.slice Aa ma ca) ma _ rfl (HAN2.out.own.alloc _) ⟨W6.heap.size, 0, none⟩ 1 1 [.bool true] rfl (by rfl) (World.news_of_block (cs := #[.bool true]) (t := 4) (fr := (0, 0)) (heap_alloc_new W6 _)) (by simp [Value.oneCell']) (by unfold maxLen; omega) (by omega) (by have := HAO2.out.bel.size; simp; omega) ?_); intro v7 w7 hown hg _ hwh; obtain ⟨A7, c7, rfl⟩ := own_form hown; have HO7 := Lib.hid hown; have HG7 := Lib.hid hg; have HW7 := Lib.hid hwh; clear hown hg hwh)
            have hp := ask_mark HAO2.out HAN2.out ((Below.refl W6.heap.size W6).alloc (Nat.le_refl _) _) HO7.out HG7.out HW7.out
            have HAO3 := Lib.hid hp.1
            have HAN3 := Lib.hid hp.2.1
            clear hp HAO2 HAN2 HO7 HG7 HW7
            go_roundw
            case rel =>
              refine ⟨i + 1, A6, m + 1, c6, A7, ma + 1, c7, by omega, by go_num, rfl, by rw [HNX.out]; exact HAO3.out, by rw [HNX.out, List.map_append]; simp only [List.map_cons, List.map_nil, HIS.out]; exact HAN3.out, fun q hq h f hf => ?_⟩
              rw [List.take_add_one, HOX.out] at hq
              rcases List.mem_append.1 hq with h1 | h1
              · exact HMO.out q h1 h f hf
              · simp at h1; subst h1; exact HML2.out h f hf
            case measure => simp [intOf]; omega
        · have e17 : (o.kind != 17) = true := by rw [bne_iff_ne]; exact h17
          have f17 : (o.kind == 17) = false := beq_eq_false_iff_ne.2 h17
          have H17 := Lib.hid h17
          by_cases hlt2 : n < nn
          · have d2 : decide (n < nn) = true := decide_eq_true hlt2
            obtain ⟨x, hx⟩ : ∃ x, (needsF o)[n]? = some x := ⟨_, List.getElem?_eq_getElem (by have := HNN.out; omega)⟩
            have hno := need_of h17 (List.mem_of_getElem? hx)
            have hok := need_ok hno HOK.out
            have HX := Lib.hid hx
            have HND := Lib.hid (fun (w_ : World) => (lneed_any x.kind x.a x.b hok.2.2.1 w_).mono fun e w' h => (⟨h.1.trans (by rw [show kopRow (needOp x) = [.int .i64 17, .int .i64 (-1), .int .i64 (-1), .int .i64 x.a, .int .i64 x.b, .int .i64 (-1), .int .u64 x.kind] from (by unfold kopRow needOp; simp only; rw [hok.2.2.2])]), h.2⟩ : e = .returned (.agg (kopRow (needOp x)).toArray) ∧ Below w_.heap.size w_ w'))
            obtain ⟨gx, ox, rfl, hgx, y0, y1, y2⟩ := FactsAt.at_ (Rows.keep HNF.out hak.kept.same) hx
            have hgf := hak.free gx hgx
            have hgl : gx < wr.heap.size := by have := hak.kept.size; omega
            have hgfree := hgf.2.2.1
            have HFC := Lib.hid (show ∀ w_, Below wr.heap.size wr w_ → w_.cell? ⟨gx, ox + n * 3, none⟩ = some (.int .i64 x.kind) ∧ w_.cell? ⟨gx, ox + n * 3 + 1, none⟩ = some (.int .i64 x.a) ∧ w_.cell? ⟨gx, ox + n * 3 + 2, none⟩ = some (.int .i64 x.b) from fun w_ h => ⟨(h.cell (p := ⟨gx, _, none⟩) hgl).trans y0, (h.cell (p := ⟨gx, _, none⟩) hgl).trans y1, (h.cell (p := ⟨gx, _, none⟩) hgl).trans y2⟩)
            have k1 : (0 : Int) ≤ (n : Int) := by omega
            have k2 : (n : Int) < (nn : Int) := by omega
            have k3 : IntKind.i64.wrap (n : Int) = n := by rw [IntKind.wrap_i64]; omega
            clear hx hno hok y0 y1 y2 hgf hgx hao han hmy hak h17 h17n
            by_cases hk2 : x.kind = 2
            · have q1 : (x.kind == 2) = true := beq_iff_eq.2 hk2
              by_cases hab : x.a = x.b
              · have q2 : (x.a == x.b) = true := beq_iff_eq.2 hab
                clear hk2 hab hgl hgfree
                go_upto_region 14 with (first | go_in)
                have hS := (Below.refl wr.heap.size wr).drew
                (refine wp_region_lines (Below wr.heap.size wr) (by kernel_rfl) (by kernel_rfl) ((Below.refl wr.heap.size wr).drew) ?_)
                (try simp only [])
                repeat (first | (refine runL_no (by rfl) ?_; (try simp only [Act.put, List.setIfInBounds_toArray, List.set_cons_zero, List.set_cons_succ])) | (refine runL_val (v := ?_) (by rfl) ?_ ?_; rotate_left; (focus (intro w_ hw_; obtain ⟨f1_, f2_, f3_⟩ := HFC.out w_ hw_; go_simp; (try with_reducible rfl); done)); (try simp only [Act.put, List.setIfInBounds_toArray, List.set_cons_zero, List.set_cons_succ])))
                (refine runL_nil ?_)
                have HD := Lib.hid (HAO.out.bel.trans (hS.mono HAO.out.bel.size))
                clear hS
                go_wp2
                go_ret
                exact ⟨rfl, HB.out.trans (HD.out.mono HB.out.size)⟩
              · have q2 : (x.a == x.b) = false := beq_eq_false_iff_ne.2 hab
                have HMX := Lib.hid (show mayF x = true by unfold mayF; rw [q1, q2]; rfl)
                clear hk2 hab
                go_upto_region 14 with (first | go_in)
                have hS := (Below.refl wr.heap.size wr).drew
                (refine wp_region_lines (Below wr.heap.size wr) (by kernel_rfl) (by kernel_rfl) ((Below.refl wr.heap.size wr).drew) ?_)
                (try simp only [])
                repeat (first | (refine runL_no (by rfl) ?_; (try simp only [Act.put, List.setIfInBounds_toArray, List.set_cons_zero, List.set_cons_succ])) | (refine runL_val (v := ?_) (by rfl) ?_ ?_; rotate_left; (focus (intro w_ hw_; obtain ⟨f1_, f2_, f3_⟩ := HFC.out w_ hw_; go_simp; (try with_reducible rfl); done)); (try simp only [Act.put, List.setIfInBounds_toArray, List.set_cons_zero, List.set_cons_succ])))
                (refine runL_nil ?_)
                go_upto_region 16 with (first | go_in)
                have HD := Lib.hid hS
                have HF0 := Lib.hid (HFC.out wr.drew hS)
                clear hS HFC
                generalize wr.drew = W4 at *
                have hao1 := HAO.out.next HD.out
                have han1 := HAN.out.next HD.out
                have HAO1 := Lib.hid hao1
                have HAN1 := Lib.hid han1
                have HM1 := Lib.hid (show m ≤ 1000000 from by have := HML.out; omega)
                have HBX := Lib.hid hao1.box
                have HBL := Lib.hid (lt_of_block hao1.box)
                have HGL := Lib.hid (show gx < W4.heap.size from Nat.lt_of_lt_of_le hgl HD.out.size)
                have HBN := Lib.hid (HAO.out.ne)
                have HGN := Lib.hid hgfree
                clear hao1 han1 hgl hgfree
                have HFS := Lib.hid (show ∀ w_ : World, (w_.heap[bo]? = W4.heap[bo]? ∧ w_.heap[gx]? = W4.heap[gx]?) → w_.cell? ⟨bo, 1, none⟩ = some (.slice A m c) ∧ w_.cell? ⟨gx, ox + n * 3, none⟩ = some (.int .i64 x.kind) ∧ w_.cell? ⟨gx, ox + n * 3 + 1, none⟩ = some (.int .i64 x.a) ∧ w_.cell? ⟨gx, ox + n * 3 + 2, none⟩ = some (.int .i64 x.b) from fun w_ h_ => by
                  have h1 := HF0.out
                  have h2 : ∀ (p : Nat), w_.cell? ⟨gx, p, none⟩ = W4.cell? ⟨gx, p, none⟩ := fun p => World.cell?_of_block h_.2
                  exact ⟨(World.cell?_of_block h_.1).trans (by simp [World.cell?, HBX.out]), (h2 _).trans h1.1, (h2 _).trans h1.2.1, (h2 _).trans h1.2.2⟩)
                (refine wp_region_lines (fun w_ : World => w_.heap[bo]? = W4.heap[bo]? ∧ w_.heap[gx]? = W4.heap[gx]?) (by kernel_rfl) (by kernel_rfl) ⟨rfl, rfl⟩ ?_)
                (try simp only [])
                repeat (first | (refine runL_no (by rfl) ?_; (try simp only [Act.put, List.setIfInBounds_toArray, List.set_cons_zero, List.set_cons_succ])) | (refine runL_val (v := ?_) (by rfl) ?_ ?_; rotate_left; (focus (intro w_ hw_; obtain ⟨f0_, f1_, f2_, f3_⟩ := HFS.out w_ hw_; go_simp; (try with_reducible rfl); done)); (try simp only [Act.put, List.setIfInBounds_toArray, List.set_cons_zero, List.set_cons_succ])) | (refine runL_call (f := ?_) (args := ?_) (w1 := ?_) (by rfl) (by rfl) ?_ ?_; rotate_left 3; (focus (go_simp; refine ⟨⟨?_, ?_⟩, ?_⟩ <;> with_reducible rfl)); (with_reducible refine (HND.out _).mono ?_); rintro e_ w5 ⟨rfl, hb5⟩; have HB5 := Lib.hid ((Below.refl W4.heap.size W4).drew.trans hb5); have HS5 := Lib.hid (show w5.heap[bo]? = W4.heap[bo]? ∧ w5.heap[gx]? = W4.heap[gx]? from ⟨hb5.block bo HBL.out, hb5.block gx HGL.out⟩); clear hb5; refine ⟨_, rfl, .inr HS5.out, ?_⟩; (try simp only [Act.put, List.setIfInBounds_toArray, List.set_cons_zero, List.set_cons_succ])) | (refine runL_op (by rfl) (by rfl) (exec_kop1A (q := needOp x) _ rfl rfl) (.inr ⟨(Below.heap_alloc w5 _ bo (by have := HB5.out.size; have := HBL.out; omega)).trans HS5.out.1, (Below.heap_alloc w5 _ gx (by have := HB5.out.size; have := HGL.out; omega)).trans HS5.out.2⟩) ?_; (try simp only [Act.put, List.setIfInBounds_toArray, List.set_cons_zero, List.set_cons_succ])) | (refine runL_appendK (by rfl) (by rfl) _ _ rfl (v := .slice A m c) rfl ((kept_below HAO1.out.own HB5.out).alloc _) rfl (heap_alloc_new w5 _) HM1.out (by have := HAO1.out.bel.size; have := HB5.out.size; simp; omega) ?_; intro v6 w6 ho6 hg6 hb6; obtain ⟨A6, c6, rfl⟩ := own_form ho6; have HO6 := Lib.hid ho6; have HG6 := Lib.hid hg6; have HW6 := Lib.hid hb6; have HS6 := Lib.hid (show w6.heap[bo]? = W4.heap[bo]? ∧ w6.heap[gx]? = W4.heap[gx]? from ⟨(hg6.block bo (by have := HB5.out.size; have := HBL.out; simp; omega) (fun e => HBN.out e.symm)).trans ((Below.heap_alloc w5 _ bo (by have := HB5.out.size; have := HBL.out; omega)).trans HS5.out.1), (hg6.block gx (by have := HB5.out.size; have := HGL.out; simp; omega) (fun e => HGN.out e.symm)).trans ((Below.heap_alloc w5 _ gx (by have := HB5.out.size; have := HGL.out; omega)).trans HS5.out.2)⟩); clear ho6 hg6 hb6; refine ⟨HS6.out, ?_⟩; (try simp only [Act.put, List.setIfInBounds_toArray, List.set_cons_zero, List.set_cons_succ])) | (refine runL_skip (w1 := w6.setCell ⟨bo, 1, none⟩ (.slice A6 (m + 1) c6)) (by rfl) (by rfl) (exec_store1 23 _ _ rfl bo 1 (.slice A6 (m + 1) c6) rfl rfl (by kernel_rfl) (by simp [World.cell?, HS6.out.1, HBX.out]) (by simp [World.frozen?, HS6.out.1, HBX.out]) rfl) (.inl ⟨rfl, by kernel_rfl⟩) ?_; (try simp only [Act.put])))
                (refine runL_nil ?_)
                have hp := ask_push HAO1.out HAN1.out HB5.out HO6.out HG6.out HW6.out
                obtain ⟨W6, hW6⟩ : ∃ W6, W6 = w6.setCell ⟨bo, 1, none⟩ (.slice A6 (m + 1) c6) := ⟨_, rfl⟩
                rw [← hW6] at hp
                rw [← hW6]
                have HAO2 := Lib.hid hp.1
                have HAN2 := Lib.hid hp.2.1
                have HAK2 := Lib.hid ((AskK.below HAK.out HD.out).push hp.2.2.1 hp.2.2.2)
                clear hW6 hp HAO1 HAN1 HS6 HO6 HG6 HW6 HS5 HB5 HFS HBX HBL HGL HBN HGN HAO HAN HAK
                go_wp2_with (at_builtin; (refine wpList_append_own_at _ rfl _ _ 38 rfl W.heap.size 4 j0 (.bool false) 1 1 Tryz.underlying38 HI.out.1 HI.out.2.1 HI.out.2.2.1 HI.out.2.2.2 rfl (by decide) (.slice Aa ma ca) ma _ rfl (HAN2.out.own.alloc _) ⟨W6.heap.size, 0, none⟩ 1 1 [.bool true] rfl (by rfl) (World.news_of_block (cs := #[.bool true]) (t := 4) (fr := (0, 0)) (heap_alloc_new W6 _)) (by simp [Value.oneCell']) (by unfold maxLen; omega) (by omega) (by have := HAO2.out.bel.size; simp; omega) ?_); intro v7 w7 hown hg _ hwh; obtain ⟨A7, c7, rfl⟩ := own_form hown; have HO7 := Lib.hid hown; have HG7 := Lib.hid hg; have HW7 := Lib.hid hwh; clear hown hg hwh)
                have hp := ask_mark HAO2.out HAN2.out ((Below.refl W6.heap.size W6).alloc (Nat.le_refl _) _) HO7.out HG7.out HW7.out
                have HAO3 := Lib.hid hp.1
                have HAN3 := Lib.hid hp.2.1
                have HAK3 := Lib.hid (HAK2.out.mark hp.2.2.1 hp.2.2.2)
                clear hp HAO2 HAN2 HAK2 HO7 HG7 HW7
                go_roundw
                case rel =>
                  have e1 : askOps (k.ops.take i) ++ ((needsF o).take (n + 1)).map needOp = (askOps (k.ops.take i) ++ ((needsF o).take n).map needOp) ++ [needOp x] := by
                    rw [List.take_add_one, HX.out, List.map_append, List.append_assoc]; rfl
                  refine ⟨n + 1, A6, m + 1, c6, A7, ma + 1, c7, by omega, fun h => absurd h H17.out, by go_num, rfl, by rw [e1]; exact HAO3.out, by rw [e1, List.map_append]; exact HAN3.out, fun f hf => ?_, HAK3.out⟩
                  rw [List.take_add_one, HX.out] at hf
                  rcases List.mem_append.1 hf with h1 | h1
                  · exact HMY.out f h1
                  · simp at h1; subst h1; exact HMX.out
                case measure => simp [intOf]; omega
            · have q1 : (x.kind == 2) = false := beq_eq_false_iff_ne.2 hk2
              have HMX := Lib.hid (show mayF x = true by unfold mayF; rw [q1]; rfl)
              clear hk2
              go_upto_region 14 with (first | go_in)
              have hS := (Below.refl wr.heap.size wr).drew
              (refine wp_region_lines (Below wr.heap.size wr) (by kernel_rfl) (by kernel_rfl) ((Below.refl wr.heap.size wr).drew) ?_)
              (try simp only [])
              repeat (first | (refine runL_no (by rfl) ?_; (try simp only [Act.put, List.setIfInBounds_toArray, List.set_cons_zero, List.set_cons_succ])) | (refine runL_val (v := ?_) (by rfl) ?_ ?_; rotate_left; (focus (intro w_ hw_; obtain ⟨f1_, f2_, f3_⟩ := HFC.out w_ hw_; go_simp; (try with_reducible rfl); done)); (try simp only [Act.put, List.setIfInBounds_toArray, List.set_cons_zero, List.set_cons_succ])))
              (refine runL_nil ?_)
              go_upto_region 16 with (first | go_in)
              have HD := Lib.hid hS
              have HF0 := Lib.hid (HFC.out wr.drew hS)
              clear hS HFC
              generalize wr.drew = W4 at *
              have hao1 := HAO.out.next HD.out
              have han1 := HAN.out.next HD.out
              have HAO1 := Lib.hid hao1
              have HAN1 := Lib.hid han1
              have HM1 := Lib.hid (show m ≤ 1000000 from by have := HML.out; omega)
              have HBX := Lib.hid hao1.box
              have HBL := Lib.hid (lt_of_block hao1.box)
              have HGL := Lib.hid (show gx < W4.heap.size from Nat.lt_of_lt_of_le hgl HD.out.size)
              have HBN := Lib.hid (HAO.out.ne)
              have HGN := Lib.hid hgfree
              clear hao1 han1 hgl hgfree
              have HFS := Lib.hid (show ∀ w_ : World, (w_.heap[bo]? = W4.heap[bo]? ∧ w_.heap[gx]? = W4.heap[gx]?) → w_.cell? ⟨bo, 1, none⟩ = some (.slice A m c) ∧ w_.cell? ⟨gx, ox + n * 3, none⟩ = some (.int .i64 x.kind) ∧ w_.cell? ⟨gx, ox + n * 3 + 1, none⟩ = some (.int .i64 x.a) ∧ w_.cell? ⟨gx, ox + n * 3 + 2, none⟩ = some (.int .i64 x.b) from fun w_ h_ => by
                have h1 := HF0.out
                have h2 : ∀ (p : Nat), w_.cell? ⟨gx, p, none⟩ = W4.cell? ⟨gx, p, none⟩ := fun p => World.cell?_of_block h_.2
                exact ⟨(World.cell?_of_block h_.1).trans (by simp [World.cell?, HBX.out]), (h2 _).trans h1.1, (h2 _).trans h1.2.1, (h2 _).trans h1.2.2⟩)
              (refine wp_region_lines (fun w_ : World => w_.heap[bo]? = W4.heap[bo]? ∧ w_.heap[gx]? = W4.heap[gx]?) (by kernel_rfl) (by kernel_rfl) ⟨rfl, rfl⟩ ?_)
              (try simp only [])
              repeat (first | (refine runL_no (by rfl) ?_; (try simp only [Act.put, List.setIfInBounds_toArray, List.set_cons_zero, List.set_cons_succ])) | (refine runL_val (v := ?_) (by rfl) ?_ ?_; rotate_left; (focus (intro w_ hw_; obtain ⟨f0_, f1_, f2_, f3_⟩ := HFS.out w_ hw_; go_simp; (try with_reducible rfl); done)); (try simp only [Act.put, List.setIfInBounds_toArray, List.set_cons_zero, List.set_cons_succ])) | (refine runL_call (f := ?_) (args := ?_) (w1 := ?_) (by rfl) (by rfl) ?_ ?_; rotate_left 3; (focus (go_simp; refine ⟨⟨?_, ?_⟩, ?_⟩ <;> with_reducible rfl)); (with_reducible refine (HND.out _).mono ?_); rintro e_ w5 ⟨rfl, hb5⟩; have HB5 := Lib.hid ((Below.refl W4.heap.size W4).drew.trans hb5); have HS5 := Lib.hid (show w5.heap[bo]? = W4.heap[bo]? ∧ w5.heap[gx]? = W4.heap[gx]? from ⟨hb5.block bo HBL.out, hb5.block gx HGL.out⟩); clear hb5; refine ⟨_, rfl, .inr HS5.out, ?_⟩; (try simp only [Act.put, List.setIfInBounds_toArray, List.set_cons_zero, List.set_cons_succ])) | (refine runL_op (by rfl) (by rfl) (exec_kop1A (q := needOp x) _ rfl rfl) (.inr ⟨(Below.heap_alloc w5 _ bo (by have := HB5.out.size; have := HBL.out; omega)).trans HS5.out.1, (Below.heap_alloc w5 _ gx (by have := HB5.out.size; have := HGL.out; omega)).trans HS5.out.2⟩) ?_; (try simp only [Act.put, List.setIfInBounds_toArray, List.set_cons_zero, List.set_cons_succ])) | (refine runL_appendK (by rfl) (by rfl) _ _ rfl (v := .slice A m c) rfl ((kept_below HAO1.out.own HB5.out).alloc _) rfl (heap_alloc_new w5 _) HM1.out (by have := HAO1.out.bel.size; have := HB5.out.size; simp; omega) ?_; intro v6 w6 ho6 hg6 hb6; obtain ⟨A6, c6, rfl⟩ := own_form ho6; have HO6 := Lib.hid ho6; have HG6 := Lib.hid hg6; have HW6 := Lib.hid hb6; have HS6 := Lib.hid (show w6.heap[bo]? = W4.heap[bo]? ∧ w6.heap[gx]? = W4.heap[gx]? from ⟨(hg6.block bo (by have := HB5.out.size; have := HBL.out; simp; omega) (fun e => HBN.out e.symm)).trans ((Below.heap_alloc w5 _ bo (by have := HB5.out.size; have := HBL.out; omega)).trans HS5.out.1), (hg6.block gx (by have := HB5.out.size; have := HGL.out; simp; omega) (fun e => HGN.out e.symm)).trans ((Below.heap_alloc w5 _ gx (by have := HB5.out.size; have := HGL.out; omega)).trans HS5.out.2)⟩); clear ho6 hg6 hb6; refine ⟨HS6.out, ?_⟩; (try simp only [Act.put, List.setIfInBounds_toArray, List.set_cons_zero, List.set_cons_succ])) | (refine runL_skip (w1 := w6.setCell ⟨bo, 1, none⟩ (.slice A6 (m + 1) c6)) (by rfl) (by rfl) (exec_store1 23 _ _ rfl bo 1 (.slice A6 (m + 1) c6) rfl rfl (by kernel_rfl) (by simp [World.cell?, HS6.out.1, HBX.out]) (by simp [World.frozen?, HS6.out.1, HBX.out]) rfl) (.inl ⟨rfl, by kernel_rfl⟩) ?_; (try simp only [Act.put])))
              (refine runL_nil ?_)
              have hp := ask_push HAO1.out HAN1.out HB5.out HO6.out HG6.out HW6.out
              obtain ⟨W6, hW6⟩ : ∃ W6, W6 = w6.setCell ⟨bo, 1, none⟩ (.slice A6 (m + 1) c6) := ⟨_, rfl⟩
              rw [← hW6] at hp
              rw [← hW6]
              have HAO2 := Lib.hid hp.1
              have HAN2 := Lib.hid hp.2.1
              have HAK2 := Lib.hid ((AskK.below HAK.out HD.out).push hp.2.2.1 hp.2.2.2)
              clear hW6 hp HAO1 HAN1 HS6 HO6 HG6 HW6 HS5 HB5 HFS HBX HBL HGL HBN HGN HAO HAN HAK
              go_wp2_with (at_builtin; (refine wpList_append_own_at _ rfl _ _ 38 rfl W.heap.size 4 j0 (.bool false) 1 1 Tryz.underlying38 HI.out.1 HI.out.2.1 HI.out.2.2.1 HI.out.2.2.2 rfl (by decide) (.slice Aa ma ca) ma _ rfl (HAN2.out.own.alloc _) ⟨W6.heap.size, 0, none⟩ 1 1 [.bool true] rfl (by rfl) (World.news_of_block (cs := #[.bool true]) (t := 4) (fr := (0, 0)) (heap_alloc_new W6 _)) (by simp [Value.oneCell']) (by unfold maxLen; omega) (by omega) (by have := HAO2.out.bel.size; simp; omega) ?_); intro v7 w7 hown hg _ hwh; obtain ⟨A7, c7, rfl⟩ := own_form hown; have HO7 := Lib.hid hown; have HG7 := Lib.hid hg; have HW7 := Lib.hid hwh; clear hown hg hwh)
              have hp := ask_mark HAO2.out HAN2.out ((Below.refl W6.heap.size W6).alloc (Nat.le_refl _) _) HO7.out HG7.out HW7.out
              have HAO3 := Lib.hid hp.1
              have HAN3 := Lib.hid hp.2.1
              have HAK3 := Lib.hid (HAK2.out.mark hp.2.2.1 hp.2.2.2)
              clear hp HAO2 HAN2 HAK2 HO7 HG7 HW7
              go_roundw
              case rel =>
                have e1 : askOps (k.ops.take i) ++ ((needsF o).take (n + 1)).map needOp = (askOps (k.ops.take i) ++ ((needsF o).take n).map needOp) ++ [needOp x] := by
                  rw [List.take_add_one, HX.out, List.map_append, List.append_assoc]; rfl
                refine ⟨n + 1, A6, m + 1, c6, A7, ma + 1, c7, by omega, fun h => absurd h H17.out, by go_num, rfl, by rw [e1]; exact HAO3.out, by rw [e1, List.map_append]; exact HAN3.out, fun f hf => ?_, HAK3.out⟩
                rw [List.take_add_one, HX.out] at hf
                rcases List.mem_append.1 hf with h1 | h1
                · exact HMY.out f h1
                · simp at h1; subst h1; exact HMX.out
              case measure => simp [intOf]; omega
          · have d2 : decide (n < nn) = false := decide_eq_false hlt2
            have hfull : (needsF o).take n = needsF o := List.take_of_length_le (by have := HNN.out; omega)
            have HNX := Lib.hid (show askOps (k.ops.take (i + 1)) = (askOps (k.ops.take i) ++ ((needsF o).take n).map needOp) ++ [o] by
              rw [askOps_next HOX.out, hfull]
              unfold insOps
              rw [if_neg h17, List.append_assoc])
            have HIS := Lib.hid (show is17 o = false from f17)
            have HML2 := Lib.hid (show o.kind ≠ 17 → ∀ f ∈ needsF o, mayF f = true from fun _ f hf => hmy f (by rw [hfull]; exact hf))
            clear hao han hmy hak h17 h17n hfull
            go_upto_region 18 with (first | go_in)
            have HAO1 := Lib.hid (HAO.out.next (Below.refl wr.heap.size wr).drew)
            have HAN1 := Lib.hid (HAN.out.next (Below.refl wr.heap.size wr).drew)
            have HM1 := Lib.hid (show m ≤ 1000000 from by have := HML.out; omega)
            have HBX := Lib.hid HAO1.out.box
            have HBL := Lib.hid (lt_of_block HAO1.out.box)
            have HBN := Lib.hid HAO.out.ne
            have HFS := Lib.hid (show ∀ w_ : World, (w_.heap[bo]? = wr.drew.heap[bo]? ∧ Below W.heap.size W w_) → w_.cell? ⟨bo, 1, none⟩ = some (.slice A m c) ∧ w_.cell? ⟨w.heap.size, 1, none⟩ = some (.slice (some ⟨gg, off, none⟩) no co) ∧ w_.cell? ⟨gg, off + i * 7, none⟩ = some (.int .i64 o.kind) ∧ w_.cell? ⟨gg, off + i * 7 + 1, none⟩ = some (.int .i64 o.d) ∧ w_.cell? ⟨gg, off + i * 7 + 2, none⟩ = some (.int .i64 o.e) ∧ w_.cell? ⟨gg, off + i * 7 + 3, none⟩ = some (.int .i64 o.a) ∧ w_.cell? ⟨gg, off + i * 7 + 4, none⟩ = some (.int .i64 o.b) ∧ w_.cell? ⟨gg, off + i * 7 + 5, none⟩ = some (.int .i64 o.c) ∧ w_.cell? ⟨gg, off + i * 7 + 6, none⟩ = some (.int .u64 o.imm) from fun w_ h_ => ⟨(World.cell?_of_block h_.1).trans (by simp [World.cell?, HBX.out]), HOC.out w_ h_.2⟩)
            (refine wp_region_lines (fun w_ : World => w_.heap[bo]? = wr.drew.heap[bo]? ∧ Below W.heap.size W w_) (by kernel_rfl) (by kernel_rfl) ⟨rfl, HAO1.out.bel⟩ ?_)
            (try simp only [])
            repeat (first | (refine runL_no (by rfl) ?_; (try simp only [Act.put, List.setIfInBounds_toArray, List.set_cons_zero, List.set_cons_succ])) | (refine runL_val (v := ?_) (by rfl) ?_ ?_; rotate_left; (focus (intro w_ hw_; obtain ⟨f0_, f1_, f2_, f3_, f4_, f5_, f6_, f7_, f8_⟩ := HFS.out w_ hw_; go_simp; (try with_reducible rfl); done)); (try simp only [Act.put, List.setIfInBounds_toArray, List.set_cons_zero, List.set_cons_succ])) | (refine runL_op (by rfl) (by rfl) (exec_kop1A (q := o) _ rfl rfl) (.inr ⟨Below.heap_alloc wr.drew _ bo HBL.out, HAO1.out.bel.alloc HAO1.out.bel.size _⟩) ?_; (try simp only [Act.put, List.setIfInBounds_toArray, List.set_cons_zero, List.set_cons_succ])) | (refine runL_appendK (by rfl) (by rfl) _ _ rfl (v := .slice A m c) rfl (HAO1.out.own.alloc _) rfl (heap_alloc_new wr.drew _) HM1.out (by have := HAO1.out.bel.size; have h5 : wr.drew.heap.size = wr.heap.size := rfl; simp; omega) ?_; intro v6 w6 ho6 hg6 hb6; obtain ⟨A6, c6, rfl⟩ := own_form ho6; have HO6 := Lib.hid ho6; have HG6 := Lib.hid hg6; have HW6 := Lib.hid hb6; have HS6 := Lib.hid (show w6.heap[bo]? = wr.drew.heap[bo]? ∧ Below W.heap.size W w6 from ⟨(hg6.block bo (by have := HBL.out; have h5 : wr.drew.heap.size = wr.heap.size := rfl; simp; omega) (fun e => HBN.out e.symm)).trans (Below.heap_alloc wr.drew _ bo HBL.out), Below.grown (HAO1.out.bel.alloc HAO1.out.bel.size _) hg6 (by have := HAO1.out.bel.size; have h5 : wr.drew.heap.size = wr.heap.size := rfl; simp; omega) (fun k hk => (own_lt HAO1.out.own k hk).2)⟩); clear ho6 hg6 hb6; refine ⟨HS6.out, ?_⟩; (try simp only [Act.put, List.setIfInBounds_toArray, List.set_cons_zero, List.set_cons_succ])) | (refine runL_skip (w1 := w6.setCell ⟨bo, 1, none⟩ (.slice A6 (m + 1) c6)) (by rfl) (by rfl) (exec_store1 23 _ _ rfl bo 1 (.slice A6 (m + 1) c6) rfl rfl (by kernel_rfl) (by simp [World.cell?, HS6.out.1, HBX.out]) (by simp [World.frozen?, HS6.out.1, HBX.out]) rfl) (.inl ⟨rfl, by kernel_rfl⟩) ?_; (try simp only [Act.put])))
            (refine runL_nil ?_)
            have hp := ask_push HAO1.out HAN1.out (Below.refl _ _) HO6.out HG6.out HW6.out
            obtain ⟨W6, hW6⟩ : ∃ W6, W6 = w6.setCell ⟨bo, 1, none⟩ (.slice A6 (m + 1) c6) := ⟨_, rfl⟩
            rw [← hW6] at hp
            rw [← hW6]
            have HAO2 := Lib.hid hp.1
            have HAN2 := Lib.hid hp.2.1
            clear hW6 hp HAO1 HAN1 HS6 HO6 HG6 HW6 HFS HBX HBL HBN HAO HAN
            obtain ⟨f1_, f2_, _⟩ := HOC.out _ HAO2.out.bel
            go_wp2_with (at_builtin; (refine wpList_append_own_at _ rfl _ _ 38 rfl W.heap.size 4 j0 (.bool false) 1 1 Tryz.underlying38 HI.out.1 HI.out.2.1 HI.out.2.2.1 HI.out.2.2.2 rfl (by decide) (.slice Aa ma ca) ma _ rfl (HAN2.out.own.alloc _) ⟨W6.heap.size, 0, none⟩ 1 1 [.bool false] rfl (by rfl) (World.news_of_block (cs := #[.bool false]) (t := 4) (fr := (0, 0)) (heap_alloc_new W6 _)) (by simp [Value.oneCell']) (by unfold maxLen; omega) (by omega) (by have := HAO2.out.bel.size; simp; omega) ?_); intro v7 w7 hown hg _ hwh; obtain ⟨A7, c7, rfl⟩ := own_form hown; have HO7 := Lib.hid hown; have HG7 := Lib.hid hg; have HW7 := Lib.hid hwh; clear hown hg hwh)
            have hp := ask_mark HAO2.out HAN2.out ((Below.refl W6.heap.size W6).alloc (Nat.le_refl _) _) HO7.out HG7.out HW7.out
            have HAO3 := Lib.hid hp.1
            have HAN3 := Lib.hid hp.2.1
            clear hp HAO2 HAN2 HO7 HG7 HW7
            go_roundw
            case rel =>
              refine ⟨i + 1, A6, m + 1, c6, A7, ma + 1, c7, by omega, by go_num, rfl, by rw [HNX.out]; exact HAO3.out, by rw [HNX.out, List.map_append]; simp only [List.map_cons, List.map_nil, HIS.out]; exact HAN3.out, fun q hq h f hf => ?_⟩
              rw [List.take_add_one, HOX.out] at hq
              rcases List.mem_append.1 hq with h1 | h1
              · exact HMO.out q h1 h f hf
              · simp at h1; subst h1; exact HML2.out h f hf
            case measure => simp [intOf]; omega
    · have d1 : decide (i < no) = false := decide_eq_false hlt
      have hin : k.ops.take i = k.ops := List.take_of_length_le (by have := HNO.out.1; omega)
      rw [hin] at hao han hmo
      have hlen := askOps_len k.ops
      have hck := ask_check HC.out (by have := HNO.out; omega)
      obtain ⟨kk, hkk⟩ : ∃ kk : Krn, kk = ⟨k.vars, askOps k.ops, k.reqs⟩ := ⟨_, rfl⟩
      obtain ⟨O, hO⟩ : ∃ O, O = askOps k.ops := ⟨_, rfl⟩
      have hke := hao.kern HKW.out (ask_kok HKW.out.ops) (by have := HNO.out; omega)
      have hkn := fun {i : Nat} {q : KOp} => ask_known (i := i) (q := q) hck (aheadF_is _) hmo
      have hmo2 := hao.len
      have hkop := ask_kok HKW.out.ops
      rw [← hkk] at hke hck
      rw [← hkk, ← hO] at hkn
      rw [← hO] at hao han hmo2 hlen hkop
      have hkv : kk.vars.length ≤ 16 := by rw [hkk]; exact HNO.out.2.2
      have hkO : kk.ops = O := by rw [hkk, hO]
      clear hkk hO
      have hm2 : m ≤ 160 := by have := HNO.out; omega
      have HKE := Lib.hid hke
      have HM2 := Lib.hid (And.intro hmo2 hkO)
      have HKN := Lib.hid (show ∀ (i : Nat) (q : KOp), O[i]? = some q → q.kind ≠ 17 → ∀ f ∈ needsF q, knowsF ((aheadF kk).getD i []) f = true from fun i q h1 h2 f hf => hkn h1 h2 hf)
      have HKOP := Lib.hid hkop
      have HCK2 := Lib.hid (fun (w1 : World) (h1 : Below wr.heap.size wr w1) => rcheck_any Av A Ar nv cv m c nr cr kk w1 _ (kern_next hke h1) (fun k hk => hk) (by omega))
      rw [show errK kk = 0 by unfold errK; rw [hck]; rfl] at HCK2
      have HAH := Lib.hid (fun (w1 : World) (h1 : Below wr.heap.size wr w1) => Ahead_any Av A Ar nv cv m c nr cr kk (aheadF kk) w1 _ (kern_next hke h1) (fun k hk => hk) (by omega) (aheadF_is kk))
      have HWL := Lib.hid (ahead_well hck (aheadF_is kk))
      have hKF := kfine_of hck (by rw [hkO]; exact hkop) (by omega)
      have HSM := Lib.hid (fun l (hl : l ∈ aheadF kk) => (hKF.small (HWL.out.1 l hl)).1)
      have HBC := Lib.hid (show ∀ w_ : World, Below wr.heap.size wr w_ → w_.cell? ⟨bo, 0, none⟩ = some (.slice Av nv cv) ∧ w_.cell? ⟨bo, 1, none⟩ = some (.slice A m c) ∧ w_.cell? ⟨bo, 2, none⟩ = some (.slice Ar nr cr) from fun w_ h => (hao.next h).cells)
      have hma : ma = O.length := by rw [han.len, List.length_map]
      have hbo : wr.ownsRow W.heap.size 4 1 (.slice Aa ma ca) (O.map is17).length (boolV (O.map is17)) := by rw [← han.len]; exact han.own
      have HBI := Lib.hid (show BitsAt wr (fun q => q < wr.heap.size) (.slice Aa ma ca) (O.map is17) from Rows.mono (bits_ownA hbo) fun q hq => (own_lt hbo q hq).1)
      have HMA := Lib.hid hma
      have HBEL := Lib.hid hao.bel
      obtain ⟨c0, c1', c2⟩ := HBC.out wr (Below.refl _ _)
      clear hao han hmo hin hlen hck hke hkn hmo2 hkop hkv hkO hKF hma hbo HAO0 HAN0 HMO HI
      go_upto_region 22 with (first | ((with_reducible refine (HCK2.out _ (Below.refl _ _)).mono ?_); rintro e_ w6 ⟨rfl, hb6⟩; have HB6 := Lib.hid hb6; clear c0 c1' c2; obtain ⟨c0, c1', c2⟩ := HBC.out _ hb6; clear hb6) | go_in)
      go_upto_region 23 with (first | ((with_reducible refine (HAH.out _ HB6.out).mono ?_); rintro e_ w7 ⟨Ag, n4, c4, rfl, hr7, hb7⟩; have HR7 := Lib.hid hr7; have HB7 := Lib.hid (HB6.out.trans (hb7.mono HB6.out.size)); clear hr7 hb7) | go_in)
      clear c0 c1' c2 HCK2 HAH HB6
      have han4 : n4 = m := by have h1 := HR7.out.len; have h2 := HWL.out.2; have h3 := HM2.out; rw [h3.2] at h2; omega
      have d6 : ((n4 : Int) != (m : Int)) = false := by rw [han4]; simp
      have HN4 := Lib.hid han4
      obtain ⟨_, c1', _⟩ := HBC.out _ HB7.out
      clear han4
      go_wp2
      clear c1'
      go_loopw [2, 9, 10, 11] (fun _ s9 _ _ wr2 => ∃ i : Nat, i ≤ m ∧ s9 = .int .i64 i ∧ Below w7.heap.size w7 wr2) (fun _ s9 _ _ _ => m - (intOf s9).toNat)
      case atStart => exact ⟨0, Nat.zero_le _, rfl, Below.refl _ _⟩
      case round =>
        obtain ⟨i, hi, rfl, hbr⟩ := hrel
        have HBR := Lib.hid (HB7.out.trans (hbr.mono HB7.out.size))
        have HBR7 := Lib.hid hbr
        clear hbr
        obtain ⟨_, c1', _⟩ := HBC.out _ HBR.out
        by_cases hlt2 : i < m
        · have d2 : decide (i < m) = true := decide_eq_true hlt2
          obtain ⟨q, hq⟩ : ∃ q, O[i]? = some q := ⟨_, List.getElem?_eq_getElem (by have := HM2.out.1; omega)⟩
          have HQ := Lib.hid hq
          obtain ⟨vv, vo, vr, e3, _, hko, _⟩ := HKE.out.row
          simp only [List.cons.injEq, and_true] at e3
          obtain ⟨rfl, rfl, rfl⟩ := e3
          rw [HM2.out.2] at hko
          obtain ⟨gg, off, hA, hgg, x0, x1, x2, x3, x4, x5, x6⟩ := KOpsAt.at_ (rows_next hko HBR.out) hq
          obtain ⟨gb, ob, hAb, hgb, xb⟩ := BitsAt.at_ (rows_next HBI.out HBR.out) (k := i) (x := is17 q) (by rw [List.getElem?_map, hq]; rfl)
          have HBT := Lib.hid (show ∀ w_ : World, Below wr.heap.size wr w_ → w_.cell? ⟨gb, ob + i, none⟩ = some (.bool (is17 q)) from fun w_ h => (h.cell (p := ⟨gb, _, none⟩) hgb).trans xb)
          obtain ⟨lp, hlp⟩ : ∃ l, (aheadF kk)[i]? = some l := ⟨_, List.getElem?_eq_getElem (by have := HR7.out.len; have := HN4.out; omega)⟩
          obtain ⟨ga, hAg, hga, Al, nl, cl, y0, hfl⟩ := HR7.out.row i lp hlp
          subst hA; subst hAb; subst hAg
          have HRN := Lib.hid (fun w_ => show Calls Tryz.prog 16 #[.agg #[.int .i64 q.kind, .int .i64 q.d, .int .i64 q.e, .int .i64 q.a, .int .i64 q.b, .int .i64 q.c, .int .u64 q.imm]] w_ _ from RNeeds_any q w_)
          have HKX := Lib.hid (show q.kind ≠ 17 → ∀ f ∈ needsF q, ∀ w1 : World, Below w7.heap.size w7 w1 → Calls Tryz.prog 19 #[.slice Al nl cl, .agg #[.int .i64 f.kind, .int .i64 f.a, .int .i64 f.b]] w1 fun e w' => e = .returned (.bool true) ∧ Below w1.heap.size w1 w' from fun h17 f hf w1 h1 => by
            have h2 := Knows_any (.slice Al nl cl) f lp w1 _ (rows_next hfl h1) (fun k hk => hk) (by have := HSM.out lp (List.mem_of_getElem? hlp); omega)
            have h3 := HKN.out i q HQ.out h17 f hf
            rw [List.getD_eq_getElem?_getD, hlp] at h3
            rw [show knowsF lp f = true from h3] at h2
            exact h2)
          have HRC := Lib.hid (show ∀ w_, Below w7.heap.size w7 w_ → w_.cell? ⟨ga, i, none⟩ = some (.slice Al nl cl) from fun w_ h => (h.cell (p := ⟨ga, i, none⟩) hga).trans y0)
          have HNL := Lib.hid (needs_len q)
          have i1 : (0 : Int) ≤ (i : Int) := by omega
          have i2 : (i : Int) < (m : Int) := by omega
          have i3 : IntKind.i64.wrap (i : Int) = i := by rw [IntKind.wrap_i64]; omega
          have i4 : (i : Int) < (n4 : Int) := by have := HN4.out; omega
          have i5 : (i : Int) < (ma : Int) := by have := HMA.out; have := HM2.out.1; omega
          clear hq hko hgg hgb xb hlp hga y0 hfl
          go_upto_region 29 with (first | ((with_reducible refine (HRN.out _).mono ?_); rintro e_ w8 ⟨v8, rfl, ho8, hb8⟩; obtain ⟨An, cn, rfl⟩ := own_form ho8; have HO8 := Lib.hid ho8; have HB8 := Lib.hid hb8; clear ho8 hb8) | go_in)
          clear x0 x1 x2 x3 x4 x5 x6 c1' HRN
          obtain ⟨nn, hnn⟩ : ∃ nn, nn = (needsF q).length := ⟨_, rfl⟩
          have HNN := Lib.hid hnn
          have hnn3 : nn ≤ 3 := by have := HNL.out; omega
          have HNF := Lib.hid (show FactsAt w8 (fun q => q < w8.heap.size) (.slice An nn cn) (needsF q) by
            rw [hnn]
            exact Rows.mono (facts_own HO8.out) fun q hq => (own_lt HO8.out q hq).1)
          rw [← hnn]
          clear hnn HO8
          go_wp2
          go_loopw [2, 11] (fun _ s11 wr3 => ∃ n : Nat, n ≤ nn ∧ s11 = .int .i64 n ∧ Below w8.heap.size w8 wr3) (fun _ s11 _ => nn - (intOf s11).toNat)
          case atStart => exact ⟨0, Nat.zero_le _, rfl, Below.refl _ _⟩
          case round =>
            obtain ⟨n, hn, rfl, hb3⟩ := hrel
            have HB9 := Lib.hid (HBR7.out.trans ((HB8.out.trans (hb3.mono HB8.out.size)).mono HBR7.out.size))
            have HB10 := Lib.hid hb3
            have xb := HBT.out _ (HB8.out.trans (hb3.mono HB8.out.size))
            by_cases hlt3 : n < nn
            · have d3 : decide (n < nn) = true := decide_eq_true hlt3
              cases h17 : is17 q
              · rw [h17] at xb
                have hk17 : q.kind ≠ 17 := by unfold is17 at h17; simpa using h17
                obtain ⟨x, hx⟩ : ∃ x, (needsF q)[n]? = some x := ⟨_, List.getElem?_eq_getElem (by have := HNN.out; omega)⟩
                have HKY := Lib.hid (HKX.out hk17 x (List.mem_of_getElem? hx))
                obtain ⟨gx, ox, rfl, hgx, z0, z1, z2⟩ := FactsAt.at_ (rows_next HNF.out hb3) hx
                have HFC := Lib.hid (show ∀ w_, Below wr.heap.size wr w_ → w_.cell? ⟨gx, ox + n * 3, none⟩ = some (.int .i64 x.kind) ∧ w_.cell? ⟨gx, ox + n * 3 + 1, none⟩ = some (.int .i64 x.a) ∧ w_.cell? ⟨gx, ox + n * 3 + 2, none⟩ = some (.int .i64 x.b) from fun w_ h => ⟨(h.cell (p := ⟨gx, _, none⟩) hgx).trans z0, (h.cell (p := ⟨gx, _, none⟩) hgx).trans z1, (h.cell (p := ⟨gx, _, none⟩) hgx).trans z2⟩)
                have k1 : (0 : Int) ≤ (n : Int) := by omega
                have k2 : (n : Int) < (nn : Int) := by omega
                have k3 : IntKind.i64.wrap (n : Int) = n := by rw [IntKind.wrap_i64]; omega
                clear hb3 h17 hk17 hx hgx z0 z1 z2
                go_upto_region 32 with (first | go_in)
                have hS := (Below.refl wr.heap.size wr).drew
                have up : ∀ {w_}, Below wr.heap.size wr w_ → Below w7.heap.size w7 w_ := fun h => HB9.out.trans (h.mono HB9.out.size)
                (refine wp_region_lines (Below wr.heap.size wr) (by kernel_rfl) (by kernel_rfl) ((Below.refl wr.heap.size wr).drew) ?_)
                (try simp only [])
                repeat (first | (refine runL_no (by rfl) ?_; (try simp only [Act.put, List.setIfInBounds_toArray, List.set_cons_zero, List.set_cons_succ])) | (refine runL_val (v := ?_) (by rfl) ?_ ?_; rotate_left; (focus (intro w_ hw_; obtain ⟨f1_, f2_, f3_⟩ := HFC.out w_ hw_; have f4_ := HRC.out w_ (up hw_); go_simp; (try with_reducible rfl); done)); (try simp only [Act.put, List.setIfInBounds_toArray, List.set_cons_zero, List.set_cons_succ])) | (refine runL_call (f := ?_) (args := ?_) (w1 := ?_) (by rfl) (by rfl) ?_ ?_; rotate_left 3; (focus (go_simp; refine ⟨⟨?_, ?_⟩, ?_⟩ <;> with_reducible rfl)); (with_reducible refine (HKY.out _ (up hS)).mono ?_); rintro e_ w10 ⟨rfl, hb10⟩; replace hS := hS.trans (hb10.mono hS.size); clear hb10; refine ⟨_, rfl, .inr hS, ?_⟩; (try simp only [Act.put, List.setIfInBounds_toArray, List.set_cons_zero, List.set_cons_succ])))
                (refine runL_nil ?_)
                have HS8 := Lib.hid hS
                clear hS up xb
                go_wp2
                go_roundw
                case rel => exact ⟨n + 1, hlt3, by go_num, HB10.out.trans (HS8.out.mono HB10.out.size)⟩
                case measure => simp [intOf]; omega
              · rw [h17] at xb
                clear h17 hb3
                go_wp2
                go_roundw
                case rel => exact ⟨i + 1, hlt2, by go_num, HB9.out⟩
                case measure => simp [intOf]; omega
            · have d3 : decide (n < nn) = false := decide_eq_false hlt3
              clear hb3
              go_wp2
              go_roundw
              case rel => exact ⟨i + 1, hlt2, by go_num, HB9.out⟩
              case measure => simp [intOf]; omega
        · have d2 : decide (i < m) = false := decide_eq_false hlt2
          go_wp2
          go_ret
          exact ⟨rfl, HB.out.trans ((HBEL.out.trans (HBR.out.mono HBEL.out.size)).mono HB.out.size)⟩
end Go.Proofs.YtjbabpnepjhllaaGreat

/- Arguments of the types Kern, Fact, []Fact, opened. -/
namespace Go.Proofs.YtjbabpnepjhllaaGreat
open Go.ChangeShapes Go.WideShapes Go.Deep Go.RowKit

theorem list_of_all {α : Type} (Q : Nat → α → Prop) : ∀ n, (∀ i, i < n → ∃ x, Q i x) → ∃ L : List α, L.length = n ∧ ∀ (i : Nat) (x : α), L[i]? = some x → Q i x
  | 0, _ => ⟨[], rfl, fun i x h => by simp at h⟩
  | n + 1, h => by
    obtain ⟨L, hl, hq⟩ := list_of_all Q n (fun i hi => h i (by omega))
    obtain ⟨x, hx⟩ := h n (by omega)
    refine ⟨L ++ [x], by simp [hl], fun i y hy => ?_⟩
    rcases Nat.lt_or_ge i n with hi | hi
    · rw [List.getElem?_append_left (by omega)] at hy; exact hq i y hy
    · rw [List.getElem?_append_right (by omega)] at hy
      have : i - L.length = 0 := by
        rcases Nat.eq_zero_or_pos (i - L.length) with h | h
        · exact h
        · rw [List.getElem?_eq_none (by simp; omega)] at hy; cases hy
      rw [this] at hy
      simp at hy
      subst hy
      rw [show i = n from by omega]; exact hx

theorem plain_addr {w : World} {a : Addr} {k : Nat} {v : Value} (h : w.cell? (a.add k) = some v) (h0 : ∃ u, w.cell? a = some u) : a = ⟨a.block, a.off, none⟩ ∧ a.block < w.heap.size ∧ a.add k = ⟨a.block, a.off + k, none⟩ := by
  obtain ⟨u, hu⟩ := h0
  have hb := World.block_lt_of_cell? w a hu
  have hs : a.spot = none := by
    cases hsp : a.spot with
    | none => rfl
    | some s =>
      unfold World.cell? at hu
      split at hu
      · simp [hsp] at hu
      · cases hu
  have ha : a = ⟨a.block, a.off, none⟩ := by cases a; simp_all
  refine ⟨ha, hb, ?_⟩
  unfold Addr.add
  split
  · rename_i hk; subst hk; simpa using ha
  · rfl

section
variable {H : Type} {enc : TypeId × Value → H} {w : World}

theorem open_rows {α : Type} {T St sz : Nat} (row : α → List Value) (Q : α → Prop) (hT : Tryz.prog.underlying T = some (.slice St)) (hC : Tryz.prog.cellsOf St = sz) (h0 : 0 < sz) (hrow : ∀ x, (row x).length = sz)
    (each : ∀ fuel cs y, DataW.trod enc Tryz.prog w 0 (fun _ => true) true fuel St cs = some y → cs.length = sz → ∃ x, cs = row x ∧ Q x)
    {A : Option Addr} {n c : Nat} {d : DataW H} {ps : List MemPlace} (h : DataW.Trod enc Tryz.prog w 0 (fun _ => true) true T (.slice A n c) d ps) :
    ∃ l : List α, Rows w (fun k => k < w.heap.size) sz (.slice A n c) (l.map row) ∧ (∀ x ∈ l, Q x) ∧ l.length ≤ 9223372036854775807 := by
  obtain ⟨fuel, hf⟩ := h
  rcases open_slice hT hf with ⟨hcs, _⟩ | ⟨a, len, cap, m, q, D, Pl, hcs, _, hl, hm, hmm, _, hi⟩
  · simp [Value.cells] at hcs
    obtain ⟨rfl, rfl, rfl⟩ := hcs
    exact ⟨[], ⟨none, 0, rfl, by simp, by simp, fun h => absurd rfl h⟩, by simp, by simp⟩
  · simp [Value.cells] at hcs
    obtain ⟨rfl, rfl, rfl⟩ := hcs
    simp only [if_true] at hmm
    have ech : ∀ i, i < n → ∃ x : α, Q x ∧ ∀ (j : Nat) (u : Value), (row x)[j]? = some u → w.cell? (a.add (i * sz + j)) = some u := fun i hin => by
      obtain ⟨cs', hc, ht⟩ := hi i (by omega)
      rw [hC] at hc
      obtain ⟨_, hlen, hat⟩ := World.cells?_some hc
      obtain ⟨x, rfl, hq⟩ := each _ _ _ ht hlen
      refine ⟨x, hq, fun j u hu => ?_⟩
      have := hat j (by rw [← hlen]; exact (List.getElem?_eq_some_iff.1 hu).1)
      rw [← add_add, this, hu]
    obtain ⟨L, hL, hq⟩ := list_of_all _ n ech
    refine ⟨L, ⟨some a, c, by simp [hL], by simp [hL]; omega, fun r hr => by obtain ⟨x, _, rfl⟩ := List.mem_map.1 hr; exact hrow x, fun hne => ?_⟩, fun x hx => ?_, by rw [hL]; unfold maxLen at hm; omega⟩
    · have hpos : 0 < L.length := by
        cases L with
        | nil => simp at hne
        | cons => simp
      have hl0 := hrow L[0]
      obtain ⟨u0, hu0⟩ : ∃ u, (row L[0])[0]? = some u := by
        cases hx : row L[0] with
        | nil => rw [hx] at hl0; simp at hl0; omega
        | cons u us => exact ⟨u, rfl⟩
      have hp0 := (hq 0 L[0] (List.getElem?_eq_getElem hpos)).2 0 u0 hu0
      have h00 : ∃ u, w.cell? a = some u := ⟨_, by simpa [Addr.add] using hp0⟩
      obtain ⟨ha, hb, _⟩ := plain_addr hp0 h00
      refine ⟨a.block, a.off, by rw [← ha], hb, fun i j r u hr hu => ?_⟩
      rw [List.getElem?_map] at hr
      cases hpi : L[i]? with
      | none => rw [hpi] at hr; cases hr
      | some x =>
        rw [hpi] at hr
        cases hr
        have hc := (hq i x hpi).2 j u hu
        obtain ⟨_, _, hadd⟩ := plain_addr hc h00
        rw [hadd] at hc
        rw [show a.off + i * sz + j = a.off + (i * sz + j) from by omega]
        exact hc
    · obtain ⟨i, hi⟩ := List.mem_iff_getElem?.1 hx
      exact (hq i x hi).1

theorem trod_u64 {fuel : Nat} {cs : List Value} {y : DataW H × List MemPlace} (h : DataW.trod enc Tryz.prog w 0 (fun _ => true) true fuel 41 cs = some y) : ∃ n : Nat, cs = [.int .u64 n] ∧ n < 18446744073709551616 := by
  obtain ⟨z, hz, _, hwf⟩ := DataW.trod_int Tryz.underlying41 h
  have hzb : 0 ≤ z ∧ z ≤ 18446744073709551615 := by simpa [Lit.wf, IntKind.min, IntKind.max, IntKind.bits, IntKind.signed] using hwf
  exact ⟨z.toNat, by rw [hz]; congr 2; omega, by omega⟩
theorem trod_i64 {fuel : Nat} {cs : List Value} {y : DataW H × List MemPlace} (h : DataW.trod enc Tryz.prog w 0 (fun _ => true) true fuel 3 cs = some y) : ∃ z : Int, cs = [.int .i64 z] ∧ -9223372036854775808 ≤ z ∧ z ≤ 9223372036854775807 := by
  obtain ⟨z, hz, _, hwf⟩ := DataW.trod_int Tryz.underlying3 h
  have hzb : -9223372036854775808 ≤ z ∧ z ≤ 9223372036854775807 := by simpa [Lit.wf, IntKind.min, IntKind.max, IntKind.bits, IntKind.signed] using hwf
  exact ⟨z, hz, hzb⟩
end
section
variable {H : Type} {enc : TypeId × Value → H} {w : World}
theorem trod_bool1 {fuel : Nat} {cs : List Value} {y : DataW H × List MemPlace} (h : DataW.trod enc Tryz.prog w 0 (fun _ => true) true fuel 4 cs = some y) : ∃ b, cs = [.bool b] := by
  obtain ⟨b, hb, _⟩ := DataW.trod_bool Tryz.underlying4 h
  exact ⟨b, hb⟩
theorem trod_form {T St fuel : Nat} {c : Value} {y : DataW H × List MemPlace} (hT : Tryz.prog.underlying T = some (.slice St)) (h : DataW.trod enc Tryz.prog w 0 (fun _ => true) true fuel T [c] = some y) : ∃ A n k, c = .slice A n k := by
  rcases open_slice hT h with ⟨hcs, _⟩ | ⟨a, len, cap, m, q, D, Pl, hcs, _⟩
  · cases hcs; exact ⟨_, _, _, rfl⟩
  · cases hcs; exact ⟨_, _, _, rfl⟩
set_option maxRecDepth 100000 in
theorem open_kvar (fuel : Nat) (cs : List Value) (y : DataW H × List MemPlace) (h : DataW.trod enc Tryz.prog w 0 (fun _ => true) true fuel 60 cs = some y) (hl : cs.length = 3) : ∃ x : KVar, cs = kvarRow x ∧ (In64 x.limbs ∧ In64 x.mode) := by
  obtain ⟨xs, f, _, _, hlen, hxl, hfs⟩ := DataW.trod_struct Tryz.underlying60 h
  match cs, hl with
  | [c0, c1, c2], _ =>
    match xs, hxl with
    | [y0, y1, y2], _ =>
      have k_bool : Tryz.prog.cellsOf 4 = 1 := by kernel_rfl
      have k_int : Tryz.prog.cellsOf 3 = 1 := by kernel_rfl
      have t0 : DataW.trod enc Tryz.prog w 0 (fun _ => true) true f 3 (([c0, c1, c2].drop 0).take (Tryz.prog.cellsOf 3)) = some y0 := hfs 0 _ rfl
      have t1 : DataW.trod enc Tryz.prog w 0 (fun _ => true) true f 4 (([c0, c1, c2].drop 1).take (Tryz.prog.cellsOf 4)) = some y1 := hfs 1 _ rfl
      have t2 : DataW.trod enc Tryz.prog w 0 (fun _ => true) true f 3 (([c0, c1, c2].drop 2).take (Tryz.prog.cellsOf 3)) = some y2 := hfs 2 _ rfl
      rw [k_bool] at t1
      rw [k_int] at t0 t2
      simp only [List.drop_zero, List.drop_succ_cons, List.take_succ_cons, List.take_zero] at t0 t1 t2
      obtain ⟨a0, h0, b0⟩ := trod_i64 t0
      obtain ⟨a1, h1⟩ := trod_bool1 t1
      obtain ⟨a2, h2, b2⟩ := trod_i64 t2
      cases h0; cases h1; cases h2
      exact ⟨⟨a0, a1, a2⟩, rfl, ⟨b0, b2⟩⟩
set_option maxRecDepth 100000 in
theorem open_kop (fuel : Nat) (cs : List Value) (y : DataW H × List MemPlace) (h : DataW.trod enc Tryz.prog w 0 (fun _ => true) true fuel 43 cs = some y) (hl : cs.length = 7) : ∃ x : KOp, cs = kopRow x ∧ KOpOk x := by
  obtain ⟨xs, f, _, _, hlen, hxl, hfs⟩ := DataW.trod_struct Tryz.underlying43 h
  match cs, hl with
  | [c0, c1, c2, c3, c4, c5, c6], _ =>
    match xs, hxl with
    | [y0, y1, y2, y3, y4, y5, y6], _ =>
      have k_int : Tryz.prog.cellsOf 3 = 1 := by kernel_rfl
      have k_uint64 : Tryz.prog.cellsOf 41 = 1 := by kernel_rfl
      have t0 : DataW.trod enc Tryz.prog w 0 (fun _ => true) true f 3 (([c0, c1, c2, c3, c4, c5, c6].drop 0).take (Tryz.prog.cellsOf 3)) = some y0 := hfs 0 _ rfl
      have t1 : DataW.trod enc Tryz.prog w 0 (fun _ => true) true f 3 (([c0, c1, c2, c3, c4, c5, c6].drop 1).take (Tryz.prog.cellsOf 3)) = some y1 := hfs 1 _ rfl
      have t2 : DataW.trod enc Tryz.prog w 0 (fun _ => true) true f 3 (([c0, c1, c2, c3, c4, c5, c6].drop 2).take (Tryz.prog.cellsOf 3)) = some y2 := hfs 2 _ rfl
      have t3 : DataW.trod enc Tryz.prog w 0 (fun _ => true) true f 3 (([c0, c1, c2, c3, c4, c5, c6].drop 3).take (Tryz.prog.cellsOf 3)) = some y3 := hfs 3 _ rfl
      have t4 : DataW.trod enc Tryz.prog w 0 (fun _ => true) true f 3 (([c0, c1, c2, c3, c4, c5, c6].drop 4).take (Tryz.prog.cellsOf 3)) = some y4 := hfs 4 _ rfl
      have t5 : DataW.trod enc Tryz.prog w 0 (fun _ => true) true f 3 (([c0, c1, c2, c3, c4, c5, c6].drop 5).take (Tryz.prog.cellsOf 3)) = some y5 := hfs 5 _ rfl
      have t6 : DataW.trod enc Tryz.prog w 0 (fun _ => true) true f 41 (([c0, c1, c2, c3, c4, c5, c6].drop 6).take (Tryz.prog.cellsOf 41)) = some y6 := hfs 6 _ rfl
      rw [k_int] at t0 t1 t2 t3 t4 t5
      rw [k_uint64] at t6
      simp only [List.drop_zero, List.drop_succ_cons, List.take_succ_cons, List.take_zero] at t0 t1 t2 t3 t4 t5 t6
      obtain ⟨a0, h0, b0⟩ := trod_i64 t0
      obtain ⟨a1, h1, b1⟩ := trod_i64 t1
      obtain ⟨a2, h2, b2⟩ := trod_i64 t2
      obtain ⟨a3, h3, b3⟩ := trod_i64 t3
      obtain ⟨a4, h4, b4⟩ := trod_i64 t4
      obtain ⟨a5, h5, b5⟩ := trod_i64 t5
      obtain ⟨a6, h6, b6⟩ := trod_u64 t6
      cases h0; cases h1; cases h2; cases h3; cases h4; cases h5; cases h6
      exact ⟨⟨a0, a1, a2, a3, a4, a5, a6⟩, rfl, ⟨b0, b1, b2, b3, b4, b5, b6⟩⟩
set_option maxRecDepth 100000 in
theorem open_fct (fuel : Nat) (cs : List Value) (y : DataW H × List MemPlace) (h : DataW.trod enc Tryz.prog w 0 (fun _ => true) true fuel 45 cs = some y) (hl : cs.length = 3) : ∃ x : Fct, cs = factRow x ∧ FctOk x := by
  obtain ⟨xs, f, _, _, hlen, hxl, hfs⟩ := DataW.trod_struct Tryz.underlying45 h
  match cs, hl with
  | [c0, c1, c2], _ =>
    match xs, hxl with
    | [y0, y1, y2], _ =>
      have k_int : Tryz.prog.cellsOf 3 = 1 := by kernel_rfl
      have t0 : DataW.trod enc Tryz.prog w 0 (fun _ => true) true f 3 (([c0, c1, c2].drop 0).take (Tryz.prog.cellsOf 3)) = some y0 := hfs 0 _ rfl
      have t1 : DataW.trod enc Tryz.prog w 0 (fun _ => true) true f 3 (([c0, c1, c2].drop 1).take (Tryz.prog.cellsOf 3)) = some y1 := hfs 1 _ rfl
      have t2 : DataW.trod enc Tryz.prog w 0 (fun _ => true) true f 3 (([c0, c1, c2].drop 2).take (Tryz.prog.cellsOf 3)) = some y2 := hfs 2 _ rfl
      rw [k_int] at t0 t1 t2
      simp only [List.drop_zero, List.drop_succ_cons, List.take_succ_cons, List.take_zero] at t0 t1 t2
      obtain ⟨a0, h0, b0⟩ := trod_i64 t0
      obtain ⟨a1, h1, b1⟩ := trod_i64 t1
      obtain ⟨a2, h2, b2⟩ := trod_i64 t2
      cases h0; cases h1; cases h2
      exact ⟨⟨a0, a1, a2⟩, rfl, ⟨b0, b1, b2⟩⟩
theorem open_facts {A : Option Addr} {n c : Nat} {d : DataW H} {ps : List MemPlace} (h : DataW.Trod enc Tryz.prog w 0 (fun _ => true) true 39 (.slice A n c) d ps) :
    ∃ l : List Fct, FactsAt w (fun k => k < w.heap.size) (.slice A n c) l ∧ (∀ x ∈ l, FctOk x) ∧ l.length ≤ 9223372036854775807 :=
  open_rows factRow FctOk Tryz.underlying39 (by kernel_rfl) (by decide) (fun _ => rfl) open_fct h
theorem open_fact {cs : Array Value} {d : DataW H} {ps : List MemPlace} (h : DataW.Trod enc Tryz.prog w 0 (fun _ => true) true 45 (.agg cs) d ps) : ∃ f : Fct, cs = (factRow f).toArray ∧ FctOk f := by
  obtain ⟨fuel, hf⟩ := h
  obtain ⟨xs, f, _, _, hlen, hxl, hfs⟩ := DataW.trod_struct Tryz.underlying45 hf
  have hC : Tryz.prog.cellsOf 45 = 3 := by kernel_rfl
  rw [hC] at hlen
  obtain ⟨x, hx, hq⟩ := open_fct fuel cs.toList (d, ps) hf hlen
  exact ⟨x, by rw [← hx], hq⟩
set_option maxRecDepth 100000 in
theorem open_kern {cs : Array Value} {d : DataW H} {ps : List MemPlace} (h : DataW.Trod enc Tryz.prog w 0 (fun _ => true) true 25 (.agg cs) d ps) :
    ∃ (k : Krn) (Av Ao Ar : Option Addr) (nv cv no co nr cr : Nat), cs = #[.slice Av nv cv, .slice Ao no co, .slice Ar nr cr] ∧ KernAt w (fun k => k < w.heap.size) [.slice Av nv cv, .slice Ao no co, .slice Ar nr cr] k := by
  obtain ⟨fuel, hf⟩ := h
  obtain ⟨xs, f, _, _, hlen, hxl, hfs⟩ := DataW.trod_struct Tryz.underlying25 hf
  have hC : Tryz.prog.cellsOf 25 = 3 := by kernel_rfl
  rw [hC] at hlen
  have hcs : (Value.agg cs).cells.toList = cs.toList := rfl
  rw [hcs] at hlen hfs
  obtain ⟨l⟩ := cs
  simp only [] at hlen hfs
  match l, hlen with
  | [c0, c1, c2], _ =>
    match xs, hxl with
    | [y0, y1, y2], _ =>
      have t0 : DataW.trod enc Tryz.prog w 0 (fun _ => true) true f 22 (([c0, c1, c2].drop 0).take (Tryz.prog.cellsOf 22)) = some y0 := hfs 0 _ rfl
      have t1 : DataW.trod enc Tryz.prog w 0 (fun _ => true) true f 23 (([c0, c1, c2].drop 1).take (Tryz.prog.cellsOf 23)) = some y1 := hfs 1 _ rfl
      have t2 : DataW.trod enc Tryz.prog w 0 (fun _ => true) true f 23 (([c0, c1, c2].drop 2).take (Tryz.prog.cellsOf 23)) = some y2 := hfs 2 _ rfl
      have k0 : Tryz.prog.cellsOf 22 = 1 := by kernel_rfl
      have k1 : Tryz.prog.cellsOf 23 = 1 := by kernel_rfl
      rw [k0] at t0
      rw [k1] at t1 t2
      simp only [List.drop_zero, List.drop_succ_cons, List.take_succ_cons, List.take_zero] at t0 t1 t2
      obtain ⟨Av, nv, cv, rfl⟩ := trod_form Tryz.underlying22 t0
      obtain ⟨Ao, no, co, rfl⟩ := trod_form Tryz.underlying23 t1
      obtain ⟨Ar, nr, cr, rfl⟩ := trod_form Tryz.underlying23 t2
      obtain ⟨lv, hv, hvq, hvl⟩ := open_rows kvarRow (fun x : KVar => In64 x.limbs ∧ In64 x.mode) Tryz.underlying22 (by kernel_rfl) (by decide) (fun _ => rfl) open_kvar (d := y0.1) (ps := y0.2) ⟨f, t0⟩
      obtain ⟨lo, ho, hoq, hol⟩ := open_rows kopRow KOpOk Tryz.underlying23 (by kernel_rfl) (by decide) (fun _ => rfl) open_kop (d := y1.1) (ps := y1.2) ⟨f, t1⟩
      obtain ⟨lr, hr, hrq, hrl⟩ := open_rows kopRow KOpOk Tryz.underlying23 (by kernel_rfl) (by decide) (fun _ => rfl) open_kop (d := y2.1) (ps := y2.2) ⟨f, t2⟩
      exact ⟨⟨lv, lo, lr⟩, Av, Ao, Ar, nv, cv, no, co, nr, cr, rfl, ⟨⟨_, _, _, rfl, hv, ho, hr⟩, hvl, hol, hrl, hvq, hoq, hrq⟩⟩
end
end Go.Proofs.YtjbabpnepjhllaaGreat

/- Of any kernel: the law DutiesAsked tells true, and what was handed in reads as it did. No conditions. -/
namespace Go.Proofs.YtjbabpnepjhllaaGreat.dutiesAsked
open Go.ChangeShapes Go.WideShapes Go.ChangeAt Go.RowKit

theorem own : ownKnob Tryz.prog.godebug = none := by kernel_rfl
theorem laidOut : laidOutB Tryz.prog = true := by kernel_rfl

set_option maxRecDepth 100000 in
theorem lifted (os : Os) (started : os.Started) (H : Type) (enc : TypeId × Value → H) :
    ReturnsInHanded {} Tryz.checked os 4 .any (Rows.dutiesAskedSpec.pre6 enc Tryz.prog Tryz.f4 Rows.dutiesAskedRow.domain false) (Rows.dutiesAskedSpec.post enc Tryz.prog Tryz.f4 false true false false) := by
  refine returnsInHanded_of_change (C := Tryz.checked) own started (by kernel_rfl) Tryz.func4
    (ChangeSpec.witness6 (enc := enc) (C := Tryz.checked) false ⟨#[], #[.agg #[.slice none 0 0, .slice none 0 0, .slice none 0 0]], []⟩ 8 (by kernel_rfl) (by kernel_rfl) (by kernel_rfl) (by kernel_rfl)) ?_
  intro W base args ds gs before hval0 hW hcnd _
  have hval : ∀ (j : Nat) t v, Tryz.f4.params[j]? = some t → args[j]? = some v → Value.okWide Tryz.prog W .any base t v := hval0
  have hW' := hW
  obtain ⟨p, q, hA0, hV, rfl, hfz, hnd⟩ := hW
  have hA : DataW.TrodAll enc Tryz.prog W 0 (fun _ => true) true Tryz.f4.params.toList args.toList ds p := hA0
  rw [Tryz.params4] at hA hval
  obtain ⟨v0, vs0, d0, ds0, p0, q0, hargs, rfl, rfl, h0, r0⟩ := trodAll_cons hA
  obtain ⟨rfl, rfl, rfl⟩ := trodAll_nil r0
  obtain rfl : args = #[v0] := by cases args; simp_all
  obtain ⟨rfl, rfl⟩ := trodVars_none hV
  have k0 := h0
  have lt0 : ∀ x ∈ p0, x.block < W.heap.size := by obtain ⟨m, hm⟩ := k0; exact DataW.trod_lt m _ _ _ hm
  obtain ⟨cs0, rfl, hcs0⟩ := okWide_struct Tryz.underlying25 (hval 0 25 v0 rfl rfl)
  obtain ⟨K0, Av0, Ao0, Ar0, nv0, cv0, no0, co0, nr0, cr0, rfl, hk0⟩ := open_kern h0
  clear hA0 hval0
  refine (asked_any Av0 Ao0 Ar0 nv0 cv0 no0 co0 nr0 cr0 K0 W hk0).mono fun e W' ⟨he, bel⟩ => ?_
  subst he
  exact ⟨_, rfl, _, _, _, [], _, [], hW', trodAll_mk1 (shut_bool Tryz.underlying4 _), (trodAll_cons_mk (Below.trod laidOut (by kernel_rfl) (of_decide_eq_true (by kernel_rfl)) k0 bel lt0) trodAll_mk0), rfl, bel.frame _, fun h => by cases h⟩

theorem over : Rows.dutiesAskedRow.holds Tryz.pinned (OpenSpec.ofChange Rows.dutiesAskedSpec) :=
  OpenClaim.holds_of_wide 4 Tryz.f4 rfl rfl rfl rfl rfl rfl rfl ⟨rfl, rfl, rfl, rfl, rfl⟩ rfl rfl rfl rfl rfl (by kernel_rfl) Tryz.func4 (by kernel_rfl)
    (of_decide_eq_true (by kernel_rfl)) (by unfold Func.isWrapper; first | (rw [if_pos (by decide +kernel)]; kernel_rfl) | (rw [if_neg (by decide +kernel)]; exact ⟨rfl, rfl⟩))
    (fun os started H enc _ => lifted os started H enc)

theorem proved : Rows.DutiesAskedSaid := over
#print axioms proved
end Go.Proofs.YtjbabpnepjhllaaGreat.dutiesAsked
