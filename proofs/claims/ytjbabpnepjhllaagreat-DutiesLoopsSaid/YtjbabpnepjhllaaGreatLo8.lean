/- Of any kernel, and a place: the law DutiesLoops tells true, and what was handed in reads as it did. No conditions. -/
import Derived.Test.YtjbabpnepjhllaaGreatLo4
import Derived.Test.YtjbabpnepjhllaaGreatLo7
import Derived.Test.YtjbabpnepjhllaaGreatWords21
import Derived.Deep.Slices
import Derived.ProofKit
import Derived.Test.YtjbabpnepjhllaaGreatRows
import Derived.OpenShut
namespace Go.Proofs.YtjbabpnepjhllaaGreat
open Go.RowKit

theorem more_facts {w : World} {base n : Nat} {v : Value} {l : List Fct} (h : w.ownsRow base 45 3 v n (cellsOfF l)) (hn : n = l.length) : FactsAt w (fun q => q < w.heap.size) v l := by
  subst hn
  exact Rows.mono (facts_own h) fun q hq => (own_lt h q hq).1
theorem light_parts {k : Krn} (h : lightK k = true) : k.vars.length ≤ 16 ∧ k.ops.length ≤ 40 ∧ k.reqs.length ≤ 40 := by
  unfold lightK at h
  simp only [Bool.and_eq_true, decide_eq_true_eq] at h
  exact h.2
set_option maxRecDepth 100000 in
set_option maxHeartbeats 20000000 in
/-- DutiesMore. -/
theorem more_any (Av Ao Ar Al Am : Option Addr) (nv cv no co nr cr nl cl nm cm : Nat) (k : Krn) (at_ : Int) (l m : List Fct) (w : World) (hk : KernAt w (fun q => q < w.heap.size) [.slice Av nv cv, .slice Ao no co, .slice Ar nr cr] k)
    (hl : FactsAt w (fun q => q < w.heap.size) (.slice Al nl cl) l) (hm : FactsAt w (fun q => q < w.heap.size) (.slice Am nm cm) m) (hokl : ∀ f ∈ l, FctOk f) (hokm : ∀ f ∈ m, FctOk f) :
    Calls Tryz.prog 7 #[.agg #[.slice Av nv cv, .slice Ao no co, .slice Ar nr cr], .int .i64 at_, .slice Al nl cl, .slice Am nm cm] w fun e w' => e = .returned (.bool true) ∧ Below w.heap.size w w' := by
  obtain ⟨W, hW⟩ : ∃ W, W = w.alloc (.cells #[.slice Av nv cv, .slice Ao no co, .slice Ar nr cr] 25) := ⟨_, rfl⟩
  have hb : Below w.heap.size w W := by rw [hW]; exact (Below.refl _ _).alloc (Nat.le_refl _) _
  have hbox : W.heap[w.heap.size]? = some (.cells #[.slice Av nv cv, .slice Ao no co, .slice Ar nr cr] 25 (0, 0)) := by rw [hW]; exact heap_alloc_new w _
  have hk2 : KernAt W (fun k => k < W.heap.size) [.slice Av nv cv, .slice Ao no co, .slice Ar nr cr] k := (hk.keep (SameOn.of_below hb fun q hq => hq)).mono fun j hj => by have := hb.size; omega
  have hkb := kbox_of hbox hk2
  have HW := Lib.hid hW
  have HB := Lib.hid hb
  have HK := Lib.hid hkb
  have HLV := Lib.hid (lives_any W)
  have HLK := Lib.hid (fun (w1 : World) (h1 : Below W.heap.size W w1) => light_any Av Ao Ar nv cv no co nr cr k w1 _ (kern_next hk2 h1) (fun k hk => hk))
  have HL1 := Lib.hid (LightFacts_any Al nl cl)
  have HL2 := Lib.hid (LightFacts_any Am nm cm)
  have c0 := hkb.c0
  have c1 := hkb.c1
  have c2 := hkb.c2
  cases hL : lightK k
  · rw [hL] at HLK
    clear hW hb hbox hk2 hkb hk hl hm hokl hokm hL c0 c1 c2
    go_enter Tryz.func7, Tryz.ntmps7
    go_upto_region 1 with (first | go_in)
    rw [← HW.out]
    clear HW
    go_upto_region 3 with (first | ((with_reducible refine HLV.out.mono ?_); rintro e w1 ⟨rfl, hb1⟩; have HB1 := Lib.hid hb1; clear hb1) | go_in)
    have c0 := (HK.out.next HB1.out).c0
    have c1 := (HK.out.next HB1.out).c1
    have c2 := (HK.out.next HB1.out).c2
    go_wp2_with (first | ((with_reducible refine (HLK.out _ HB1.out).mono ?_); rintro e w2 ⟨rfl, hb2⟩; have HB2 := Lib.hid (HB1.out.trans (hb2.mono HB1.out.size)); clear hb2) | ((with_reducible refine (HL1.out _).mono ?_); rintro e w2 ⟨rfl, hw_⟩; subst hw_) | ((with_reducible refine (HL2.out _).mono ?_); rintro e w2 ⟨rfl, hw_⟩; subst hw_) | go_in)
    go_ret
    exact ⟨rfl, HB.out.trans (HB2.out.mono HB.out.size)⟩
  rw [hL] at HLK
  by_cases h1 : nl ≤ 40
  rotate_left
  · rw [decide_eq_false h1] at HL1
    clear hW hb hbox hk2 hkb hk hl hm hokl hokm hL h1 c0 c1 c2
    go_enter Tryz.func7, Tryz.ntmps7
    go_upto_region 1 with (first | go_in)
    rw [← HW.out]
    clear HW
    go_upto_region 3 with (first | ((with_reducible refine HLV.out.mono ?_); rintro e w1 ⟨rfl, hb1⟩; have HB1 := Lib.hid hb1; clear hb1) | go_in)
    have c0 := (HK.out.next HB1.out).c0
    have c1 := (HK.out.next HB1.out).c1
    have c2 := (HK.out.next HB1.out).c2
    go_wp2_with (first | ((with_reducible refine (HLK.out _ HB1.out).mono ?_); rintro e w2 ⟨rfl, hb2⟩; have HB2 := Lib.hid (HB1.out.trans (hb2.mono HB1.out.size)); clear hb2) | ((with_reducible refine (HL1.out _).mono ?_); rintro e w2 ⟨rfl, hw_⟩; subst hw_) | ((with_reducible refine (HL2.out _).mono ?_); rintro e w2 ⟨rfl, hw_⟩; subst hw_) | go_in)
    go_ret
    exact ⟨rfl, HB.out.trans (HB2.out.mono HB.out.size)⟩
  rw [decide_eq_true h1] at HL1
  by_cases h2 : nm ≤ 40
  rotate_left
  · rw [decide_eq_false h2] at HL2
    clear hW hb hbox hk2 hkb hk hl hm hokl hokm hL h1 h2 c0 c1 c2
    go_enter Tryz.func7, Tryz.ntmps7
    go_upto_region 1 with (first | go_in)
    rw [← HW.out]
    clear HW
    go_upto_region 3 with (first | ((with_reducible refine HLV.out.mono ?_); rintro e w1 ⟨rfl, hb1⟩; have HB1 := Lib.hid hb1; clear hb1) | go_in)
    have c0 := (HK.out.next HB1.out).c0
    have c1 := (HK.out.next HB1.out).c1
    have c2 := (HK.out.next HB1.out).c2
    go_wp2_with (first | ((with_reducible refine (HLK.out _ HB1.out).mono ?_); rintro e w2 ⟨rfl, hb2⟩; have HB2 := Lib.hid (HB1.out.trans (hb2.mono HB1.out.size)); clear hb2) | ((with_reducible refine (HL1.out _).mono ?_); rintro e w2 ⟨rfl, hw_⟩; subst hw_) | ((with_reducible refine (HL2.out _).mono ?_); rintro e w2 ⟨rfl, hw_⟩; subst hw_) | go_in)
    go_ret
    exact ⟨rfl, HB.out.trans (HB2.out.mono HB.out.size)⟩
  rw [decide_eq_true h2] at HL2
  obtain ⟨hv16, _, _⟩ := light_parts hL
  have hnl := (rows_len hl).1
  have hnm := (rows_len hm).1
  have hlW : FactsAt W (fun q => q < W.heap.size) (.slice Al nl cl) l := rows_next hl hb
  have hmW : FactsAt W (fun q => q < W.heap.size) (.slice Am nm cm) m := rows_next hm hb
  have HA1 := Lib.hid (fun (w3 : World) (h3 : Below W.heap.size W w3) => After_any Av Ao Ar Al nv cv no co nr cr nl cl k at_ l w3 _ (kern_next hk2 h3) (fun k hk => hk) (by omega) (rows_next hlW h3) hokl (by omega))
  have HA2 := Lib.hid (fun (w3 : World) (A : Option Addr) (c : Nat) (h3 : Below W.heap.size W w3) (h4 : FactsAt w3 (fun q => q < w3.heap.size) (.slice A (l.length + nm) c) (l ++ m)) => After_any Av Ao Ar A nv cv no co nr cr (l.length + nm) c k at_ (l ++ m) w3 _ (kern_next hk2 h3) (fun k hk => hk) (by omega) h4 (fun f hf => by rcases List.mem_append.1 hf with h | h; exact hokl f h; exact hokm f h) (by rw [List.length_append]; omega))
  have HOW := Lib.hid (fun (w3 : World) (h3 : Below W.heap.size W w3) => OwnF_any (.slice Al nl cl) l w3 _ (rows_next hlW h3) (by omega))
  have HCO := Lib.hid (fun (w3 : World) (h3 : Below W.heap.size W w3) => Common_any Al Am nl cl nm cm l m w3 _ (rows_next hlW h3) (rows_next hmW h3) (fun k hk => hk) hokl (by omega) (by omega))
  have HLW := Lib.hid hlW
  have HMW := Lib.hid hmW
  have HN := Lib.hid (And.intro hnl hnm)
  have HSUB := Lib.hid (after_sub (k := k) (at_ := at_) (l := l) (m := l ++ m) fun x hx => List.mem_append.2 (.inl hx))
  have HLEN := Lib.hid (show (after_at k at_ l).length ≤ 90000 ∧ (after_at k at_ (l ++ m)).length ≤ 90000 from ⟨after_len (by omega) (by omega), after_len (by omega) (by rw [List.length_append]; omega)⟩)
  have HCL := Lib.hid (show (commonF l m).length ≤ 90000 from Nat.le_trans (common_len l m) (by omega))
  have HORD := Lib.hid (after_ord k at_ l)
  have HSZ := Lib.hid (And.intro h1 h2)
  obtain ⟨a, ha⟩ : ∃ a, a = after_at k at_ l := ⟨_, rfl⟩
  obtain ⟨b, hbb⟩ : ∃ b, b = after_at k at_ (l ++ m) := ⟨_, rfl⟩
  obtain ⟨c, hcc⟩ : ∃ c, c = commonF l m := ⟨_, rfl⟩
  have HCM := Lib.hid (show ∀ f ∈ c, f ∈ l ∧ f ∈ m from fun f hf => by rw [hcc] at hf; exact ⟨(mem_commonF.1 hf).1, (mem_commonF.1 hf).2.1⟩)
  rw [← ha] at HA1 HSUB HLEN HORD
  rw [← hbb] at HSUB HLEN
  rw [← hcc] at HCO HCL
  simp only [← hbb] at HA2
  clear hW hb hbox hk2 hkb hk hl hm hokl hokm hL h1 h2 c0 c1 c2 hv16 hnl hnm hlW hmW ha hbb hcc
  go_enter Tryz.func7, Tryz.ntmps7
  go_upto_region 1 with (first | go_in)
  rw [← HW.out]
  clear HW
  go_upto_region 3 with (first | ((with_reducible refine HLV.out.mono ?_); rintro e w1 ⟨rfl, hb1⟩; have HB1 := Lib.hid hb1; clear hb1) | go_in)
  have c0 := (HK.out.next HB1.out).c0
  have c1 := (HK.out.next HB1.out).c1
  have c2 := (HK.out.next HB1.out).c2
  go_upto_region 5 with (first | ((with_reducible refine (HLK.out _ HB1.out).mono ?_); rintro e w2 ⟨rfl, hb2⟩; have HB2 := Lib.hid (HB1.out.trans (hb2.mono HB1.out.size)); clear hb2) | ((with_reducible refine (HL1.out _).mono ?_); rintro e w2 ⟨rfl, hw_⟩; subst hw_) | ((with_reducible refine (HL2.out _).mono ?_); rintro e w2 ⟨rfl, hw_⟩; subst hw_) | go_in)
  clear c0 c1 c2 HLV HLK HL1 HL2
  have HKB := Lib.hid (show ∀ w_, Below w2.heap.size w2 w_ → w_.cell? ⟨w.heap.size, 0, none⟩ = some (.slice Av nv cv) ∧ w_.cell? ⟨w.heap.size, 1, none⟩ = some (.slice Ao no co) ∧ w_.cell? ⟨w.heap.size, 2, none⟩ = some (.slice Ar nr cr) from fun w_ h_ => by
    have h := HK.out.next (HB2.out.trans (h_.mono HB2.out.size))
    exact ⟨h.c0, h.c1, h.c2⟩)
  have hS := (Below.refl w2.heap.size w2).drew
  have up : ∀ {w_}, Below w2.heap.size w2 w_ → Below W.heap.size W w_ := fun h => HB2.out.trans (h.mono HB2.out.size)
  (refine wp_region_lines (Below w2.heap.size w2) (by kernel_rfl) (by kernel_rfl) ((Below.refl w2.heap.size w2).drew) ?_)
  (try simp only [])
  repeat (first | (refine runL_no (by rfl) ?_; (try simp only [Act.put, List.setIfInBounds_toArray, List.set_cons_zero, List.set_cons_succ])) | (refine runL_val (v := ?_) (by rfl) ?_ ?_; rotate_left; (focus (intro w_ hw_; have f0_ := (HKB.out w_ hw_).1; have f1_ := (HKB.out w_ hw_).2.1; have f2_ := (HKB.out w_ hw_).2.2; go_simp; (try with_reducible rfl); done)); (try simp only [Act.put, List.setIfInBounds_toArray, List.set_cons_zero, List.set_cons_succ])) | (refine runL_call (f := ?_) (args := ?_) (w1 := ?_) (by rfl) (by rfl) ?_ ?_; rotate_left 3; (focus (go_simp; refine ⟨⟨?_, ?_⟩, ?_⟩ <;> with_reducible rfl)); (with_reducible refine (HA1.out _ (up hS)).mono ?_); rintro e_ w3 ⟨A5, n5, c5, rfl, hf5, hb3⟩; have HF5 := Lib.hid hf5; replace hS := hS.trans (hb3.mono hS.size); have HS3 := Lib.hid hS.size; clear hf5 hb3; refine ⟨_, rfl, .inr hS, ?_⟩; (try simp only [Act.put, List.setIfInBounds_toArray, List.set_cons_zero, List.set_cons_succ])) | (refine runL_call (f := ?_) (args := ?_) (w1 := ?_) (by rfl) (by rfl) ?_ ?_; rotate_left 3; (focus (go_simp; refine ⟨⟨?_, ?_⟩, ?_⟩ <;> with_reducible rfl)); (with_reducible refine (HOW.out w3 (up hS)).mono ?_); rintro e_ w4 ⟨g4, cap4, rfl, ho4, hc4, hb4⟩; have HO4 := Lib.hid ho4; have HC4 := Lib.hid hc4; have HB4 := Lib.hid hb4; replace hS := hS.trans (hb4.mono hS.size); clear ho4 hc4 hb4; refine ⟨_, rfl, .inr hS, ?_⟩; (try simp only [Act.put, List.setIfInBounds_toArray, List.set_cons_zero, List.set_cons_succ])) | (refine runL_call (f := ?_) (args := ?_) (w1 := ?_) (by rfl) (by rfl) ?_ ?_; rotate_left 3; (focus (go_simp; refine ⟨⟨?_, ?_⟩, ?_⟩ <;> with_reducible rfl)); (with_reducible refine (HA2.out w6 A6 c6 (up hS) HF6.out).mono ?_); rintro e_ w7 ⟨A7, n7, c7, rfl, hf7, hb7⟩; have HF7 := Lib.hid hf7; have HB7 := Lib.hid hb7; replace hS := hS.trans (hb7.mono hS.size); clear hf7 hb7; refine ⟨_, rfl, .inr hS, ?_⟩; (try simp only [Act.put, List.setIfInBounds_toArray, List.set_cons_zero, List.set_cons_succ])) | (refine runL_appendFs (base := w3.heap.size) (F := fun q => q < w4.heap.size) (xs := l) (more := m) (by rfl) (by rfl) _ _ rfl (by rfl) HO4.out HC4.out (by rfl) (rows_next HMW.out (up hS)) (by have := HN.out.1; have := HSZ.out; omega) HB4.out.size ?_; intro A6 c6 w6 ho6 hb6; have HF6 := Lib.hid (more_facts ho6 (by rw [List.length_append, ← HN.out.2])); have HB6 := Lib.hid (HB4.out.trans hb6); replace hS := hS.trans (hb6.mono HS3.out); clear ho6 hb6; refine ⟨hS, ?_⟩; (try simp only [Act.put, List.setIfInBounds_toArray, List.set_cons_zero, List.set_cons_succ])))
  (refine runL_nil ?_)
  have HS := Lib.hid (up hS)
  have HFA := Lib.hid (show FactsAt w7 (fun q => q < w7.heap.size) (.slice A5 n5 c5) a from rows_next HF5.out (HB6.out.trans (HB7.out.mono HB6.out.size)))
  have n5a := (rows_len HF5.out).1
  have HN5 := Lib.hid n5a
  have hn5 : n5 ≤ 90000 := by have := HLEN.out.1; omega
  clear hS up HF5 HO4 HC4 HF6 HB6 HB7 HB4 HS3 HKB HA1 HA2 HOW n5a
  go_wp2
  go_loopw [8, 11] (fun _ s11 wr => ∃ j : Nat, j ≤ n5 ∧ s11 = .int .i64 (j : Nat) ∧ Below w7.heap.size w7 wr) (fun _ s11 _ => n5 - (intOf s11).toNat)
  case atStart => exact ⟨0, Nat.zero_le _, rfl, Below.refl _ _⟩
  case round =>
    obtain ⟨j, hj, rfl, hbr⟩ := hrel
    have HBR := Lib.hid hbr
    by_cases hlt : j < n5
    · have d1 : decide (j < n5) = true := decide_eq_true hlt
      obtain ⟨x, hx⟩ : ∃ v, a[j]? = some v := ⟨_, List.getElem?_eq_getElem (by have := HN5.out; omega)⟩
      have hxa := List.mem_of_getElem? hx
      have HX := Lib.hid hx
      have HK1 := Lib.hid (fun (w_ : World) (h : Below wr.heap.size wr w_) => Knows_any (.slice A7 n7 c7) x b w_ _ (rows_next HF7.out (hbr.trans (h.mono hbr.size))) (fun k hk => hk) (by have := HLEN.out.2; omega))
      have HK2 := Lib.hid (fun (w_ : World) (h : Below wr.heap.size wr w_) => Knows_any (.slice A5 n5 c5) x a w_ _ (rows_next HFA.out (hbr.trans (h.mono hbr.size))) (fun k hk => hk) (by have := HLEN.out.1; omega))
      rw [knowsF_mem (HSUB.out x hxa)] at HK1
      rw [knowsF_mem hxa] at HK2
      have hat := rows_next HFA.out hbr
      obtain ⟨g, off, hA, hg, z0, z1, z2⟩ := FactsAt.at_ hat hx
      have HFC := Lib.hid (show ∀ w_, Below wr.heap.size wr w_ → w_.cell? ⟨g, off + j * 3, none⟩ = some (.int .i64 x.kind) ∧ w_.cell? ⟨g, off + j * 3 + 1, none⟩ = some (.int .i64 x.a) ∧ w_.cell? ⟨g, off + j * 3 + 2, none⟩ = some (.int .i64 x.b) from fun w_ h => ⟨(h.cell (p := ⟨g, off + j * 3, none⟩) hg).trans z0, (h.cell (p := ⟨g, off + j * 3 + 1, none⟩) hg).trans z1, (h.cell (p := ⟨g, off + j * 3 + 2, none⟩) hg).trans z2⟩)
      have i0 : (0 : Int) ≤ (j : Int) := by omega
      have i1 : (j : Int) < (n5 : Int) := by omega
      have i2 : IntKind.i64.wrap (j : Int) = j := by rw [IntKind.wrap_i64]; omega
      clear hx hxa z0 z1 z2
      by_cases h0 : j = 0
      · have d3 : decide (0 < j) = false := decide_eq_false (by omega)
        have d4 : decide ((0 : Int) < (j : Int)) = false := decide_eq_false (by omega)
        subst hA
        clear h0 hat hbr hg
        go_upto_region 9 with (first | go_in)
        have hS := (Below.refl wr.heap.size wr).drew
        (refine wp_region_lines (Below wr.heap.size wr) (by kernel_rfl) (by kernel_rfl) ((Below.refl wr.heap.size wr).drew) ?_)
        (try simp only [])
        repeat (first | (refine runL_no (by rfl) ?_; (try simp only [Act.put, List.setIfInBounds_toArray, List.set_cons_zero, List.set_cons_succ])) | (refine runL_val (v := ?_) (by rfl) ?_ ?_; rotate_left; (focus (intro w_ hw_; obtain ⟨f0_, f1_, f2_⟩ := HFC.out w_ hw_; go_simp; (try with_reducible rfl); done)); (try simp only [Act.put, List.setIfInBounds_toArray, List.set_cons_zero, List.set_cons_succ])) | (refine runL_call (f := ?_) (args := ?_) (w1 := ?_) (by rfl) (by rfl) ?_ ?_; rotate_left 3; (focus (go_simp; refine ⟨⟨?_, ?_⟩, ?_⟩ <;> with_reducible rfl)); (first | with_reducible refine (HK1.out _ hS).mono ?_ | with_reducible refine (HK2.out _ hS).mono ?_); rintro e_ w8 ⟨rfl, hb8⟩; replace hS := hS.trans (hb8.mono hS.size); clear hb8; refine ⟨_, rfl, .inr hS, ?_⟩; (try simp only [Act.put, List.setIfInBounds_toArray, List.set_cons_zero, List.set_cons_succ])))
        (refine runL_nil ?_)
        have HS8 := Lib.hid hS
        clear hS
        go_wp2
        go_roundw
        case rel => exact ⟨j + 1, hlt, by go_num, HBR.out.trans (HS8.out.mono HBR.out.size)⟩
        case measure => simp [intOf]; omega
      · obtain ⟨i, hi⟩ : ∃ i, j = i + 1 := ⟨j - 1, by omega⟩
        have d3 : decide (0 < j) = true := decide_eq_true (by omega)
        have d4 : decide ((0 : Int) < (j : Int)) = true := decide_eq_true (by omega)
        obtain ⟨y, hy⟩ : ∃ v, a[i]? = some v := ⟨_, List.getElem?_eq_getElem (by have := HN5.out; omega)⟩
        obtain ⟨g', off', hA', hg', z0, z1, z2⟩ := FactsAt.at_ hat hy
        have hAe := hA.symm.trans hA'
        simp only [Option.some.injEq, Addr.mk.injEq, and_true] at hAe
        obtain ⟨e1, e2⟩ := hAe
        subst e1; subst e2
        have HFD := Lib.hid (show ∀ w_, Below wr.heap.size wr w_ → w_.cell? ⟨g, off + i * 3, none⟩ = some (.int .i64 y.kind) ∧ w_.cell? ⟨g, off + i * 3 + 1, none⟩ = some (.int .i64 y.a) ∧ w_.cell? ⟨g, off + i * 3 + 2, none⟩ = some (.int .i64 y.b) from fun w_ h => ⟨(h.cell (p := ⟨g, off + i * 3, none⟩) hg).trans z0, (h.cell (p := ⟨g, off + i * 3 + 1, none⟩) hg).trans z1, (h.cell (p := ⟨g, off + i * 3 + 2, none⟩) hg).trans z2⟩)
        have hqe := fun w_ => eq_fact x y w_
        rw [show (x == y) = false from beq_eq_false_iff_ne.2 (ord_ne HORD.out hy (hi ▸ HX.out))] at hqe
        have i9 : IntKind.i64.wrap ((j : Int) - 1) = (i : Int) := by rw [IntKind.wrap_i64]; omega
        have i7 : (0 : Int) ≤ (i : Int) := by omega
        have i8 : (i : Int) < (n5 : Int) := by omega
        have i6 : IntKind.i64.wrap (i : Int) = i := by rw [IntKind.wrap_i64]; omega
        have HI := Lib.hid hi
        subst hA
        clear h0 hat hbr hg hg' hA' hy z0 z1 z2 hi
        go_upto_region 9 with (first | go_in)
        have hS := (Below.refl wr.heap.size wr).drew
        (refine wp_region_lines (Below wr.heap.size wr) (by kernel_rfl) (by kernel_rfl) ((Below.refl wr.heap.size wr).drew) ?_)
        (try simp only [])
        repeat (first | (refine runL_no (by rfl) ?_; (try simp only [Act.put, List.setIfInBounds_toArray, List.set_cons_zero, List.set_cons_succ])) | (refine runL_val (v := ?_) (by rfl) ?_ ?_; rotate_left; (focus (intro w_ hw_; obtain ⟨f0_, f1_, f2_⟩ := HFC.out w_ hw_; obtain ⟨f3_, f4_, f5_⟩ := HFD.out w_ hw_; have f6_ := hqe w_; go_simp; (try with_reducible rfl); done)); (try simp only [Act.put, List.setIfInBounds_toArray, List.set_cons_zero, List.set_cons_succ])) | (refine runL_call (f := ?_) (args := ?_) (w1 := ?_) (by rfl) (by rfl) ?_ ?_; rotate_left 3; (focus (go_simp; refine ⟨⟨?_, ?_⟩, ?_⟩ <;> with_reducible rfl)); (first | with_reducible refine (HK1.out _ hS).mono ?_ | with_reducible refine (HK2.out _ hS).mono ?_); rintro e_ w8 ⟨rfl, hb8⟩; replace hS := hS.trans (hb8.mono hS.size); clear hb8; refine ⟨_, rfl, .inr hS, ?_⟩; (try simp only [Act.put, List.setIfInBounds_toArray, List.set_cons_zero, List.set_cons_succ])))
        (refine runL_nil ?_)
        have HS8 := Lib.hid hS
        clear hS hqe
        go_wp2
        go_roundw
        case rel => exact ⟨j + 1, hlt, by go_num, HBR.out.trans (HS8.out.mono HBR.out.size)⟩
        case measure => simp [intOf]; omega
    · have d1 : decide (j < n5) = false := decide_eq_false hlt
      have HB8 := Lib.hid (HS.out.trans (hbr.mono HS.out.size))
      clear hbr
      go_upto_region 12 with (first | ((with_reducible refine (HCO.out _ HB8.out).mono ?_); rintro e w8 ⟨A8, n8, c8, rfl, hf8, hb8⟩; have HF8 := Lib.hid hf8; have HB9 := Lib.hid (HB8.out.trans (hb8.mono HB8.out.size)); clear hf8 hb8) | go_in)
      have n8a := (rows_len HF8.out).1
      have HN8 := Lib.hid n8a
      have hn8 : n8 ≤ 90000 := by have := HCL.out; omega
      clear n8a HBR HFA HF7
      go_wp2
      go_loopw [8, 13] (fun _ s13 wr => ∃ j : Nat, j ≤ n8 ∧ s13 = .int .i64 (j : Nat) ∧ Below w8.heap.size w8 wr) (fun _ s13 _ => n8 - (intOf s13).toNat)
      case atStart => exact ⟨0, Nat.zero_le _, rfl, Below.refl _ _⟩
      case round =>
        obtain ⟨i, hi, rfl, hbr⟩ := hrel
        have HBR := Lib.hid hbr
        by_cases hlt2 : i < n8
        · have d2 : decide (i < n8) = true := decide_eq_true hlt2
          obtain ⟨x, hx⟩ : ∃ v, c[i]? = some v := ⟨_, List.getElem?_eq_getElem (by have := HN8.out; omega)⟩
          have hxc := HCM.out x (List.mem_of_getElem? hx)
          have hup := HB9.out.trans (hbr.mono HB9.out.size)
          have HK1 := Lib.hid (fun (w_ : World) (h : Below wr.heap.size wr w_) => Knows_any (.slice Al nl cl) x l w_ _ (rows_next HLW.out (hup.trans (h.mono hup.size))) (fun k hk => hk) (by have := HSZ.out; have := HN.out; omega))
          have HK2 := Lib.hid (fun (w_ : World) (h : Below wr.heap.size wr w_) => Knows_any (.slice Am nm cm) x m w_ _ (rows_next HMW.out (hup.trans (h.mono hup.size))) (fun k hk => hk) (by have := HSZ.out; have := HN.out; omega))
          rw [knowsF_mem hxc.1] at HK1
          rw [knowsF_mem hxc.2] at HK2
          obtain ⟨g, off, rfl, hg, z0, z1, z2⟩ := FactsAt.at_ (rows_next HF8.out hbr) hx
          have HFC := Lib.hid (show ∀ w_, Below wr.heap.size wr w_ → w_.cell? ⟨g, off + i * 3, none⟩ = some (.int .i64 x.kind) ∧ w_.cell? ⟨g, off + i * 3 + 1, none⟩ = some (.int .i64 x.a) ∧ w_.cell? ⟨g, off + i * 3 + 2, none⟩ = some (.int .i64 x.b) from fun w_ h => ⟨(h.cell (p := ⟨g, off + i * 3, none⟩) hg).trans z0, (h.cell (p := ⟨g, off + i * 3 + 1, none⟩) hg).trans z1, (h.cell (p := ⟨g, off + i * 3 + 2, none⟩) hg).trans z2⟩)
          have i0 : (0 : Int) ≤ (i : Int) := by omega
          have i1 : (i : Int) < (n8 : Int) := by omega
          have i2 : IntKind.i64.wrap (i : Int) = i := by rw [IntKind.wrap_i64]; omega
          clear hx hxc hup hg hbr
          go_wp2_with (first | ((with_reducible refine (HK1.out _ (Below.refl _ _)).mono ?_); rintro e_ w10 ⟨rfl, hb10⟩; have HB10 := Lib.hid hb10; obtain ⟨z0, z1, z2⟩ := HFC.out _ hb10; clear hb10) | ((with_reducible refine (HK2.out _ HB10.out).mono ?_); rintro e_ w11 ⟨rfl, hb11⟩; have HB11 := Lib.hid (HB10.out.trans (hb11.mono HB10.out.size)); clear hb11) | go_in)
          go_roundw
          case rel => exact ⟨i + 1, hlt2, by go_num, HBR.out.trans (HB11.out.mono HBR.out.size)⟩
          case measure => simp [intOf]; omega
        · have d2 : decide (i < n8) = false := decide_eq_false hlt2
          clear hbr
          go_wp2
          go_ret
          exact ⟨rfl, HB.out.trans ((HB9.out.trans (HBR.out.mono HB9.out.size)).mono HB.out.size)⟩
end Go.Proofs.YtjbabpnepjhllaaGreat

/- law21: DutiesLoops, the walk. NOT CLEAN YET (under way). -/
namespace Go.Proofs.YtjbabpnepjhllaaGreat
open Go.RowKit

set_option maxRecDepth 100000 in
set_option maxHeartbeats 20000000 in
/-- DutiesLoops. -/
theorem loops_any (Av Ao Ar : Option Addr) (nv cv no co nr cr : Nat) (k : Krn) (which : Int) (w : World) (hk : KernAt w (fun q => q < w.heap.size) [.slice Av nv cv, .slice Ao no co, .slice Ar nr cr] k) :
    Calls Tryz.prog 5 #[.agg #[.slice Av nv cv, .slice Ao no co, .slice Ar nr cr], .int .i64 which] w fun e w' => e = .returned (.bool true) ∧ Below w.heap.size w w' := by
  obtain ⟨W, hW⟩ : ∃ W, W = w.alloc (.cells #[.slice Av nv cv, .slice Ao no co, .slice Ar nr cr] 25) := ⟨_, rfl⟩
  have hb : Below w.heap.size w W := by rw [hW]; exact (Below.refl _ _).alloc (Nat.le_refl _) _
  have hbox : W.heap[w.heap.size]? = some (.cells #[.slice Av nv cv, .slice Ao no co, .slice Ar nr cr] 25 (0, 0)) := by rw [hW]; exact heap_alloc_new w _
  have hk2 : KernAt W (fun k => k < W.heap.size) [.slice Av nv cv, .slice Ao no co, .slice Ar nr cr] k := (hk.keep (SameOn.of_below hb fun q hq => hq)).mono fun j hj => by have := hb.size; omega
  have hkb := kbox_of hbox hk2
  have HW := Lib.hid hW
  have HB := Lib.hid hb
  have HK := Lib.hid hkb
  have HKW := Lib.hid hk2
  have HLV := Lib.hid (lives_any W)
  have HLK := Lib.hid (fun (w1 : World) (h1 : Below W.heap.size W w1) => light_any Av Ao Ar nv cv no co nr cr k w1 _ (kern_next hk2 h1) (fun k hk => hk))
  have c0 := hkb.c0
  have c1 := hkb.c1
  have c2 := hkb.c2
  have hno := hkb.nv.2.1
  cases hL : lightK k
  · rw [hL] at HLK
    clear hW hb hbox hk2 hkb hk hL c0 c1 c2 hno
    go_enter Tryz.func5, Tryz.ntmps5
    go_upto_region 1 with (first | go_in)
    rw [← HW.out]
    clear HW
    go_upto_region 3 with (first | ((with_reducible refine HLV.out.mono ?_); rintro e w1 ⟨rfl, hb1⟩; have HB1 := Lib.hid hb1; clear hb1) | go_in)
    have c0 := (HK.out.next HB1.out).c0
    have c1 := (HK.out.next HB1.out).c1
    have c2 := (HK.out.next HB1.out).c2
    go_wp2_with (first | ((with_reducible refine (HLK.out _ HB1.out).mono ?_); rintro e w2 ⟨rfl, hb2⟩; have HB2 := Lib.hid (HB1.out.trans (hb2.mono HB1.out.size)); clear c0 c1 c2; have c0 := (HK.out.next HB2.out).c0; have c1 := (HK.out.next HB2.out).c1; have c2 := (HK.out.next HB2.out).c2; clear hb2) | go_in)
    go_ret
    exact ⟨rfl, HB.out.trans (HB2.out.mono HB.out.size)⟩
  rw [hL] at HLK
  obtain ⟨hv16, ho40, _⟩ := light_parts hL
  have HCK := Lib.hid (fun (w1 : World) (h1 : Below W.heap.size W w1) => rcheck_any Av Ao Ar nv cv no co nr cr k w1 _ (kern_next hk2 h1) (fun k hk => hk) (by omega))
  cases hc : checkK k
  · rw [show errK k = 2 by unfold errK; rw [hc]; rfl] at HCK
    clear hW hb hbox hk2 hkb hk hL c0 c1 c2 hno hc hv16 ho40
    go_enter Tryz.func5, Tryz.ntmps5
    go_upto_region 1 with (first | go_in)
    rw [← HW.out]
    clear HW
    go_upto_region 3 with (first | ((with_reducible refine HLV.out.mono ?_); rintro e w1 ⟨rfl, hb1⟩; have HB1 := Lib.hid hb1; clear hb1) | go_in)
    have c0 := (HK.out.next HB1.out).c0
    have c1 := (HK.out.next HB1.out).c1
    have c2 := (HK.out.next HB1.out).c2
    go_wp2_with (first | ((with_reducible refine (HLK.out _ HB1.out).mono ?_); rintro e w2 ⟨rfl, hb2⟩; have HB2 := Lib.hid (HB1.out.trans (hb2.mono HB1.out.size)); clear c0 c1 c2; have c0 := (HK.out.next HB2.out).c0; have c1 := (HK.out.next HB2.out).c1; have c2 := (HK.out.next HB2.out).c2; clear hb2) | ((with_reducible refine (HCK.out _ HB2.out).mono ?_); rintro e w3 ⟨rfl, hb3⟩; have HB3 := Lib.hid (HB2.out.trans (hb3.mono HB2.out.size)); clear c0 c1 c2; have c0 := (HK.out.next HB3.out).c0; have c1 := (HK.out.next HB3.out).c1; have c2 := (HK.out.next HB3.out).c2; clear hb3) | go_in)
    go_ret
    exact ⟨rfl, HB.out.trans (HB3.out.mono HB.out.size)⟩
  rw [show errK k = 0 by unfold errK; rw [hc]; rfl] at HCK
  by_cases h0 : no = 0
  · have d0 : ((no : Int) == 0) = true := by rw [beq_iff_eq]; omega
    clear hW hb hbox hk2 hkb hk hL c0 c1 c2 hno hc hv16 ho40 h0
    go_enter Tryz.func5, Tryz.ntmps5
    go_upto_region 1 with (first | go_in)
    rw [← HW.out]
    clear HW
    go_upto_region 3 with (first | ((with_reducible refine HLV.out.mono ?_); rintro e w1 ⟨rfl, hb1⟩; have HB1 := Lib.hid hb1; clear hb1) | go_in)
    have c0 := (HK.out.next HB1.out).c0
    have c1 := (HK.out.next HB1.out).c1
    have c2 := (HK.out.next HB1.out).c2
    go_wp2_with (first | ((with_reducible refine (HLK.out _ HB1.out).mono ?_); rintro e w2 ⟨rfl, hb2⟩; have HB2 := Lib.hid (HB1.out.trans (hb2.mono HB1.out.size)); clear c0 c1 c2; have c0 := (HK.out.next HB2.out).c0; have c1 := (HK.out.next HB2.out).c1; have c2 := (HK.out.next HB2.out).c2; clear hb2) | ((with_reducible refine (HCK.out _ HB2.out).mono ?_); rintro e w3 ⟨rfl, hb3⟩; have HB3 := Lib.hid (HB2.out.trans (hb3.mono HB2.out.size)); clear c0 c1 c2; have c0 := (HK.out.next HB3.out).c0; have c1 := (HK.out.next HB3.out).c1; have c2 := (HK.out.next HB3.out).c2; clear hb3) | go_in)
    go_ret
    exact ⟨rfl, HB.out.trans (HB3.out.mono HB.out.size)⟩
  have d0 : ((no : Int) == 0) = false := beq_eq_false_iff_ne.2 (by omega)
  have HAH := Lib.hid (fun (w1 : World) (h1 : Below W.heap.size W w1) => Ahead_any Av Ao Ar nv cv no co nr cr k (aheadF k) w1 _ (kern_next hk2 h1) (fun k hk => hk) (by omega) (aheadF_is k))
  have HEN := Lib.hid (fun (w1 : World) (h1 : Below W.heap.size W w1) => rends_any Av Ao Ar nv cv no co nr cr k w1 _ (kern_next hk2 h1) (fun k hk => hk) (by omega) hc)
  have HC := Lib.hid hc
  have HNO := Lib.hid (And.intro hno (And.intro ho40 hv16))
  have hn0 : 1 ≤ no := by omega
  have hn40 : no ≤ 40 := by omega
  clear hW hb hbox hk2 hkb hk hL c0 c1 c2 hno hc hv16 ho40 h0
  go_enter Tryz.func5, Tryz.ntmps5
  go_upto_region 1 with (first | go_in)
  rw [← HW.out]
  clear HW
  go_upto_region 3 with (first | ((with_reducible refine HLV.out.mono ?_); rintro e w1 ⟨rfl, hb1⟩; have HB1 := Lib.hid hb1; clear hb1) | go_in)
  have c0 := (HK.out.next HB1.out).c0
  have c1 := (HK.out.next HB1.out).c1
  have c2 := (HK.out.next HB1.out).c2
  go_upto_region 5 with (first | ((with_reducible refine (HLK.out _ HB1.out).mono ?_); rintro e w2 ⟨rfl, hb2⟩; have HB2 := Lib.hid (HB1.out.trans (hb2.mono HB1.out.size)); clear c0 c1 c2; have c0 := (HK.out.next HB2.out).c0; have c1 := (HK.out.next HB2.out).c1; have c2 := (HK.out.next HB2.out).c2; clear hb2) | ((with_reducible refine (HCK.out _ HB2.out).mono ?_); rintro e w3 ⟨rfl, hb3⟩; have HB3 := Lib.hid (HB2.out.trans (hb3.mono HB2.out.size)); clear c0 c1 c2; have c0 := (HK.out.next HB3.out).c0; have c1 := (HK.out.next HB3.out).c1; have c2 := (HK.out.next HB3.out).c2; clear hb3) | go_in)
  clear c0 c1 c2 HLV HLK HCK
  have HKB := Lib.hid (show ∀ w_, Below w3.heap.size w3 w_ → w_.cell? ⟨w.heap.size, 0, none⟩ = some (.slice Av nv cv) ∧ w_.cell? ⟨w.heap.size, 1, none⟩ = some (.slice Ao no co) ∧ w_.cell? ⟨w.heap.size, 2, none⟩ = some (.slice Ar nr cr) from fun w_ h_ => by
    have h := HK.out.next (HB3.out.trans (h_.mono HB3.out.size))
    exact ⟨h.c0, h.c1, h.c2⟩)
  have hS := (Below.refl w3.heap.size w3).drew
  have up : ∀ {w_}, Below w3.heap.size w3 w_ → Below W.heap.size W w_ := fun h => HB3.out.trans (h.mono HB3.out.size)
  (refine wp_region_lines (Below w3.heap.size w3) (by kernel_rfl) (by kernel_rfl) ((Below.refl w3.heap.size w3).drew) ?_)
  (try simp only [])
  repeat (first | (refine runL_no (by rfl) ?_; (try simp only [Act.put, List.setIfInBounds_toArray, List.set_cons_zero, List.set_cons_succ])) | (refine runL_val (v := ?_) (by rfl) ?_ ?_; rotate_left; (focus (intro w_ hw_; have f0_ := (HKB.out w_ hw_).1; have f1_ := (HKB.out w_ hw_).2.1; have f2_ := (HKB.out w_ hw_).2.2; go_simp; (try with_reducible rfl); done)); (try simp only [Act.put, List.setIfInBounds_toArray, List.set_cons_zero, List.set_cons_succ])) | (refine runL_call (f := ?_) (args := ?_) (w1 := ?_) (by rfl) (by rfl) ?_ ?_; rotate_left 3; (focus (go_simp; refine ⟨⟨?_, ?_⟩, ?_⟩ <;> with_reducible rfl)); (with_reducible refine (HAH.out _ (up hS)).mono ?_); rintro e_ w4 ⟨Ag, n4, c4, rfl, hr4, hb4⟩; have HR4 := Lib.hid hr4; replace hS := hS.trans (hb4.mono hS.size); clear hr4 hb4; refine ⟨_, rfl, .inr hS, ?_⟩; (try simp only [Act.put, List.setIfInBounds_toArray, List.set_cons_zero, List.set_cons_succ])) | (refine runL_call (f := ?_) (args := ?_) (w1 := ?_) (by rfl) (by rfl) ?_ ?_; rotate_left 3; (focus (go_simp; refine ⟨⟨?_, ?_⟩, ?_⟩ <;> with_reducible rfl)); (with_reducible refine (HEN.out w4 (up hS)).mono ?_); rintro e_ w5 ⟨Ae, n5, c5, rfl, hn5, hb5⟩; have HN5 := Lib.hid hn5; have HB5 := Lib.hid hb5; replace hS := hS.trans (hb5.mono hS.size); clear hn5 hb5; refine ⟨_, rfl, .inr hS, ?_⟩; (try simp only [Act.put, List.setIfInBounds_toArray, List.set_cons_zero, List.set_cons_succ])))
  (refine runL_nil ?_)
  have HS := Lib.hid (up hS)
  have HR := Lib.hid (HR4.out.next HB5.out)
  have han : n4 = no := by
    have h1 := HR4.out.len
    obtain ⟨l', hl, _⟩ := ahead_good HC.out (aheadF_is k)
    have := HNO.out.1
    omega
  have d6 : ((n4 : Int) != (no : Int)) = false := by rw [han]; simp
  have HPK := Lib.hid (fun w1 => Pick_any which no (by omega) (by omega) w1)
  obtain ⟨c0, c1, c2⟩ := HKB.out _ hS
  clear hS up HR4 HAH HEN
  go_upto_region 9 with (first | ((with_reducible refine (HPK.out _).mono ?_); rintro e_ w6 ⟨p, hp, rfl, hw_⟩; subst hw_) | go_in)
  obtain ⟨o, hx⟩ : ∃ v, k.ops[p]? = some v := ⟨_, List.getElem?_eq_getElem (by have := HNO.out.1; omega)⟩
  have HX := Lib.hid hx
  have hkr := HK.out.next HS.out
  obtain ⟨gg, off, hA, hgg, x0, x1, x2, x3, x4, x5, x6⟩ := hkr.ops.at_ hx
  subst hA
  have i0 : (0 : Int) ≤ (p : Int) := by omega
  have i1 : (p : Int) < (no : Int) := by omega
  have i2 : IntKind.i64.wrap (p : Int) = p := by rw [IntKind.wrap_i64]; omega
  obtain ⟨p1, hp1⟩ : ∃ q, q = p + 1 := ⟨_, rfl⟩
  have i3 : IntKind.i64.wrap ((p : Int) + 1) = (p1 : Int) := by rw [IntKind.wrap_i64]; omega
  have HP1 := Lib.hid hp1
  have HGG := Lib.hid hgg
  clear hx hkr hgg hp1
  by_cases h15 : o.kind = 15
  rotate_left
  · have e15 : (o.kind != 15) = true := by rw [bne_iff_ne]; exact h15
    by_cases h16 : o.kind = 16
    · have e16 : (o.kind != 16) = false := by rw [bne, beq_iff_eq.2 h16]; rfl
      clear h15 h16
      go_wp2
      go_ret
      exact ⟨rfl, HB.out.trans (HS.out.mono HB.out.size)⟩
    have e16 : (o.kind != 16) = true := by rw [bne_iff_ne]; exact h16
    by_cases hp1 : p1 < no
    rotate_left
    · have d7 : decide (p1 < no) = false := decide_eq_false hp1
      have d8 : decide ((p1 : Int) < (no : Int)) = false := decide_eq_false (by omega)
      clear h15 h16 hp1
      go_wp2
      go_ret
      exact ⟨rfl, HB.out.trans (HS.out.mono HB.out.size)⟩
    have d7 : decide (p1 < no) = true := decide_eq_true hp1
    have d8 : decide ((p1 : Int) < (no : Int)) = true := decide_eq_true (by omega)
    go_upto_region 11 with (first | go_in)
    have haw := ahead_well HC.out (aheadF_is k)
    obtain ⟨lp, hlp⟩ : ∃ l, (aheadF k)[p]? = some l := ⟨_, List.getElem?_eq_getElem (by have := HNO.out.1; omega)⟩
    obtain ⟨lq, hlq⟩ : ∃ l, (aheadF k)[p1]? = some l := ⟨_, List.getElem?_eq_getElem (by have := HNO.out.1; omega)⟩
    have hop := ahead_op HC.out (aheadF_is k) HX.out h15 h16 (by have := HNO.out.1; have := HP1.out; omega)
    rw [← HP1.out, List.getD_eq_getElem?_getD, List.getD_eq_getElem?_getD, hlp, hlq] at hop
    have HOP := Lib.hid (show lq = after_at k p lp from hop)
    obtain ⟨ga, hAg, hga, Al, nl, cl, y0, hfl⟩ := HR.out.row p lp hlp
    obtain ⟨ga', hAg', _, Al2, nl2, cl2, y1, hfl2⟩ := HR.out.row p1 lq hlq
    subst hAg
    cases hAg'
    have hkf : KFine k := kfine_of HC.out HKW.out.ops (by have := HNO.out; omega)
    have hsm := hkf.small (haw.1 lp (List.mem_of_getElem? hlp))
    have hsq := hkf.small (haw.1 lq (List.mem_of_getElem? hlq))
    have HAF := Lib.hid (fun (w1 : World) (h1 : Below W.heap.size W w1) (h2 : Below w5.heap.size w5 w1) => After_any Av (some ⟨gg, off, none⟩) Ar Al nv cv no co nr cr nl cl k p lp w1 _ (kern_next HKW.out h1) (fun k hk => hk) (by have := HNO.out; omega) (rows_next hfl h2) hsm.2 hsm.1)
    have HSM := Lib.hid (fun (w1 : World) (A : Option Addr) (n c : Nat) (h2 : Below w5.heap.size w5 w1) (h : FactsAt w1 (fun q => q < w1.heap.size) (.slice A n c) (after_at k p lp)) => by
      have := SameF_any Al2 A nl2 cl2 n c lq (after_at k p lp) w1 (rows_next hfl2 h2) h (by omega)
      rw [show (lq == after_at k p lp) = true from beq_iff_eq.2 HOP.out] at this
      exact this)
    have HRC := Lib.hid (show ∀ w_, Below w5.heap.size w5 w_ → w_.cell? ⟨ga, p, none⟩ = some (.slice Al nl cl) ∧ w_.cell? ⟨ga, p1, none⟩ = some (.slice Al2 nl2 cl2) ∧ w_.cell? ⟨w.heap.size, 0, none⟩ = some (.slice Av nv cv) ∧ w_.cell? ⟨w.heap.size, 1, none⟩ = some (.slice (some ⟨gg, off, none⟩) no co) ∧ w_.cell? ⟨w.heap.size, 2, none⟩ = some (.slice Ar nr cr) from fun w_ h => by
      have h3 := HK.out.next (HS.out.trans (h.mono HS.out.size))
      exact ⟨(h.cell (p := ⟨ga, p, none⟩) hga).trans y0, (h.cell (p := ⟨ga, p1, none⟩) hga).trans y1, h3.c0, h3.c1, h3.c2⟩)
    have i4 : (0 : Int) ≤ (p1 : Int) := by omega
    have i5 : (p1 : Int) < (n4 : Int) := by omega
    have i6 : (p : Int) < (n4 : Int) := by omega
    have i7 : IntKind.i64.wrap (p1 : Int) = p1 := by rw [IntKind.wrap_i64]; omega
    clear hlp hlq hop hfl hfl2 y0 y1 haw h15 h16 hkf hsm hsq hga
    have hS := (Below.refl w5.heap.size w5).drew
    have up : ∀ {w_}, Below w5.heap.size w5 w_ → Below W.heap.size W w_ := fun h => HS.out.trans (h.mono HS.out.size)
    (refine wp_region_lines (Below w5.heap.size w5) (by kernel_rfl) (by kernel_rfl) ((Below.refl w5.heap.size w5).drew) ?_)
    (try simp only [])
    repeat (first | (refine runL_no (by rfl) ?_; (try simp only [Act.put, List.setIfInBounds_toArray, List.set_cons_zero, List.set_cons_succ])) | (refine runL_val (v := ?_) (by rfl) ?_ ?_; rotate_left; (focus (intro w_ hw_; obtain ⟨f0_, f1_, f2_, f3_, f4_⟩ := HRC.out w_ hw_; go_simp; (try with_reducible rfl); done)); (try simp only [Act.put, List.setIfInBounds_toArray, List.set_cons_zero, List.set_cons_succ])) | (refine runL_call (f := ?_) (args := ?_) (w1 := ?_) (by rfl) (by rfl) ?_ ?_; rotate_left 3; (focus (go_simp; refine ⟨⟨?_, ?_⟩, ?_⟩ <;> with_reducible rfl)); (with_reducible refine (HAF.out _ (up hS) hS).mono ?_); rintro e_ w6 ⟨A6, n6, c6, rfl, hf6, hb6⟩; have HF6 := Lib.hid hf6; replace hS := hS.trans (hb6.mono hS.size); clear hf6 hb6; refine ⟨_, rfl, .inr hS, ?_⟩; (try simp only [Act.put, List.setIfInBounds_toArray, List.set_cons_zero, List.set_cons_succ])) | (refine runL_call (f := ?_) (args := ?_) (w1 := ?_) (by rfl) (by rfl) ?_ ?_; rotate_left 3; (focus (go_simp; refine ⟨⟨?_, ?_⟩, ?_⟩ <;> with_reducible rfl)); (with_reducible refine (HSM.out w6 A6 n6 c6 hS HF6.out).mono ?_); rintro e_ w7 ⟨rfl, hb7⟩; replace hS := hS.trans (hb7.mono hS.size); clear hb7; refine ⟨_, rfl, .inr hS, ?_⟩; (try simp only [Act.put, List.setIfInBounds_toArray, List.set_cons_zero, List.set_cons_succ])))
    (refine runL_nil ?_)
    have HS7 := Lib.hid (up hS)
    clear hS up HAF HSM HRC
    go_wp2
    go_ret
    exact ⟨rfl, HB.out.trans (HS7.out.mono HB.out.size)⟩
  have e15 : (o.kind != 15) = false := by rw [bne, beq_iff_eq.2 h15]; rfl
  obtain ⟨e, hen, hpe, heo, hall, hbe⟩ := ahead_loop HC.out (aheadF_is k) HX.out h15
  have haw := ahead_well HC.out (aheadF_is k)
  have hkf : KFine k := kfine_of HC.out HKW.out.ops (by have := HNO.out; omega)
  have hlk := HNO.out.1
  obtain ⟨lp, hlp⟩ : ∃ l, (aheadF k)[p]? = some l := ⟨_, List.getElem?_eq_getElem (by omega)⟩
  obtain ⟨lq, hlq⟩ : ∃ l, (aheadF k)[p1]? = some l := ⟨_, List.getElem?_eq_getElem (by have := HP1.out; omega)⟩
  obtain ⟨le, hle⟩ : ∃ l, (aheadF k)[e]? = some l := ⟨_, List.getElem?_eq_getElem (by omega)⟩
  rw [← HP1.out, List.getD_eq_getElem?_getD, List.getD_eq_getElem?_getD, List.getD_eq_getElem?_getD, hlp, hlq, hle] at hall
  have HALL := Lib.hid (show ∀ f ∈ lq, knowsF lp f = true ∧ knowsF le f = true from hall)
  obtain ⟨ga, hAg, hga, Al, nl, cl, y0, hfl⟩ := HR.out.row p lp hlp
  obtain ⟨ga', hAg', _, Al2, nl2, cl2, y1, hfl2⟩ := HR.out.row p1 lq hlq
  obtain ⟨ga'', hAg'', _, Al3, nl3, cl3, y2, hfl3⟩ := HR.out.row e le hle
  subst hAg
  cases hAg'
  cases hAg''
  obtain ⟨ge, oe, hAe, hge, y3⟩ := HN5.out.at_ hen
  subst hAe
  have hsm := hkf.small (haw.1 lp (List.mem_of_getElem? hlp))
  have hsq := hkf.small (haw.1 lq (List.mem_of_getElem? hlq))
  have hse := hkf.small (haw.1 le (List.mem_of_getElem? hle))
  have hnl2 := (rows_len hfl2).1
  have hne5 := (rows_len HN5.out).1
  have hkl : (kEnds k.ops).length = k.ops.length := by unfold kEnds; exact kTo_len _ _
  have HKN := Lib.hid (fun (x : Fct) (hx : x ∈ lq) (w1 : World) (h2 : Below w5.heap.size w5 w1) => by
    have := Knows_any (.slice Al nl cl) x lp w1 _ (rows_next hfl h2) (fun k hk => hk) (by omega)
    rw [(HALL.out x hx).1] at this
    exact this)
  have HKE := Lib.hid (fun (x : Fct) (hx : x ∈ lq) (w1 : World) (h2 : Below w5.heap.size w5 w1) => by
    have := Knows_any (.slice Al3 nl3 cl3) x le w1 _ (rows_next hfl3 h2) (fun k hk => hk) (by omega)
    rw [(HALL.out x hx).2] at this
    exact this)
  have HRC := Lib.hid (show ∀ w_, Below w5.heap.size w5 w_ → w_.cell? ⟨ga, p, none⟩ = some (.slice Al nl cl) ∧ w_.cell? ⟨ga, p1, none⟩ = some (.slice Al2 nl2 cl2) ∧ w_.cell? ⟨ga, e, none⟩ = some (.slice Al3 nl3 cl3) from fun w_ h => ⟨(h.cell (p := ⟨ga, p, none⟩) hga).trans y0, (h.cell (p := ⟨ga, p1, none⟩) hga).trans y1, (h.cell (p := ⟨ga, e, none⟩) hga).trans y2⟩)
  have HF2 := Lib.hid hfl2
  have HF3 := Lib.hid hfl3
  have HLE := Lib.hid hle
  have HEL := Lib.hid (And.intro hpe heo)
  have HBE := Lib.hid hbe
  have HN2 := Lib.hid hnl2
  have i4 : (0 : Int) ≤ (p1 : Int) := by omega
  have i5 : (p1 : Int) < (n4 : Int) := by have := HP1.out; omega
  have i6 : (p : Int) < (n4 : Int) := by omega
  have i7 : IntKind.i64.wrap (p1 : Int) = p1 := by rw [IntKind.wrap_i64]; omega
  have i8 : (p : Int) < (n5 : Int) := by omega
  have i9 : (0 : Int) ≤ (e : Int) := by omega
  have i10 : (e : Int) < (n4 : Int) := by omega
  have i11 : IntKind.i64.wrap (e : Int) = e := by rw [IntKind.wrap_i64]; omega
  have i17 : (e : Int) < (no : Int) := by omega
  have i18 : (p1 : Int) < (no : Int) := by omega
  have hn2 : nl2 ≤ 40000 := by omega
  have HSQ := Lib.hid (show (∀ l, (aheadF k)[e + 1]? = some l → l.length ≤ 40000) from fun l hl => (hkf.small (haw.1 l (List.mem_of_getElem? hl))).1)
  clear hlk hle hlp hlq hall hbe hfl hfl2 hfl3 y0 haw h15 hkf hsm hsq hse hge hga hnl2 hne5 hkl hpe hen
  clear y2
  go_wp2
  clear y1 y3
  go_loopw [4, 10] (fun _ s10 wr => ∃ j : Nat, j ≤ nl2 ∧ s10 = .int .i64 (j : Nat) ∧ Below w5.heap.size w5 wr) (fun _ s10 _ => nl2 - (intOf s10).toNat)
  case atStart => exact ⟨0, Nat.zero_le _, rfl, Below.refl _ _⟩
  case round =>
    obtain ⟨j, hj, rfl, hbr⟩ := hrel
    have HBR := Lib.hid hbr
    by_cases hlt : j < nl2
    · have d1 : decide (j < nl2) = true := decide_eq_true hlt
      obtain ⟨x, hx⟩ : ∃ v, lq[j]? = some v := ⟨_, List.getElem?_eq_getElem (by have := HN2.out; omega)⟩
      have HXM := Lib.hid (List.mem_of_getElem? hx)
      obtain ⟨g, o2, hA, hg, z0, z1, z2⟩ := FactsAt.at_ (rows_next HF2.out hbr) hx
      have HFC := Lib.hid (show ∀ w_, Below wr.heap.size wr w_ → w_.cell? ⟨g, o2 + j * 3, none⟩ = some (.int .i64 x.kind) ∧ w_.cell? ⟨g, o2 + j * 3 + 1, none⟩ = some (.int .i64 x.a) ∧ w_.cell? ⟨g, o2 + j * 3 + 2, none⟩ = some (.int .i64 x.b) from fun w_ h => ⟨(h.cell (p := ⟨g, o2 + j * 3, none⟩) hg).trans z0, (h.cell (p := ⟨g, o2 + j * 3 + 1, none⟩) hg).trans z1, (h.cell (p := ⟨g, o2 + j * 3 + 2, none⟩) hg).trans z2⟩)
      have j0 : (0 : Int) ≤ (j : Int) := by omega
      have j1 : (j : Int) < (nl2 : Int) := by omega
      have j2 : IntKind.i64.wrap (j : Int) = j := by rw [IntKind.wrap_i64]; omega
      subst hA
      clear hx z0 z1 z2 hbr hg
      go_upto_region 18 with (first | go_in)
      have hS := (Below.refl wr.heap.size wr).drew
      have up : ∀ {w_}, Below wr.heap.size wr w_ → Below w5.heap.size w5 w_ := fun h => HBR.out.trans (h.mono HBR.out.size)
      (refine wp_region_lines (Below wr.heap.size wr) (by kernel_rfl) (by kernel_rfl) ((Below.refl wr.heap.size wr).drew) ?_)
      (try simp only [])
      repeat (first | (refine runL_no (by rfl) ?_; (try simp only [Act.put, List.setIfInBounds_toArray, List.set_cons_zero, List.set_cons_succ])) | (refine runL_val (v := ?_) (by rfl) ?_ ?_; rotate_left; (focus (intro w_ hw_; obtain ⟨f0_, f1_, f2_⟩ := HFC.out w_ hw_; obtain ⟨f3_, f4_, f5_⟩ := HRC.out w_ (up hw_); go_simp; (try with_reducible rfl); done)); (try simp only [Act.put, List.setIfInBounds_toArray, List.set_cons_zero, List.set_cons_succ])) | (refine runL_call (f := ?_) (args := ?_) (w1 := ?_) (by rfl) (by rfl) ?_ ?_; rotate_left 3; (focus (go_simp; refine ⟨⟨?_, ?_⟩, ?_⟩ <;> with_reducible rfl)); (first | with_reducible refine (HKN.out x HXM.out _ (up hS)).mono ?_ | with_reducible refine (HKE.out x HXM.out _ (up hS)).mono ?_); rintro e_ w8 ⟨rfl, hb8⟩; replace hS := hS.trans (hb8.mono hS.size); clear hb8; refine ⟨_, rfl, .inr hS, ?_⟩; (try simp only [Act.put, List.setIfInBounds_toArray, List.set_cons_zero, List.set_cons_succ])))
      (refine runL_nil ?_)
      have HS8 := Lib.hid hS
      clear hS up
      go_wp2
      go_roundw
      case rel => exact ⟨j + 1, hlt, by go_num, HBR.out.trans (HS8.out.mono HBR.out.size)⟩
      case measure => simp [intOf]; omega
    · have d1 : decide (j < nl2) = false := decide_eq_false hlt
      clear hbr
      obtain ⟨e1, he1⟩ : ∃ q, q = e + 1 := ⟨_, rfl⟩
      have i12 : IntKind.i64.wrap ((e : Int) + 1) = (e1 : Int) := by rw [IntKind.wrap_i64]; omega
      have HKC := Lib.hid (show ∀ w_, Below wr.heap.size wr w_ → w_.cell? ⟨w.heap.size, 1, none⟩ = some (.slice (some ⟨gg, off, none⟩) no co) from fun w_ h => (HK.out.next (HS.out.trans ((HBR.out.trans (h.mono HBR.out.size)).mono HS.out.size))).c1)
      have HE1 := Lib.hid he1
      by_cases hee : e1 < no
      rotate_left
      · have d9 : decide (no ≤ e1) = true := decide_eq_true (by omega)
        have d10 : decide ((no : Int) ≤ (e1 : Int)) = true := decide_eq_true (by omega)
        have d11 : decide ((e1 : Int) ≥ (no : Int)) = true := decide_eq_true (by omega)
        clear hee he1
        go_upto_region 20 with (first | go_in)
        have hS := (Below.refl wr.heap.size wr).drew
        (refine wp_region_lines (Below wr.heap.size wr) (by kernel_rfl) (by kernel_rfl) ((Below.refl wr.heap.size wr).drew) ?_)
        (try simp only [])
        repeat (first | (refine runL_no (by rfl) ?_; (try simp only [Act.put, List.setIfInBounds_toArray, List.set_cons_zero, List.set_cons_succ])) | (refine runL_val (v := ?_) (by rfl) ?_ ?_; rotate_left; (focus (intro w_ hw_; have f0_ := HKC.out w_ hw_; go_simp; (try with_reducible rfl); done)); (try simp only [Act.put, List.setIfInBounds_toArray, List.set_cons_zero, List.set_cons_succ])))
        (refine runL_nil ?_)
        have HS8 := Lib.hid hS
        clear hS
        go_wp2
        go_ret
        exact ⟨rfl, HB.out.trans ((HS.out.trans ((HBR.out.trans (HS8.out.mono HBR.out.size)).mono HS.out.size)).mono HB.out.size)⟩
      have d9 : decide (no ≤ e1) = false := decide_eq_false (by omega)
      have d10 : decide ((no : Int) ≤ (e1 : Int)) = false := decide_eq_false (by omega)
      have d11 : decide ((e1 : Int) ≥ (no : Int)) = false := decide_eq_false (by omega)
      obtain ⟨o1, ho1⟩ : ∃ v, k.ops[e1]? = some v := ⟨_, List.getElem?_eq_getElem (by have := HNO.out.1; omega)⟩
      have HKD := Lib.hid (show ∀ w_, Below wr.heap.size wr w_ → w_.cell? ⟨gg, off + e1 * 7, none⟩ = some (.int .i64 o1.kind) from fun w_ h => by
        obtain ⟨g', off', hA', _, z0, _⟩ := (HK.out.next (HS.out.trans ((HBR.out.trans (h.mono HBR.out.size)).mono HS.out.size))).ops.at_ ho1
        simp only [Option.some.injEq, Addr.mk.injEq, and_true] at hA'
        obtain ⟨e1, e2⟩ := hA'
        subst e1; subst e2
        exact z0)
      have i13 : (0 : Int) ≤ (e1 : Int) := by omega
      have i14 : (e1 : Int) < (no : Int) := by omega
      have i15 : IntKind.i64.wrap (e1 : Int) = e1 := by rw [IntKind.wrap_i64]; omega
      have i16 : (e1 : Int) < (n4 : Int) := by omega
      by_cases h16 : o1.kind = 16
      · have e16 : (o1.kind == 16) = true := beq_iff_eq.2 h16
        clear hee he1 ho1 h16
        go_upto_region 20 with (first | go_in)
        have hS := (Below.refl wr.heap.size wr).drew
        (refine wp_region_lines (Below wr.heap.size wr) (by kernel_rfl) (by kernel_rfl) ((Below.refl wr.heap.size wr).drew) ?_)
        (try simp only [])
        repeat (first | (refine runL_no (by rfl) ?_; (try simp only [Act.put, List.setIfInBounds_toArray, List.set_cons_zero, List.set_cons_succ])) | (refine runL_val (v := ?_) (by rfl) ?_ ?_; rotate_left; (focus (intro w_ hw_; have f0_ := HKC.out w_ hw_; have f1_ := HKD.out w_ hw_; go_simp; (try with_reducible rfl); done)); (try simp only [Act.put, List.setIfInBounds_toArray, List.set_cons_zero, List.set_cons_succ])))
        (refine runL_nil ?_)
        have HS8 := Lib.hid hS
        clear hS
        go_wp2
        go_ret
        exact ⟨rfl, HB.out.trans ((HS.out.trans ((HBR.out.trans (HS8.out.mono HBR.out.size)).mono HS.out.size)).mono HB.out.size)⟩
      have e16 : (o1.kind == 16) = false := beq_eq_false_iff_ne.2 h16
      have hbe := HBE.out (by have := HNO.out.1; have := HE1.out; omega)
      obtain ⟨l1, hl1⟩ : ∃ l, (aheadF k)[e1]? = some l := ⟨_, List.getElem?_eq_getElem (by have := HR.out.len; omega)⟩
      rw [← HE1.out, List.getD_eq_getElem?_getD, List.getD_eq_getElem?_getD, hl1, HLE.out] at hbe
      have hbe2 : l1 = le := hbe
      obtain ⟨ga', hAg', hga', Al4, nl4, cl4, y4, hfl4⟩ := HR.out.row e1 l1 hl1
      cases hAg'
      have HSM := Lib.hid (fun (w1 : World) (h2 : Below w5.heap.size w5 w1) => by
        have := SameF_any Al4 Al3 nl4 cl4 nl3 cl3 l1 le w1 (rows_next hfl4 h2) (rows_next HF3.out h2) (by have := HSQ.out l1 (by rw [← HE1.out]; exact hl1); omega)
        rw [show (l1 == le) = true from beq_iff_eq.2 hbe2] at this
        exact this)
      have HRD := Lib.hid (show ∀ w_, Below w5.heap.size w5 w_ → w_.cell? ⟨ga, e1, none⟩ = some (.slice Al4 nl4 cl4) ∧ w_.cell? ⟨ga, e, none⟩ = some (.slice Al3 nl3 cl3) from fun w_ h => ⟨(h.cell (p := ⟨ga, e1, none⟩) hga').trans y4, (HRC.out w_ h).2.2⟩)
      clear hee he1 ho1 h16 hbe hbe2 hl1 y4 hfl4 hga'
      go_upto_region 20 with (first | go_in)
      have hS := (Below.refl wr.heap.size wr).drew
      have up : ∀ {w_}, Below wr.heap.size wr w_ → Below w5.heap.size w5 w_ := fun h => HBR.out.trans (h.mono HBR.out.size)
      (refine wp_region_lines (Below wr.heap.size wr) (by kernel_rfl) (by kernel_rfl) ((Below.refl wr.heap.size wr).drew) ?_)
      (try simp only [])
      repeat (first | (refine runL_no (by rfl) ?_; (try simp only [Act.put, List.setIfInBounds_toArray, List.set_cons_zero, List.set_cons_succ])) | (refine runL_val (v := ?_) (by rfl) ?_ ?_; rotate_left; (focus (intro w_ hw_; have f0_ := HKC.out w_ hw_; have f1_ := HKD.out w_ hw_; obtain ⟨f2_, f3_⟩ := HRD.out w_ (up hw_); go_simp; (try with_reducible rfl); done)); (try simp only [Act.put, List.setIfInBounds_toArray, List.set_cons_zero, List.set_cons_succ])) | (refine runL_call (f := ?_) (args := ?_) (w1 := ?_) (by rfl) (by rfl) ?_ ?_; rotate_left 3; (focus (go_simp; refine ⟨⟨?_, ?_⟩, ?_⟩ <;> with_reducible rfl)); (with_reducible refine (HSM.out _ (up hS)).mono ?_); rintro e_ w8 ⟨rfl, hb8⟩; replace hS := hS.trans (hb8.mono hS.size); clear hb8; refine ⟨_, rfl, .inr hS, ?_⟩; (try simp only [Act.put, List.setIfInBounds_toArray, List.set_cons_zero, List.set_cons_succ])))
      (refine runL_nil ?_)
      have HS8 := Lib.hid hS
      clear hS up
      go_wp2
      go_ret
      exact ⟨rfl, HB.out.trans ((HS.out.trans ((HBR.out.trans (HS8.out.mono HBR.out.size)).mono HS.out.size)).mono HB.out.size)⟩
end Go.Proofs.YtjbabpnepjhllaaGreat

/- Arguments of the types Kern, Fact, []Fact, opened. -/
namespace Go.Proofs.YtjbabpnepjhllaaGreat
open Go.ChangeShapes Go.WideShapes Go.Deep Go.RowKit

theorem list_of_all {α : Type} (Q : Nat → α → Prop) : ∀ n, (∀ i, i < n → ∃ x, Q i x) → ∃ L : List α, L.length = n ∧ ∀ (i : Nat) (x : α), L[i]? = some x → Q i x
  | 0, _ => ⟨[], rfl, fun i x h => by simp at h⟩
  | n + 1, h => by
    obtain ⟨L, hl, hq⟩ := list_of_all Q n (fun i hi => h i (by omega))
    obtain ⟨x, hx⟩ := h n (by omega)
    refine ⟨L ++ [x], by simp [hl], fun i y hy => ?_⟩
    rcases Nat.lt_or_ge i n with hi | hi
    · rw [List.getElem?_append_left (by omega)] at hy; exact hq i y hy
    · rw [List.getElem?_append_right (by omega)] at hy
      have : i - L.length = 0 := by
        rcases Nat.eq_zero_or_pos (i - L.length) with h | h
        · exact h
        · rw [List.getElem?_eq_none (by simp; omega)] at hy; cases hy
      rw [this] at hy
      simp at hy
      subst hy
      rw [show i = n from by omega]; exact hx

theorem plain_addr {w : World} {a : Addr} {k : Nat} {v : Value} (h : w.cell? (a.add k) = some v) (h0 : ∃ u, w.cell? a = some u) : a = ⟨a.block, a.off, none⟩ ∧ a.block < w.heap.size ∧ a.add k = ⟨a.block, a.off + k, none⟩ := by
  obtain ⟨u, hu⟩ := h0
  have hb := World.block_lt_of_cell? w a hu
  have hs : a.spot = none := by
    cases hsp : a.spot with
    | none => rfl
    | some s =>
      unfold World.cell? at hu
      split at hu
      · simp [hsp] at hu
      · cases hu
  have ha : a = ⟨a.block, a.off, none⟩ := by cases a; simp_all
  refine ⟨ha, hb, ?_⟩
  unfold Addr.add
  split
  · rename_i hk; subst hk; simpa using ha
  · rfl

section
variable {H : Type} {enc : TypeId × Value → H} {w : World}

theorem open_rows {α : Type} {T St sz : Nat} (row : α → List Value) (Q : α → Prop) (hT : Tryz.prog.underlying T = some (.slice St)) (hC : Tryz.prog.cellsOf St = sz) (h0 : 0 < sz) (hrow : ∀ x, (row x).length = sz)
    (each : ∀ fuel cs y, DataW.trod enc Tryz.prog w 0 (fun _ => true) true fuel St cs = some y → cs.length = sz → ∃ x, cs = row x ∧ Q x)
    {A : Option Addr} {n c : Nat} {d : DataW H} {ps : List MemPlace} (h : DataW.Trod enc Tryz.prog w 0 (fun _ => true) true T (.slice A n c) d ps) :
    ∃ l : List α, Rows w (fun k => k < w.heap.size) sz (.slice A n c) (l.map row) ∧ (∀ x ∈ l, Q x) ∧ l.length ≤ 9223372036854775807 := by
  obtain ⟨fuel, hf⟩ := h
  rcases open_slice hT hf with ⟨hcs, _⟩ | ⟨a, len, cap, m, q, D, Pl, hcs, _, hl, hm, hmm, _, hi⟩
  · simp [Value.cells] at hcs
    obtain ⟨rfl, rfl, rfl⟩ := hcs
    exact ⟨[], ⟨none, 0, rfl, by simp, by simp, fun h => absurd rfl h⟩, by simp, by simp⟩
  · simp [Value.cells] at hcs
    obtain ⟨rfl, rfl, rfl⟩ := hcs
    simp only [if_true] at hmm
    have ech : ∀ i, i < n → ∃ x : α, Q x ∧ ∀ (j : Nat) (u : Value), (row x)[j]? = some u → w.cell? (a.add (i * sz + j)) = some u := fun i hin => by
      obtain ⟨cs', hc, ht⟩ := hi i (by omega)
      rw [hC] at hc
      obtain ⟨_, hlen, hat⟩ := World.cells?_some hc
      obtain ⟨x, rfl, hq⟩ := each _ _ _ ht hlen
      refine ⟨x, hq, fun j u hu => ?_⟩
      have := hat j (by rw [← hlen]; exact (List.getElem?_eq_some_iff.1 hu).1)
      rw [← add_add, this, hu]
    obtain ⟨L, hL, hq⟩ := list_of_all _ n ech
    refine ⟨L, ⟨some a, c, by simp [hL], by simp [hL]; omega, fun r hr => by obtain ⟨x, _, rfl⟩ := List.mem_map.1 hr; exact hrow x, fun hne => ?_⟩, fun x hx => ?_, by rw [hL]; unfold maxLen at hm; omega⟩
    · have hpos : 0 < L.length := by
        cases L with
        | nil => simp at hne
        | cons => simp
      have hl0 := hrow L[0]
      obtain ⟨u0, hu0⟩ : ∃ u, (row L[0])[0]? = some u := by
        cases hx : row L[0] with
        | nil => rw [hx] at hl0; simp at hl0; omega
        | cons u us => exact ⟨u, rfl⟩
      have hp0 := (hq 0 L[0] (List.getElem?_eq_getElem hpos)).2 0 u0 hu0
      have h00 : ∃ u, w.cell? a = some u := ⟨_, by simpa [Addr.add] using hp0⟩
      obtain ⟨ha, hb, _⟩ := plain_addr hp0 h00
      refine ⟨a.block, a.off, by rw [← ha], hb, fun i j r u hr hu => ?_⟩
      rw [List.getElem?_map] at hr
      cases hpi : L[i]? with
      | none => rw [hpi] at hr; cases hr
      | some x =>
        rw [hpi] at hr
        cases hr
        have hc := (hq i x hpi).2 j u hu
        obtain ⟨_, _, hadd⟩ := plain_addr hc h00
        rw [hadd] at hc
        rw [show a.off + i * sz + j = a.off + (i * sz + j) from by omega]
        exact hc
    · obtain ⟨i, hi⟩ := List.mem_iff_getElem?.1 hx
      exact (hq i x hi).1

theorem trod_u64 {fuel : Nat} {cs : List Value} {y : DataW H × List MemPlace} (h : DataW.trod enc Tryz.prog w 0 (fun _ => true) true fuel 41 cs = some y) : ∃ n : Nat, cs = [.int .u64 n] ∧ n < 18446744073709551616 := by
  obtain ⟨z, hz, _, hwf⟩ := DataW.trod_int Tryz.underlying41 h
  have hzb : 0 ≤ z ∧ z ≤ 18446744073709551615 := by simpa [Lit.wf, IntKind.min, IntKind.max, IntKind.bits, IntKind.signed] using hwf
  exact ⟨z.toNat, by rw [hz]; congr 2; omega, by omega⟩
theorem trod_i64 {fuel : Nat} {cs : List Value} {y : DataW H × List MemPlace} (h : DataW.trod enc Tryz.prog w 0 (fun _ => true) true fuel 3 cs = some y) : ∃ z : Int, cs = [.int .i64 z] ∧ -9223372036854775808 ≤ z ∧ z ≤ 9223372036854775807 := by
  obtain ⟨z, hz, _, hwf⟩ := DataW.trod_int Tryz.underlying3 h
  have hzb : -9223372036854775808 ≤ z ∧ z ≤ 9223372036854775807 := by simpa [Lit.wf, IntKind.min, IntKind.max, IntKind.bits, IntKind.signed] using hwf
  exact ⟨z, hz, hzb⟩
end
section
variable {H : Type} {enc : TypeId × Value → H} {w : World}
theorem trod_bool1 {fuel : Nat} {cs : List Value} {y : DataW H × List MemPlace} (h : DataW.trod enc Tryz.prog w 0 (fun _ => true) true fuel 4 cs = some y) : ∃ b, cs = [.bool b] := by
  obtain ⟨b, hb, _⟩ := DataW.trod_bool Tryz.underlying4 h
  exact ⟨b, hb⟩
theorem trod_form {T St fuel : Nat} {c : Value} {y : DataW H × List MemPlace} (hT : Tryz.prog.underlying T = some (.slice St)) (h : DataW.trod enc Tryz.prog w 0 (fun _ => true) true fuel T [c] = some y) : ∃ A n k, c = .slice A n k := by
  rcases open_slice hT h with ⟨hcs, _⟩ | ⟨a, len, cap, m, q, D, Pl, hcs, _⟩
  · cases hcs; exact ⟨_, _, _, rfl⟩
  · cases hcs; exact ⟨_, _, _, rfl⟩
set_option maxRecDepth 100000 in
theorem open_kvar (fuel : Nat) (cs : List Value) (y : DataW H × List MemPlace) (h : DataW.trod enc Tryz.prog w 0 (fun _ => true) true fuel 60 cs = some y) (hl : cs.length = 3) : ∃ x : KVar, cs = kvarRow x ∧ (In64 x.limbs ∧ In64 x.mode) := by
  obtain ⟨xs, f, _, _, hlen, hxl, hfs⟩ := DataW.trod_struct Tryz.underlying60 h
  match cs, hl with
  | [c0, c1, c2], _ =>
    match xs, hxl with
    | [y0, y1, y2], _ =>
      have k_bool : Tryz.prog.cellsOf 4 = 1 := by kernel_rfl
      have k_int : Tryz.prog.cellsOf 3 = 1 := by kernel_rfl
      have t0 : DataW.trod enc Tryz.prog w 0 (fun _ => true) true f 3 (([c0, c1, c2].drop 0).take (Tryz.prog.cellsOf 3)) = some y0 := hfs 0 _ rfl
      have t1 : DataW.trod enc Tryz.prog w 0 (fun _ => true) true f 4 (([c0, c1, c2].drop 1).take (Tryz.prog.cellsOf 4)) = some y1 := hfs 1 _ rfl
      have t2 : DataW.trod enc Tryz.prog w 0 (fun _ => true) true f 3 (([c0, c1, c2].drop 2).take (Tryz.prog.cellsOf 3)) = some y2 := hfs 2 _ rfl
      rw [k_bool] at t1
      rw [k_int] at t0 t2
      simp only [List.drop_zero, List.drop_succ_cons, List.take_succ_cons, List.take_zero] at t0 t1 t2
      obtain ⟨a0, h0, b0⟩ := trod_i64 t0
      obtain ⟨a1, h1⟩ := trod_bool1 t1
      obtain ⟨a2, h2, b2⟩ := trod_i64 t2
      cases h0; cases h1; cases h2
      exact ⟨⟨a0, a1, a2⟩, rfl, ⟨b0, b2⟩⟩
set_option maxRecDepth 100000 in
theorem open_kop (fuel : Nat) (cs : List Value) (y : DataW H × List MemPlace) (h : DataW.trod enc Tryz.prog w 0 (fun _ => true) true fuel 43 cs = some y) (hl : cs.length = 7) : ∃ x : KOp, cs = kopRow x ∧ KOpOk x := by
  obtain ⟨xs, f, _, _, hlen, hxl, hfs⟩ := DataW.trod_struct Tryz.underlying43 h
  match cs, hl with
  | [c0, c1, c2, c3, c4, c5, c6], _ =>
    match xs, hxl with
    | [y0, y1, y2, y3, y4, y5, y6], _ =>
      have k_int : Tryz.prog.cellsOf 3 = 1 := by kernel_rfl
      have k_uint64 : Tryz.prog.cellsOf 41 = 1 := by kernel_rfl
      have t0 : DataW.trod enc Tryz.prog w 0 (fun _ => true) true f 3 (([c0, c1, c2, c3, c4, c5, c6].drop 0).take (Tryz.prog.cellsOf 3)) = some y0 := hfs 0 _ rfl
      have t1 : DataW.trod enc Tryz.prog w 0 (fun _ => true) true f 3 (([c0, c1, c2, c3, c4, c5, c6].drop 1).take (Tryz.prog.cellsOf 3)) = some y1 := hfs 1 _ rfl
      have t2 : DataW.trod enc Tryz.prog w 0 (fun _ => true) true f 3 (([c0, c1, c2, c3, c4, c5, c6].drop 2).take (Tryz.prog.cellsOf 3)) = some y2 := hfs 2 _ rfl
      have t3 : DataW.trod enc Tryz.prog w 0 (fun _ => true) true f 3 (([c0, c1, c2, c3, c4, c5, c6].drop 3).take (Tryz.prog.cellsOf 3)) = some y3 := hfs 3 _ rfl
      have t4 : DataW.trod enc Tryz.prog w 0 (fun _ => true) true f 3 (([c0, c1, c2, c3, c4, c5, c6].drop 4).take (Tryz.prog.cellsOf 3)) = some y4 := hfs 4 _ rfl
      have t5 : DataW.trod enc Tryz.prog w 0 (fun _ => true) true f 3 (([c0, c1, c2, c3, c4, c5, c6].drop 5).take (Tryz.prog.cellsOf 3)) = some y5 := hfs 5 _ rfl
      have t6 : DataW.trod enc Tryz.prog w 0 (fun _ => true) true f 41 (([c0, c1, c2, c3, c4, c5, c6].drop 6).take (Tryz.prog.cellsOf 41)) = some y6 := hfs 6 _ rfl
      rw [k_int] at t0 t1 t2 t3 t4 t5
      rw [k_uint64] at t6
      simp only [List.drop_zero, List.drop_succ_cons, List.take_succ_cons, List.take_zero] at t0 t1 t2 t3 t4 t5 t6
      obtain ⟨a0, h0, b0⟩ := trod_i64 t0
      obtain ⟨a1, h1, b1⟩ := trod_i64 t1
      obtain ⟨a2, h2, b2⟩ := trod_i64 t2
      obtain ⟨a3, h3, b3⟩ := trod_i64 t3
      obtain ⟨a4, h4, b4⟩ := trod_i64 t4
      obtain ⟨a5, h5, b5⟩ := trod_i64 t5
      obtain ⟨a6, h6, b6⟩ := trod_u64 t6
      cases h0; cases h1; cases h2; cases h3; cases h4; cases h5; cases h6
      exact ⟨⟨a0, a1, a2, a3, a4, a5, a6⟩, rfl, ⟨b0, b1, b2, b3, b4, b5, b6⟩⟩
set_option maxRecDepth 100000 in
theorem open_fct (fuel : Nat) (cs : List Value) (y : DataW H × List MemPlace) (h : DataW.trod enc Tryz.prog w 0 (fun _ => true) true fuel 45 cs = some y) (hl : cs.length = 3) : ∃ x : Fct, cs = factRow x ∧ FctOk x := by
  obtain ⟨xs, f, _, _, hlen, hxl, hfs⟩ := DataW.trod_struct Tryz.underlying45 h
  match cs, hl with
  | [c0, c1, c2], _ =>
    match xs, hxl with
    | [y0, y1, y2], _ =>
      have k_int : Tryz.prog.cellsOf 3 = 1 := by kernel_rfl
      have t0 : DataW.trod enc Tryz.prog w 0 (fun _ => true) true f 3 (([c0, c1, c2].drop 0).take (Tryz.prog.cellsOf 3)) = some y0 := hfs 0 _ rfl
      have t1 : DataW.trod enc Tryz.prog w 0 (fun _ => true) true f 3 (([c0, c1, c2].drop 1).take (Tryz.prog.cellsOf 3)) = some y1 := hfs 1 _ rfl
      have t2 : DataW.trod enc Tryz.prog w 0 (fun _ => true) true f 3 (([c0, c1, c2].drop 2).take (Tryz.prog.cellsOf 3)) = some y2 := hfs 2 _ rfl
      rw [k_int] at t0 t1 t2
      simp only [List.drop_zero, List.drop_succ_cons, List.take_succ_cons, List.take_zero] at t0 t1 t2
      obtain ⟨a0, h0, b0⟩ := trod_i64 t0
      obtain ⟨a1, h1, b1⟩ := trod_i64 t1
      obtain ⟨a2, h2, b2⟩ := trod_i64 t2
      cases h0; cases h1; cases h2
      exact ⟨⟨a0, a1, a2⟩, rfl, ⟨b0, b1, b2⟩⟩
theorem open_facts {A : Option Addr} {n c : Nat} {d : DataW H} {ps : List MemPlace} (h : DataW.Trod enc Tryz.prog w 0 (fun _ => true) true 39 (.slice A n c) d ps) :
    ∃ l : List Fct, FactsAt w (fun k => k < w.heap.size) (.slice A n c) l ∧ (∀ x ∈ l, FctOk x) ∧ l.length ≤ 9223372036854775807 :=
  open_rows factRow FctOk Tryz.underlying39 (by kernel_rfl) (by decide) (fun _ => rfl) open_fct h
theorem open_fact {cs : Array Value} {d : DataW H} {ps : List MemPlace} (h : DataW.Trod enc Tryz.prog w 0 (fun _ => true) true 45 (.agg cs) d ps) : ∃ f : Fct, cs = (factRow f).toArray ∧ FctOk f := by
  obtain ⟨fuel, hf⟩ := h
  obtain ⟨xs, f, _, _, hlen, hxl, hfs⟩ := DataW.trod_struct Tryz.underlying45 hf
  have hC : Tryz.prog.cellsOf 45 = 3 := by kernel_rfl
  rw [hC] at hlen
  obtain ⟨x, hx, hq⟩ := open_fct fuel cs.toList (d, ps) hf hlen
  exact ⟨x, by rw [← hx], hq⟩
set_option maxRecDepth 100000 in
theorem open_kern {cs : Array Value} {d : DataW H} {ps : List MemPlace} (h : DataW.Trod enc Tryz.prog w 0 (fun _ => true) true 25 (.agg cs) d ps) :
    ∃ (k : Krn) (Av Ao Ar : Option Addr) (nv cv no co nr cr : Nat), cs = #[.slice Av nv cv, .slice Ao no co, .slice Ar nr cr] ∧ KernAt w (fun k => k < w.heap.size) [.slice Av nv cv, .slice Ao no co, .slice Ar nr cr] k := by
  obtain ⟨fuel, hf⟩ := h
  obtain ⟨xs, f, _, _, hlen, hxl, hfs⟩ := DataW.trod_struct Tryz.underlying25 hf
  have hC : Tryz.prog.cellsOf 25 = 3 := by kernel_rfl
  rw [hC] at hlen
  have hcs : (Value.agg cs).cells.toList = cs.toList := rfl
  rw [hcs] at hlen hfs
  obtain ⟨l⟩ := cs
  simp only [] at hlen hfs
  match l, hlen with
  | [c0, c1, c2], _ =>
    match xs, hxl with
    | [y0, y1, y2], _ =>
      have t0 : DataW.trod enc Tryz.prog w 0 (fun _ => true) true f 22 (([c0, c1, c2].drop 0).take (Tryz.prog.cellsOf 22)) = some y0 := hfs 0 _ rfl
      have t1 : DataW.trod enc Tryz.prog w 0 (fun _ => true) true f 23 (([c0, c1, c2].drop 1).take (Tryz.prog.cellsOf 23)) = some y1 := hfs 1 _ rfl
      have t2 : DataW.trod enc Tryz.prog w 0 (fun _ => true) true f 23 (([c0, c1, c2].drop 2).take (Tryz.prog.cellsOf 23)) = some y2 := hfs 2 _ rfl
      have k0 : Tryz.prog.cellsOf 22 = 1 := by kernel_rfl
      have k1 : Tryz.prog.cellsOf 23 = 1 := by kernel_rfl
      rw [k0] at t0
      rw [k1] at t1 t2
      simp only [List.drop_zero, List.drop_succ_cons, List.take_succ_cons, List.take_zero] at t0 t1 t2
      obtain ⟨Av, nv, cv, rfl⟩ := trod_form Tryz.underlying22 t0
      obtain ⟨Ao, no, co, rfl⟩ := trod_form Tryz.underlying23 t1
      obtain ⟨Ar, nr, cr, rfl⟩ := trod_form Tryz.underlying23 t2
      obtain ⟨lv, hv, hvq, hvl⟩ := open_rows kvarRow (fun x : KVar => In64 x.limbs ∧ In64 x.mode) Tryz.underlying22 (by kernel_rfl) (by decide) (fun _ => rfl) open_kvar (d := y0.1) (ps := y0.2) ⟨f, t0⟩
      obtain ⟨lo, ho, hoq, hol⟩ := open_rows kopRow KOpOk Tryz.underlying23 (by kernel_rfl) (by decide) (fun _ => rfl) open_kop (d := y1.1) (ps := y1.2) ⟨f, t1⟩
      obtain ⟨lr, hr, hrq, hrl⟩ := open_rows kopRow KOpOk Tryz.underlying23 (by kernel_rfl) (by decide) (fun _ => rfl) open_kop (d := y2.1) (ps := y2.2) ⟨f, t2⟩
      exact ⟨⟨lv, lo, lr⟩, Av, Ao, Ar, nv, cv, no, co, nr, cr, rfl, ⟨⟨_, _, _, rfl, hv, ho, hr⟩, hvl, hol, hrl, hvq, hoq, hrq⟩⟩
end
end Go.Proofs.YtjbabpnepjhllaaGreat

/- Of any kernel, and a place: the law DutiesLoops tells true, and what was handed in reads as it did. No conditions. -/
namespace Go.Proofs.YtjbabpnepjhllaaGreat.dutiesLoops
open Go.ChangeShapes Go.WideShapes Go.ChangeAt Go.RowKit

theorem own : ownKnob Tryz.prog.godebug = none := by kernel_rfl
theorem laidOut : laidOutB Tryz.prog = true := by kernel_rfl

set_option maxRecDepth 100000 in
theorem lifted (os : Os) (started : os.Started) (H : Type) (enc : TypeId × Value → H) :
    ReturnsInHanded {} Tryz.checked os 5 .any (Rows.dutiesLoopsSpec.pre6 enc Tryz.prog Tryz.f5 Rows.dutiesLoopsRow.domain false) (Rows.dutiesLoopsSpec.post enc Tryz.prog Tryz.f5 false true false false) := by
  refine returnsInHanded_of_change (C := Tryz.checked) own started (by kernel_rfl) Tryz.func5
    (ChangeSpec.witness6 (enc := enc) (C := Tryz.checked) false ⟨#[], #[.agg #[.slice none 0 0, .slice none 0 0, .slice none 0 0], .int .i64 0], []⟩ 8 (by kernel_rfl) (by kernel_rfl) (by kernel_rfl) (by kernel_rfl)) ?_
  intro W base args ds gs before hval0 hW hcnd _
  have hval : ∀ (j : Nat) t v, Tryz.f5.params[j]? = some t → args[j]? = some v → Value.okWide Tryz.prog W .any base t v := hval0
  have hW' := hW
  obtain ⟨p, q, hA0, hV, rfl, hfz, hnd⟩ := hW
  have hA : DataW.TrodAll enc Tryz.prog W 0 (fun _ => true) true Tryz.f5.params.toList args.toList ds p := hA0
  rw [Tryz.params5] at hA hval
  obtain ⟨v0, vs0, d0, ds0, p0, q0, hargs, rfl, rfl, h0, r0⟩ := trodAll_cons hA
  obtain ⟨v1, vs1, d1, ds1, p1, q1, rfl, rfl, rfl, h1, r1⟩ := trodAll_cons r0
  obtain ⟨rfl, rfl, rfl⟩ := trodAll_nil r1
  obtain rfl : args = #[v0, v1] := by cases args; simp_all
  obtain ⟨rfl, rfl⟩ := trodVars_none hV
  have k0 := h0
  have lt0 : ∀ x ∈ p0, x.block < W.heap.size := by obtain ⟨m, hm⟩ := k0; exact DataW.trod_lt m _ _ _ hm
  obtain ⟨cs0, rfl, hcs0⟩ := okWide_struct Tryz.underlying25 (hval 0 25 v0 rfl rfl)
  obtain ⟨K0, Av0, Ao0, Ar0, nv0, cv0, no0, co0, nr0, cr0, rfl, hk0⟩ := open_kern h0
  obtain ⟨a1, rfl, rfl, rfl, w1⟩ := open_int Tryz.underlying3 (hval 1 3 v1 rfl rfl) h1
  clear hA0 hval0
  refine (loops_any Av0 Ao0 Ar0 nv0 cv0 no0 co0 nr0 cr0 K0 a1 W hk0).mono fun e W' ⟨he, bel⟩ => ?_
  subst he
  exact ⟨_, rfl, _, _, _, [], _, [], hW', trodAll_mk1 (shut_bool Tryz.underlying4 _), (trodAll_cons_mk (Below.trod laidOut (by kernel_rfl) (of_decide_eq_true (by kernel_rfl)) k0 bel lt0) (trodAll_cons_mk (shut_int Tryz.underlying3 w1) trodAll_mk0)), rfl, bel.frame _, fun h => by cases h⟩

theorem over : Rows.dutiesLoopsRow.holds Tryz.pinned (OpenSpec.ofChange Rows.dutiesLoopsSpec) :=
  OpenClaim.holds_of_wide 5 Tryz.f5 rfl rfl rfl rfl rfl rfl rfl ⟨rfl, rfl, rfl, rfl, rfl⟩ rfl rfl rfl rfl rfl (by kernel_rfl) Tryz.func5 (by kernel_rfl)
    (of_decide_eq_true (by kernel_rfl)) (by unfold Func.isWrapper; first | (rw [if_pos (by decide +kernel)]; kernel_rfl) | (rw [if_neg (by decide +kernel)]; exact ⟨rfl, rfl⟩))
    (fun os started H enc _ => lifted os started H enc)

theorem proved : Rows.DutiesLoopsSaid := over
#print axioms proved
end Go.Proofs.YtjbabpnepjhllaaGreat.dutiesLoops
