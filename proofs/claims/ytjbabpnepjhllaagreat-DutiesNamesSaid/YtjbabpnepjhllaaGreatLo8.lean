/- law21: DutiesMore, the walk. -/
import Derived.Test.YtjbabpnepjhllaaGreatLo4
import Derived.Test.YtjbabpnepjhllaaGreatPlainChk21
import Derived.Test.YtjbabpnepjhllaaGreatLo7
import Derived.Test.YtjbabpnepjhllaaGreatWords21
import Derived.Deep.Slices
import Derived.ProofKit
namespace Go.Proofs.YtjbabpnepjhllaaGreat
open Go.RowKit

theorem more_facts {w : World} {base n : Nat} {v : Value} {l : List Fct} (h : w.ownsRow base 45 3 v n (cellsOfF l)) (hn : n = l.length) : FactsAt w (fun q => q < w.heap.size) v l := by
  subst hn
  exact Rows.mono (facts_own h) fun q hq => (own_lt h q hq).1
theorem light_parts {k : Krn} (h : lightK k = true) : k.vars.length ≤ 16 ∧ k.ops.length ≤ 40 ∧ k.reqs.length ≤ 40 := by
  unfold lightK at h
  simp only [Bool.and_eq_true, decide_eq_true_eq] at h
  exact h.2
set_option maxRecDepth 100000 in
set_option maxHeartbeats 20000000 in
/-- DutiesMore. -/
theorem more_any (Av Ao Ar Al Am : Option Addr) (nv cv no co nr cr nl cl nm cm : Nat) (k : Krn) (at_ : Int) (l m : List Fct) (w : World) (hk : KernAt w (fun q => q < w.heap.size) [.slice Av nv cv, .slice Ao no co, .slice Ar nr cr] k)
    (hl : FactsAt w (fun q => q < w.heap.size) (.slice Al nl cl) l) (hm : FactsAt w (fun q => q < w.heap.size) (.slice Am nm cm) m) (hokl : ∀ f ∈ l, FctOk f) (hokm : ∀ f ∈ m, FctOk f) :
    Calls Tryz.prog 7 #[.agg #[.slice Av nv cv, .slice Ao no co, .slice Ar nr cr], .int .i64 at_, .slice Al nl cl, .slice Am nm cm] w fun e w' => e = .returned (.bool true) ∧ Below w.heap.size w w' := by
  obtain ⟨W, hW⟩ : ∃ W, W = w.alloc (.cells #[.slice Av nv cv, .slice Ao no co, .slice Ar nr cr] 25) := ⟨_, rfl⟩
  have hb : Below w.heap.size w W := by rw [hW]; exact (Below.refl _ _).alloc (Nat.le_refl _) _
  have hbox : W.heap[w.heap.size]? = some (.cells #[.slice Av nv cv, .slice Ao no co, .slice Ar nr cr] 25 (0, 0)) := by rw [hW]; exact heap_alloc_new w _
  have hk2 : KernAt W (fun k => k < W.heap.size) [.slice Av nv cv, .slice Ao no co, .slice Ar nr cr] k := (hk.keep (SameOn.of_below hb fun q hq => hq)).mono fun j hj => by have := hb.size; omega
  have hkb := kbox_of hbox hk2
  have HW := Lib.hid hW
  have HB := Lib.hid hb
  have HK := Lib.hid hkb
  have HLV := Lib.hid (lives_any W)
  have HLK := Lib.hid (fun (w1 : World) (h1 : Below W.heap.size W w1) => light_any Av Ao Ar nv cv no co nr cr k w1 _ (kern_next hk2 h1) (fun k hk => hk))
  have HL1 := Lib.hid (LightFacts_any Al nl cl)
  have HL2 := Lib.hid (LightFacts_any Am nm cm)
  have c0 := hkb.c0
  have c1 := hkb.c1
  have c2 := hkb.c2
  cases hL : lightK k
  · rw [hL] at HLK
    clear hW hb hbox hk2 hkb hk hl hm hokl hokm hL c0 c1 c2
    go_enter Tryz.func7, Tryz.ntmps7
    go_upto_region 1 with (first | go_in)
    rw [← HW.out]
    clear HW
    go_upto_region 3 with (first | ((with_reducible refine HLV.out.mono ?_); rintro e w1 ⟨rfl, hb1⟩; have HB1 := Lib.hid hb1; clear hb1) | go_in)
    have c0 := (HK.out.next HB1.out).c0
    have c1 := (HK.out.next HB1.out).c1
    have c2 := (HK.out.next HB1.out).c2
    go_wp2_with (first | ((with_reducible refine (HLK.out _ HB1.out).mono ?_); rintro e w2 ⟨rfl, hb2⟩; have HB2 := Lib.hid (HB1.out.trans (hb2.mono HB1.out.size)); clear hb2) | ((with_reducible refine (HL1.out _).mono ?_); rintro e w2 ⟨rfl, hw_⟩; subst hw_) | ((with_reducible refine (HL2.out _).mono ?_); rintro e w2 ⟨rfl, hw_⟩; subst hw_) | go_in)
    go_ret
    exact ⟨rfl, HB.out.trans (HB2.out.mono HB.out.size)⟩
  rw [hL] at HLK
  by_cases h1 : nl ≤ 40
  rotate_left
  · rw [decide_eq_false h1] at HL1
    clear hW hb hbox hk2 hkb hk hl hm hokl hokm hL h1 c0 c1 c2
    go_enter Tryz.func7, Tryz.ntmps7
    go_upto_region 1 with (first | go_in)
    rw [← HW.out]
    clear HW
    go_upto_region 3 with (first | ((with_reducible refine HLV.out.mono ?_); rintro e w1 ⟨rfl, hb1⟩; have HB1 := Lib.hid hb1; clear hb1) | go_in)
    have c0 := (HK.out.next HB1.out).c0
    have c1 := (HK.out.next HB1.out).c1
    have c2 := (HK.out.next HB1.out).c2
    go_wp2_with (first | ((with_reducible refine (HLK.out _ HB1.out).mono ?_); rintro e w2 ⟨rfl, hb2⟩; have HB2 := Lib.hid (HB1.out.trans (hb2.mono HB1.out.size)); clear hb2) | ((with_reducible refine (HL1.out _).mono ?_); rintro e w2 ⟨rfl, hw_⟩; subst hw_) | ((with_reducible refine (HL2.out _).mono ?_); rintro e w2 ⟨rfl, hw_⟩; subst hw_) | go_in)
    go_ret
    exact ⟨rfl, HB.out.trans (HB2.out.mono HB.out.size)⟩
  rw [decide_eq_true h1] at HL1
  by_cases h2 : nm ≤ 40
  rotate_left
  · rw [decide_eq_false h2] at HL2
    clear hW hb hbox hk2 hkb hk hl hm hokl hokm hL h1 h2 c0 c1 c2
    go_enter Tryz.func7, Tryz.ntmps7
    go_upto_region 1 with (first | go_in)
    rw [← HW.out]
    clear HW
    go_upto_region 3 with (first | ((with_reducible refine HLV.out.mono ?_); rintro e w1 ⟨rfl, hb1⟩; have HB1 := Lib.hid hb1; clear hb1) | go_in)
    have c0 := (HK.out.next HB1.out).c0
    have c1 := (HK.out.next HB1.out).c1
    have c2 := (HK.out.next HB1.out).c2
    go_wp2_with (first | ((with_reducible refine (HLK.out _ HB1.out).mono ?_); rintro e w2 ⟨rfl, hb2⟩; have HB2 := Lib.hid (HB1.out.trans (hb2.mono HB1.out.size)); clear hb2) | ((with_reducible refine (HL1.out _).mono ?_); rintro e w2 ⟨rfl, hw_⟩; subst hw_) | ((with_reducible refine (HL2.out _).mono ?_); rintro e w2 ⟨rfl, hw_⟩; subst hw_) | go_in)
    go_ret
    exact ⟨rfl, HB.out.trans (HB2.out.mono HB.out.size)⟩
  rw [decide_eq_true h2] at HL2
  obtain ⟨hv16, _, _⟩ := light_parts hL
  have hnl := (rows_len hl).1
  have hnm := (rows_len hm).1
  have hlW : FactsAt W (fun q => q < W.heap.size) (.slice Al nl cl) l := rows_next hl hb
  have hmW : FactsAt W (fun q => q < W.heap.size) (.slice Am nm cm) m := rows_next hm hb
  have HA1 := Lib.hid (fun (w3 : World) (h3 : Below W.heap.size W w3) => After_any Av Ao Ar Al nv cv no co nr cr nl cl k at_ l w3 _ (kern_next hk2 h3) (fun k hk => hk) (by omega) (rows_next hlW h3) hokl (by omega))
  have HA2 := Lib.hid (fun (w3 : World) (A : Option Addr) (c : Nat) (h3 : Below W.heap.size W w3) (h4 : FactsAt w3 (fun q => q < w3.heap.size) (.slice A (l.length + nm) c) (l ++ m)) => After_any Av Ao Ar A nv cv no co nr cr (l.length + nm) c k at_ (l ++ m) w3 _ (kern_next hk2 h3) (fun k hk => hk) (by omega) h4 (fun f hf => by rcases List.mem_append.1 hf with h | h; exact hokl f h; exact hokm f h) (by rw [List.length_append]; omega))
  have HOW := Lib.hid (fun (w3 : World) (h3 : Below W.heap.size W w3) => OwnF_any (.slice Al nl cl) l w3 _ (rows_next hlW h3) (by omega))
  have HCO := Lib.hid (fun (w3 : World) (h3 : Below W.heap.size W w3) => Common_any Al Am nl cl nm cm l m w3 _ (rows_next hlW h3) (rows_next hmW h3) (fun k hk => hk) hokl (by omega) (by omega))
  have HLW := Lib.hid hlW
  have HMW := Lib.hid hmW
  have HN := Lib.hid (And.intro hnl hnm)
  have HSUB := Lib.hid (after_sub (k := k) (at_ := at_) (l := l) (m := l ++ m) fun x hx => List.mem_append.2 (.inl hx))
  have HLEN := Lib.hid (show (after_at k at_ l).length ≤ 90000 ∧ (after_at k at_ (l ++ m)).length ≤ 90000 from ⟨after_len (by omega) (by omega), after_len (by omega) (by rw [List.length_append]; omega)⟩)
  have HCL := Lib.hid (show (commonF l m).length ≤ 90000 from Nat.le_trans (common_len l m) (by omega))
  have HORD := Lib.hid (after_ord k at_ l)
  have HSZ := Lib.hid (And.intro h1 h2)
  obtain ⟨a, ha⟩ : ∃ a, a = after_at k at_ l := ⟨_, rfl⟩
  obtain ⟨b, hbb⟩ : ∃ b, b = after_at k at_ (l ++ m) := ⟨_, rfl⟩
  obtain ⟨c, hcc⟩ : ∃ c, c = commonF l m := ⟨_, rfl⟩
  have HCM := Lib.hid (show ∀ f ∈ c, f ∈ l ∧ f ∈ m from fun f hf => by rw [hcc] at hf; exact ⟨(mem_commonF.1 hf).1, (mem_commonF.1 hf).2.1⟩)
  rw [← ha] at HA1 HSUB HLEN HORD
  rw [← hbb] at HSUB HLEN
  rw [← hcc] at HCO HCL
  simp only [← hbb] at HA2
  clear hW hb hbox hk2 hkb hk hl hm hokl hokm hL h1 h2 c0 c1 c2 hv16 hnl hnm hlW hmW ha hbb hcc
  go_enter Tryz.func7, Tryz.ntmps7
  go_upto_region 1 with (first | go_in)
  rw [← HW.out]
  clear HW
  go_upto_region 3 with (first | ((with_reducible refine HLV.out.mono ?_); rintro e w1 ⟨rfl, hb1⟩; have HB1 := Lib.hid hb1; clear hb1) | go_in)
  have c0 := (HK.out.next HB1.out).c0
  have c1 := (HK.out.next HB1.out).c1
  have c2 := (HK.out.next HB1.out).c2
  go_upto_region 5 with (first | ((with_reducible refine (HLK.out _ HB1.out).mono ?_); rintro e w2 ⟨rfl, hb2⟩; have HB2 := Lib.hid (HB1.out.trans (hb2.mono HB1.out.size)); clear hb2) | ((with_reducible refine (HL1.out _).mono ?_); rintro e w2 ⟨rfl, hw_⟩; subst hw_) | ((with_reducible refine (HL2.out _).mono ?_); rintro e w2 ⟨rfl, hw_⟩; subst hw_) | go_in)
  clear c0 c1 c2 HLV HLK HL1 HL2
  have HKB := Lib.hid (show ∀ w_, Below w2.heap.size w2 w_ → w_.cell? ⟨w.heap.size, 0, none⟩ = some (.slice Av nv cv) ∧ w_.cell? ⟨w.heap.size, 1, none⟩ = some (.slice Ao no co) ∧ w_.cell? ⟨w.heap.size, 2, none⟩ = some (.slice Ar nr cr) from fun w_ h_ => by
    have h := HK.out.next (HB2.out.trans (h_.mono HB2.out.size))
    exact ⟨h.c0, h.c1, h.c2⟩)
  have hS := (Below.refl w2.heap.size w2).drew
  have up : ∀ {w_}, Below w2.heap.size w2 w_ → Below W.heap.size W w_ := fun h => HB2.out.trans (h.mono HB2.out.size)
  (refine wp_region_lines (Below w2.heap.size w2) (by kernel_rfl) (by kernel_rfl) ((Below.refl w2.heap.size w2).drew) ?_)
  (try simp only [])
  repeat (first | (refine runL_no (by rfl) ?_; (try simp only [Act.put, List.setIfInBounds_toArray, List.set_cons_zero, List.set_cons_succ])) | (refine runL_val (v := ?_) (by rfl) ?_ ?_; rotate_left; (focus (intro w_ hw_; have f0_ := (HKB.out w_ hw_).1; have f1_ := (HKB.out w_ hw_).2.1; have f2_ := (HKB.out w_ hw_).2.2; go_simp; (try with_reducible rfl); done)); (try simp only [Act.put, List.setIfInBounds_toArray, List.set_cons_zero, List.set_cons_succ])) | (refine runL_call (f := ?_) (args := ?_) (w1 := ?_) (by rfl) (by rfl) ?_ ?_; rotate_left 3; (focus (go_simp; refine ⟨⟨?_, ?_⟩, ?_⟩ <;> with_reducible rfl)); (with_reducible refine (HA1.out _ (up hS)).mono ?_); rintro e_ w3 ⟨A5, n5, c5, rfl, hf5, hb3⟩; have HF5 := Lib.hid hf5; replace hS := hS.trans (hb3.mono hS.size); have HS3 := Lib.hid hS.size; clear hf5 hb3; refine ⟨_, rfl, .inr hS, ?_⟩; (try simp only [Act.put, List.setIfInBounds_toArray, List.set_cons_zero, List.set_cons_succ])) | (refine runL_call (f := ?_) (args := ?_) (w1 := ?_) (by rfl) (by rfl) ?_ ?_; rotate_left 3; (focus (go_simp; refine ⟨⟨?_, ?_⟩, ?_⟩ <;> with_reducible rfl)); (with_reducible refine (HOW.out w3 (up hS)).mono ?_); rintro e_ w4 ⟨g4, cap4, rfl, ho4, hc4, hb4⟩; have HO4 := Lib.hid ho4; have HC4 := Lib.hid hc4; have HB4 := Lib.hid hb4; replace hS := hS.trans (hb4.mono hS.size); clear ho4 hc4 hb4; refine ⟨_, rfl, .inr hS, ?_⟩; (try simp only [Act.put, List.setIfInBounds_toArray, List.set_cons_zero, List.set_cons_succ])) | (refine runL_call (f := ?_) (args := ?_) (w1 := ?_) (by rfl) (by rfl) ?_ ?_; rotate_left 3; (focus (go_simp; refine ⟨⟨?_, ?_⟩, ?_⟩ <;> with_reducible rfl)); (with_reducible refine (HA2.out w6 A6 c6 (up hS) HF6.out).mono ?_); rintro e_ w7 ⟨A7, n7, c7, rfl, hf7, hb7⟩; have HF7 := Lib.hid hf7; have HB7 := Lib.hid hb7; replace hS := hS.trans (hb7.mono hS.size); clear hf7 hb7; refine ⟨_, rfl, .inr hS, ?_⟩; (try simp only [Act.put, List.setIfInBounds_toArray, List.set_cons_zero, List.set_cons_succ])) | (refine runL_appendFs (base := w3.heap.size) (F := fun q => q < w4.heap.size) (xs := l) (more := m) (by rfl) (by rfl) _ _ rfl (by rfl) HO4.out HC4.out (by rfl) (rows_next HMW.out (up hS)) (by have := HN.out.1; have := HSZ.out; omega) HB4.out.size ?_; intro A6 c6 w6 ho6 hb6; have HF6 := Lib.hid (more_facts ho6 (by rw [List.length_append, ← HN.out.2])); have HB6 := Lib.hid (HB4.out.trans hb6); replace hS := hS.trans (hb6.mono HS3.out); clear ho6 hb6; refine ⟨hS, ?_⟩; (try simp only [Act.put, List.setIfInBounds_toArray, List.set_cons_zero, List.set_cons_succ])))
  (refine runL_nil ?_)
  have HS := Lib.hid (up hS)
  have HFA := Lib.hid (show FactsAt w7 (fun q => q < w7.heap.size) (.slice A5 n5 c5) a from rows_next HF5.out (HB6.out.trans (HB7.out.mono HB6.out.size)))
  have n5a := (rows_len HF5.out).1
  have HN5 := Lib.hid n5a
  have hn5 : n5 ≤ 90000 := by have := HLEN.out.1; omega
  clear hS up HF5 HO4 HC4 HF6 HB6 HB7 HB4 HS3 HKB HA1 HA2 HOW n5a
  go_wp2
  go_loopw [8, 11] (fun _ s11 wr => ∃ j : Nat, j ≤ n5 ∧ s11 = .int .i64 (j : Nat) ∧ Below w7.heap.size w7 wr) (fun _ s11 _ => n5 - (intOf s11).toNat)
  case atStart => exact ⟨0, Nat.zero_le _, rfl, Below.refl _ _⟩
  case round =>
    obtain ⟨j, hj, rfl, hbr⟩ := hrel
    have HBR := Lib.hid hbr
    by_cases hlt : j < n5
    · have d1 : decide (j < n5) = true := decide_eq_true hlt
      obtain ⟨x, hx⟩ : ∃ v, a[j]? = some v := ⟨_, List.getElem?_eq_getElem (by have := HN5.out; omega)⟩
      have hxa := List.mem_of_getElem? hx
      have HX := Lib.hid hx
      have HK1 := Lib.hid (fun (w_ : World) (h : Below wr.heap.size wr w_) => Knows_any (.slice A7 n7 c7) x b w_ _ (rows_next HF7.out (hbr.trans (h.mono hbr.size))) (fun k hk => hk) (by have := HLEN.out.2; omega))
      have HK2 := Lib.hid (fun (w_ : World) (h : Below wr.heap.size wr w_) => Knows_any (.slice A5 n5 c5) x a w_ _ (rows_next HFA.out (hbr.trans (h.mono hbr.size))) (fun k hk => hk) (by have := HLEN.out.1; omega))
      rw [knowsF_mem (HSUB.out x hxa)] at HK1
      rw [knowsF_mem hxa] at HK2
      have hat := rows_next HFA.out hbr
      obtain ⟨g, off, hA, hg, z0, z1, z2⟩ := FactsAt.at_ hat hx
      have HFC := Lib.hid (show ∀ w_, Below wr.heap.size wr w_ → w_.cell? ⟨g, off + j * 3, none⟩ = some (.int .i64 x.kind) ∧ w_.cell? ⟨g, off + j * 3 + 1, none⟩ = some (.int .i64 x.a) ∧ w_.cell? ⟨g, off + j * 3 + 2, none⟩ = some (.int .i64 x.b) from fun w_ h => ⟨(h.cell (p := ⟨g, off + j * 3, none⟩) hg).trans z0, (h.cell (p := ⟨g, off + j * 3 + 1, none⟩) hg).trans z1, (h.cell (p := ⟨g, off + j * 3 + 2, none⟩) hg).trans z2⟩)
      have i0 : (0 : Int) ≤ (j : Int) := by omega
      have i1 : (j : Int) < (n5 : Int) := by omega
      have i2 : IntKind.i64.wrap (j : Int) = j := by rw [IntKind.wrap_i64]; omega
      clear hx hxa z0 z1 z2
      by_cases h0 : j = 0
      · have d3 : decide (0 < j) = false := decide_eq_false (by omega)
        have d4 : decide ((0 : Int) < (j : Int)) = false := decide_eq_false (by omega)
        subst hA
        clear h0 hat hbr hg
        go_upto_region 9 with (first | go_in)
        have hS := (Below.refl wr.heap.size wr).drew
        (refine wp_region_lines (Below wr.heap.size wr) (by kernel_rfl) (by kernel_rfl) ((Below.refl wr.heap.size wr).drew) ?_)
        (try simp only [])
        repeat (first | (refine runL_no (by rfl) ?_; (try simp only [Act.put, List.setIfInBounds_toArray, List.set_cons_zero, List.set_cons_succ])) | (refine runL_val (v := ?_) (by rfl) ?_ ?_; rotate_left; (focus (intro w_ hw_; obtain ⟨f0_, f1_, f2_⟩ := HFC.out w_ hw_; go_simp; (try with_reducible rfl); done)); (try simp only [Act.put, List.setIfInBounds_toArray, List.set_cons_zero, List.set_cons_succ])) | (refine runL_call (f := ?_) (args := ?_) (w1 := ?_) (by rfl) (by rfl) ?_ ?_; rotate_left 3; (focus (go_simp; refine ⟨⟨?_, ?_⟩, ?_⟩ <;> with_reducible rfl)); (first | with_reducible refine (HK1.out _ hS).mono ?_ | with_reducible refine (HK2.out _ hS).mono ?_); rintro e_ w8 ⟨rfl, hb8⟩; replace hS := hS.trans (hb8.mono hS.size); clear hb8; refine ⟨_, rfl, .inr hS, ?_⟩; (try simp only [Act.put, List.setIfInBounds_toArray, List.set_cons_zero, List.set_cons_succ])))
        (refine runL_nil ?_)
        have HS8 := Lib.hid hS
        clear hS
        go_wp2
        go_roundw
        case rel => exact ⟨j + 1, hlt, by go_num, HBR.out.trans (HS8.out.mono HBR.out.size)⟩
        case measure => simp [intOf]; omega
      · obtain ⟨i, hi⟩ : ∃ i, j = i + 1 := ⟨j - 1, by omega⟩
        have d3 : decide (0 < j) = true := decide_eq_true (by omega)
        have d4 : decide ((0 : Int) < (j : Int)) = true := decide_eq_true (by omega)
        obtain ⟨y, hy⟩ : ∃ v, a[i]? = some v := ⟨_, List.getElem?_eq_getElem (by have := HN5.out; omega)⟩
        obtain ⟨g', off', hA', hg', z0, z1, z2⟩ := FactsAt.at_ hat hy
        have hAe := hA.symm.trans hA'
        simp only [Option.some.injEq, Addr.mk.injEq, and_true] at hAe
        obtain ⟨e1, e2⟩ := hAe
        subst e1; subst e2
        have HFD := Lib.hid (show ∀ w_, Below wr.heap.size wr w_ → w_.cell? ⟨g, off + i * 3, none⟩ = some (.int .i64 y.kind) ∧ w_.cell? ⟨g, off + i * 3 + 1, none⟩ = some (.int .i64 y.a) ∧ w_.cell? ⟨g, off + i * 3 + 2, none⟩ = some (.int .i64 y.b) from fun w_ h => ⟨(h.cell (p := ⟨g, off + i * 3, none⟩) hg).trans z0, (h.cell (p := ⟨g, off + i * 3 + 1, none⟩) hg).trans z1, (h.cell (p := ⟨g, off + i * 3 + 2, none⟩) hg).trans z2⟩)
        have hqe := fun w_ => eq_fact x y w_
        rw [show (x == y) = false from beq_eq_false_iff_ne.2 (ord_ne HORD.out hy (hi ▸ HX.out))] at hqe
        have i9 : IntKind.i64.wrap ((j : Int) - 1) = (i : Int) := by rw [IntKind.wrap_i64]; omega
        have i7 : (0 : Int) ≤ (i : Int) := by omega
        have i8 : (i : Int) < (n5 : Int) := by omega
        have i6 : IntKind.i64.wrap (i : Int) = i := by rw [IntKind.wrap_i64]; omega
        have HI := Lib.hid hi
        subst hA
        clear h0 hat hbr hg hg' hA' hy z0 z1 z2 hi
        go_upto_region 9 with (first | go_in)
        have hS := (Below.refl wr.heap.size wr).drew
        (refine wp_region_lines (Below wr.heap.size wr) (by kernel_rfl) (by kernel_rfl) ((Below.refl wr.heap.size wr).drew) ?_)
        (try simp only [])
        repeat (first | (refine runL_no (by rfl) ?_; (try simp only [Act.put, List.setIfInBounds_toArray, List.set_cons_zero, List.set_cons_succ])) | (refine runL_val (v := ?_) (by rfl) ?_ ?_; rotate_left; (focus (intro w_ hw_; obtain ⟨f0_, f1_, f2_⟩ := HFC.out w_ hw_; obtain ⟨f3_, f4_, f5_⟩ := HFD.out w_ hw_; have f6_ := hqe w_; go_simp; (try with_reducible rfl); done)); (try simp only [Act.put, List.setIfInBounds_toArray, List.set_cons_zero, List.set_cons_succ])) | (refine runL_call (f := ?_) (args := ?_) (w1 := ?_) (by rfl) (by rfl) ?_ ?_; rotate_left 3; (focus (go_simp; refine ⟨⟨?_, ?_⟩, ?_⟩ <;> with_reducible rfl)); (first | with_reducible refine (HK1.out _ hS).mono ?_ | with_reducible refine (HK2.out _ hS).mono ?_); rintro e_ w8 ⟨rfl, hb8⟩; replace hS := hS.trans (hb8.mono hS.size); clear hb8; refine ⟨_, rfl, .inr hS, ?_⟩; (try simp only [Act.put, List.setIfInBounds_toArray, List.set_cons_zero, List.set_cons_succ])))
        (refine runL_nil ?_)
        have HS8 := Lib.hid hS
        clear hS hqe
        go_wp2
        go_roundw
        case rel => exact ⟨j + 1, hlt, by go_num, HBR.out.trans (HS8.out.mono HBR.out.size)⟩
        case measure => simp [intOf]; omega
    · have d1 : decide (j < n5) = false := decide_eq_false hlt
      have HB8 := Lib.hid (HS.out.trans (hbr.mono HS.out.size))
      clear hbr
      go_upto_region 12 with (first | ((with_reducible refine (HCO.out _ HB8.out).mono ?_); rintro e w8 ⟨A8, n8, c8, rfl, hf8, hb8⟩; have HF8 := Lib.hid hf8; have HB9 := Lib.hid (HB8.out.trans (hb8.mono HB8.out.size)); clear hf8 hb8) | go_in)
      have n8a := (rows_len HF8.out).1
      have HN8 := Lib.hid n8a
      have hn8 : n8 ≤ 90000 := by have := HCL.out; omega
      clear n8a HBR HFA HF7
      go_wp2
      go_loopw [8, 13] (fun _ s13 wr => ∃ j : Nat, j ≤ n8 ∧ s13 = .int .i64 (j : Nat) ∧ Below w8.heap.size w8 wr) (fun _ s13 _ => n8 - (intOf s13).toNat)
      case atStart => exact ⟨0, Nat.zero_le _, rfl, Below.refl _ _⟩
      case round =>
        obtain ⟨i, hi, rfl, hbr⟩ := hrel
        have HBR := Lib.hid hbr
        by_cases hlt2 : i < n8
        · have d2 : decide (i < n8) = true := decide_eq_true hlt2
          obtain ⟨x, hx⟩ : ∃ v, c[i]? = some v := ⟨_, List.getElem?_eq_getElem (by have := HN8.out; omega)⟩
          have hxc := HCM.out x (List.mem_of_getElem? hx)
          have hup := HB9.out.trans (hbr.mono HB9.out.size)
          have HK1 := Lib.hid (fun (w_ : World) (h : Below wr.heap.size wr w_) => Knows_any (.slice Al nl cl) x l w_ _ (rows_next HLW.out (hup.trans (h.mono hup.size))) (fun k hk => hk) (by have := HSZ.out; have := HN.out; omega))
          have HK2 := Lib.hid (fun (w_ : World) (h : Below wr.heap.size wr w_) => Knows_any (.slice Am nm cm) x m w_ _ (rows_next HMW.out (hup.trans (h.mono hup.size))) (fun k hk => hk) (by have := HSZ.out; have := HN.out; omega))
          rw [knowsF_mem hxc.1] at HK1
          rw [knowsF_mem hxc.2] at HK2
          obtain ⟨g, off, rfl, hg, z0, z1, z2⟩ := FactsAt.at_ (rows_next HF8.out hbr) hx
          have HFC := Lib.hid (show ∀ w_, Below wr.heap.size wr w_ → w_.cell? ⟨g, off + i * 3, none⟩ = some (.int .i64 x.kind) ∧ w_.cell? ⟨g, off + i * 3 + 1, none⟩ = some (.int .i64 x.a) ∧ w_.cell? ⟨g, off + i * 3 + 2, none⟩ = some (.int .i64 x.b) from fun w_ h => ⟨(h.cell (p := ⟨g, off + i * 3, none⟩) hg).trans z0, (h.cell (p := ⟨g, off + i * 3 + 1, none⟩) hg).trans z1, (h.cell (p := ⟨g, off + i * 3 + 2, none⟩) hg).trans z2⟩)
          have i0 : (0 : Int) ≤ (i : Int) := by omega
          have i1 : (i : Int) < (n8 : Int) := by omega
          have i2 : IntKind.i64.wrap (i : Int) = i := by rw [IntKind.wrap_i64]; omega
          clear hx hxc hup hg hbr
          go_wp2_with (first | ((with_reducible refine (HK1.out _ (Below.refl _ _)).mono ?_); rintro e_ w10 ⟨rfl, hb10⟩; have HB10 := Lib.hid hb10; obtain ⟨z0, z1, z2⟩ := HFC.out _ hb10; clear hb10) | ((with_reducible refine (HK2.out _ HB10.out).mono ?_); rintro e_ w11 ⟨rfl, hb11⟩; have HB11 := Lib.hid (HB10.out.trans (hb11.mono HB10.out.size)); clear hb11) | go_in)
          go_roundw
          case rel => exact ⟨i + 1, hlt2, by go_num, HBR.out.trans (HB11.out.mono HBR.out.size)⟩
          case measure => simp [intOf]; omega
        · have d2 : decide (i < n8) = false := decide_eq_false hlt2
          clear hbr
          go_wp2
          go_ret
          exact ⟨rfl, HB.out.trans ((HB9.out.trans (HBR.out.mono HB9.out.size)).mono HB.out.size)⟩
end Go.Proofs.YtjbabpnepjhllaaGreat

/- law21: DutiesAsked, plain: with each need put ahead of its operation a kernel may be, too, and all needs are known. -/
namespace Go.Proofs.YtjbabpnepjhllaaGreat

def needOp (f : Fct) : KOp := ⟨17, -1, -1, f.a, f.b, -1, f.kind.toNat⟩
def insOps (o : KOp) : List KOp := if o.kind = 17 then [o] else (needsF o).map needOp ++ [o]
def askOps (ops : List KOp) : List KOp := (ops.map insOps).flatten
theorem askOps_cons (o : KOp) (r : List KOp) : askOps (o :: r) = insOps o ++ askOps r := rfl
theorem askOps_append (a b : List KOp) : askOps (a ++ b) = askOps a ++ askOps b := by unfold askOps; simp
theorem askOps_next {ops : List KOp} {j : Nat} {o : KOp} (ho : ops[j]? = some o) : askOps (ops.take (j + 1)) = askOps (ops.take j) ++ insOps o := by
  rw [List.take_add_one, ho, askOps_append]
  simp [askOps]
theorem needs_len (o : KOp) : (needsF o).length ≤ 3 := by
  unfold needsF
  (repeat' split) <;> simp
theorem insOps_len (o : KOp) : (insOps o).length ≤ 4 := by
  unfold insOps
  split
  · simp
  · have := needs_len o; simp; omega
theorem askOps_len (ops : List KOp) : (askOps ops).length ≤ 4 * ops.length := by
  induction ops with
  | nil => simp [askOps]
  | cons o r ih => rw [askOps_cons, List.length_append, List.length_cons]; have := insOps_len o; omega
/-- A need of an operation that is no need. -/
structure NeedOf (o : KOp) (f : Fct) : Prop where
  kind : f.kind = 1 ∨ f.kind = 2 ∨ f.kind = 3
  a : (f.a = o.a ∧ 10 ≤ o.kind ∧ o.kind ≤ 13) ∨ (f.a = o.b ∧ 10 ≤ o.kind ∧ o.kind ≤ 12) ∨ (f.a = o.c ∧ 9 ≤ o.kind ∧ o.kind ≤ 13)
  b : (f.kind = 2 ∧ f.b = o.c ∧ 9 ≤ o.kind ∧ o.kind ≤ 13) ∨ (f.kind ≠ 2 ∧ f.b = -1)
theorem need_of {o : KOp} {f : Fct} (h17 : o.kind ≠ 17) (hf : f ∈ needsF o) : NeedOf o f := by
  unfold needsF at hf
  split at hf
  · simp only [List.mem_singleton] at hf
    subst hf
    exact ⟨.inr (.inr rfl), .inr (.inr ⟨rfl, by omega, by omega⟩), .inr ⟨by simp [aloneF], rfl⟩⟩
  split at hf
  · simp only [List.mem_cons, List.not_mem_nil, or_false] at hf
    rcases hf with rfl | rfl
    · exact ⟨.inr (.inl rfl), .inl ⟨rfl, by omega, by omega⟩, .inl ⟨rfl, rfl, by omega, by omega⟩⟩
    · exact ⟨.inr (.inl rfl), .inr (.inl ⟨rfl, by omega, by omega⟩), .inl ⟨rfl, rfl, by omega, by omega⟩⟩
  split at hf
  · simp only [List.mem_cons, List.not_mem_nil, or_false] at hf
    rcases hf with rfl | rfl | rfl
    · exact ⟨.inl rfl, .inr (.inr ⟨rfl, by omega, by omega⟩), .inr ⟨by simp [aloneF], rfl⟩⟩
    · exact ⟨.inr (.inl rfl), .inl ⟨rfl, by omega, by omega⟩, .inl ⟨rfl, rfl, by omega, by omega⟩⟩
    · exact ⟨.inr (.inl rfl), .inr (.inl ⟨rfl, by omega, by omega⟩), .inl ⟨rfl, rfl, by omega, by omega⟩⟩
  split at hf
  · simp only [List.mem_cons, List.not_mem_nil, or_false] at hf
    rcases hf with rfl | rfl
    · exact ⟨.inl rfl, .inr (.inr ⟨rfl, by omega, by omega⟩), .inr ⟨by simp [aloneF], rfl⟩⟩
    · exact ⟨.inr (.inl rfl), .inl ⟨rfl, by omega, by omega⟩, .inl ⟨rfl, rfl, by omega, by omega⟩⟩
  (try rw [if_neg h17] at hf)
  cases hf
theorem needs_need {o : KOp} {f : Fct} (h : NeedOf o f) : needsF (needOp f) = [f] := by
  unfold needsF needOp
  obtain ⟨k, a, b⟩ := f
  obtain ⟨hk, _, hb⟩ := h
  simp only at hk hb ⊢
  rcases hk with rfl | rfl | rfl
  · rcases hb with ⟨h, _⟩ | ⟨_, rfl⟩
    · omega
    · rfl
  · rfl
  · rcases hb with ⟨h, _⟩ | ⟨_, rfl⟩
    · omega
    · rfl
/-- The operations' states one after the other. -/
def opRun (vs : List KVar) : List KOp → Option (List Bool × Int) → Option (List Bool × Int)
  | [], s => s
  | o :: r, s => opRun vs r (s.bind (opStep vs o))
theorem opRun_append (vs : List KVar) : ∀ (a b : List KOp) (s), opRun vs (a ++ b) s = opRun vs b (opRun vs a s)
  | [], _, _ => rfl
  | _ :: r, b, _ => opRun_append vs r b _
theorem opTo_run (vs : List KVar) (ops : List KOp) : ∀ k, k ≤ ops.length → opTo vs ops k = opRun vs (ops.take k) (some (vs.map givenK, 0)) := by
  intro k
  induction k with
  | zero => intro _; rfl
  | succ k ih =>
    intro hk
    obtain ⟨o, ho⟩ : ∃ o, ops[k]? = some o := ⟨_, List.getElem?_eq_getElem (by omega)⟩
    rw [List.take_add_one, ho, opRun_append, ← ih (by omega)]
    simp only [opTo, ho]
    cases opTo vs ops k <;> rfl
theorem opRun_none (vs : List KVar) : ∀ l : List KOp, opRun vs l none = none
  | [] => rfl
  | _ :: r => opRun_none vs r
theorem step_need {vs : List KVar} {o : KOp} {f : Fct} {s t : List Bool × Int} (h : opStep vs o s = some t) (hs : 0 ≤ s.2 ∧ s.2 ≤ 4) (hf : NeedOf o f) : opStep vs (needOp f) s = some s := by
  obtain ⟨h1, _⟩ := opStep_one h
  have hp := oneK_parts h1
  have hmade : ∀ v ∈ takesK o, s.1.getD v.toNat false = true := by
    unfold opStep at h
    rw [if_neg (by rw [h1]; simp)] at h
    intro v hv
    by_cases hx : (takesK o).any (fun v => !(s.1.getD v.toNat false)) = true
    · rw [if_pos hx] at h; cases h
    · have := fun hn => hx (List.any_eq_true.2 ⟨v, hv, hn⟩)
      simpa using this
  have ha : 0 ≤ f.a ∧ f.a < vs.length ∧ f.a ∈ takesK o := by
    have hm : ∀ v, v ∈ [o.a, o.b, o.c] → 0 ≤ v → v ∈ takesK o := fun v hv h0 => by
      unfold takesK
      exact List.mem_append_left _ (List.mem_filter.2 ⟨hv, by simpa using h0⟩)
    rcases hf.a with ⟨e, h2, h3⟩ | ⟨e, h2, h3⟩ | ⟨e, h2, h3⟩
    · have := hp.a (.inl (by omega)); rw [e]; exact ⟨this.1, this.2, hm _ (by simp) this.1⟩
    · have := hp.b (.inr (by omega)); rw [e]; exact ⟨this.1, this.2, hm _ (by simp) this.1⟩
    · have := hp.c (by omega); rw [e]; exact ⟨this.1, this.2, hm _ (by simp) this.1⟩
  have hb : (f.kind = 2 ∧ 0 ≤ f.b ∧ f.b < vs.length ∧ f.b ∈ takesK o) ∨ (f.kind ≠ 2 ∧ f.b = -1) := by
    rcases hf.b with ⟨e, h2, h3, h4⟩ | h2
    · have := hp.c (by omega)
      refine .inl ⟨e, by rw [h2]; exact this.1, by rw [h2]; exact this.2, ?_⟩
      unfold takesK
      rw [h2]
      exact List.mem_append_left _ (List.mem_filter.2 ⟨by simp, by simpa using this.1⟩)
    · exact .inr h2
  have hone : oneK vs (needOp f) = true := by
    unfold oneK
    rw [if_pos (show (needOp f).kind = 17 from rfl)]
    unfold needK needOp thereK
    simp only [beq_self_eq_true, Bool.true_and, Bool.and_eq_true, decide_eq_true_eq]
    refine ⟨⟨ha.1, ha.2.1⟩, ?_⟩
    rcases hb with ⟨e, h2, h3, _⟩ | ⟨e, h2⟩
    · rw [if_pos (by rw [e]; rfl)]
      simp only [Bool.and_eq_true, decide_eq_true_eq]
      exact ⟨h2, h3⟩
    · have hk := hf.kind
      rw [if_neg (by omega), if_pos (by omega), h2]
      rfl
  have htk : ∀ v ∈ takesK (needOp f), v ∈ takesK o := by
    intro v hv
    have e : takesK (needOp f) = [f.a, f.b, -1].filter (fun v => decide (0 ≤ v)) ++ [] := rfl
    rw [e, List.append_nil] at hv
    obtain ⟨h2, h3⟩ := List.mem_filter.1 hv
    simp only [List.mem_cons, List.not_mem_nil, or_false, decide_eq_true_eq] at h2 h3
    rcases h2 with rfl | rfl | rfl
    · exact ha.2.2
    · rcases hb with ⟨_, _, _, h5⟩ | ⟨_, h5⟩
      · exact h5
      · omega
    · omega
  unfold opStep
  rw [if_neg (by rw [hone]; simp), if_neg ?_]
  · simp only [needOp]
    simp only [show ¬((17 : Int) = 15) by decide, show ¬((17 : Int) = 16) by decide, if_false, show ¬((0 : Int) ≤ -1) by decide]
    rw [if_neg (by omega)]
  · intro hx
    obtain ⟨v, hv, h2⟩ := List.any_eq_true.1 hx
    rw [hmade v (htk v hv)] at h2
    cases h2
theorem run_needs {vs : List KVar} {o : KOp} {s t : List Bool × Int} (h : opStep vs o s = some t) (hs : 0 ≤ s.2 ∧ s.2 ≤ 4) : ∀ (l : List Fct), (∀ f ∈ l, NeedOf o f) → opRun vs (l.map needOp) (some s) = some s
  | [], _ => rfl
  | f :: r, hl => by
    show opRun vs (r.map needOp) (opStep vs (needOp f) s) = some s
    rw [step_need h hs (hl f List.mem_cons_self)]
    exact run_needs h hs r fun g hg => hl g (List.mem_cons_of_mem _ hg)
theorem run_ins {vs : List KVar} {o : KOp} {s t : List Bool × Int} (h : opStep vs o s = some t) (hs : 0 ≤ s.2 ∧ s.2 ≤ 4) : opRun vs (insOps o) (some s) = some t := by
  unfold insOps
  by_cases h17 : o.kind = 17
  · rw [if_pos h17]; exact h
  · rw [if_neg h17, opRun_append, run_needs h hs _ fun f hf => need_of h17 hf]
    exact h
theorem run_ask {vs : List KVar} : ∀ (ops : List KOp) (s : List Bool × Int), 0 ≤ s.2 ∧ s.2 ≤ 4 → ∀ t, opRun vs ops (some s) = some t → opRun vs (askOps ops) (some s) = some t
  | [], _, _, _, h => h
  | o :: r, s, hs, t, h => by
    have h' : opRun vs r (opStep vs o s) = some t := h
    cases hq : opStep vs o s with
    | none => rw [hq, opRun_none] at h'; cases h'
    | some u =>
      rw [hq] at h'
      obtain ⟨_, _, h2, h3⟩ := opStep_one hq
      rw [askOps_cons, opRun_append, run_ins hq hs]
      exact run_ask r u ⟨h2, h3⟩ t h'
/-- It may be. -/
theorem ask_check {k : Krn} (hc : checkK k = true) (hn : k.ops.length ≤ 1000) : checkK ⟨k.vars, askOps k.ops, k.reqs⟩ = true := by
  obtain ⟨h1, h2, h3, h4, h5⟩ := checkK_parts hc
  have hl := askOps_len k.ops
  unfold checkK
  simp only [Bool.and_eq_true, decide_eq_true_eq, List.all_eq_true]
  refine ⟨h1, by omega, h3, h4, ?_⟩
  unfold opsK at h5 ⊢
  have e1 := opTo_run k.vars k.ops k.ops.length (Nat.le_refl _)
  have e2 := opTo_run k.vars (askOps k.ops) (askOps k.ops).length (Nat.le_refl _)
  rw [List.take_length] at e1 e2
  cases hq : opTo k.vars k.ops k.ops.length with
  | none => rw [hq] at h5; cases h5
  | some s =>
    rw [hq] at h5 e1
    rw [e2, run_ask k.ops _ (by simp) s e1.symm]
    exact h5
theorem ask_split {ops : List KOp} : ∀ {i : Nat} {q : KOp}, (askOps ops)[i]? = some q → q.kind ≠ 17 → ∃ pre post, askOps ops = pre ++ ((needsF q).map needOp ++ q :: post) ∧ i = pre.length + (needsF q).length ∧ q ∈ ops := by
  induction ops with
  | nil => intro i q h; simp [askOps] at h
  | cons o r ih =>
    intro i q h hk
    rw [askOps_cons] at h ⊢
    rcases Nat.lt_or_ge i (insOps o).length with hi | hi
    · rw [List.getElem?_append_left hi] at h
      by_cases h17 : o.kind = 17
      · unfold insOps at h hi
        rw [if_pos h17] at h hi
        have : i = 0 := by simpa using hi
        subst this
        cases h
        exact absurd h17 hk
      · unfold insOps at h hi ⊢
        rw [if_neg h17] at h hi ⊢
        rcases Nat.lt_or_ge i (needsF o).length with h1 | h1
        · rw [List.getElem?_append_left (by simpa using h1), List.getElem?_map] at h
          cases hf : (needsF o)[i]? with
          | none => rw [hf] at h; cases h
          | some f => rw [hf] at h; cases h; exact absurd rfl hk
        · have e : i = (needsF o).length := by simp at hi; omega
          rw [List.getElem?_append_right (by simpa using h1), e] at h
          simp at h
          subst h
          exact ⟨[], askOps r, by simp, by simpa using e, List.mem_cons_self⟩
    · rw [List.getElem?_append_right hi] at h
      obtain ⟨pre, post, h1, h2, h3⟩ := ih h hk
      exact ⟨insOps o ++ pre, post, by rw [h1, List.append_assoc], by rw [List.length_append]; omega, List.mem_cons_of_mem _ h3⟩
end Go.Proofs.YtjbabpnepjhllaaGreat

/- law21: DutiesAsked, plain: all needs are known. -/
namespace Go.Proofs.YtjbabpnepjhllaaGreat

/-- All needs are known. -/
theorem ask_known {k : Krn} {A : List (List Fct)} (hc : checkK ⟨k.vars, askOps k.ops, k.reqs⟩ = true) (hA : AheadIs ⟨k.vars, askOps k.ops, k.reqs⟩ A) (hm : ∀ o ∈ k.ops, o.kind ≠ 17 → ∀ f ∈ needsF o, mayF f = true)
    {i : Nat} {q : KOp} (hq : (askOps k.ops)[i]? = some q) (h17 : q.kind ≠ 17) {f : Fct} (hf : f ∈ needsF q) : knowsF (A.getD i []) f = true := by
  obtain ⟨pre, post, h1, h2, h3⟩ := ask_split hq h17
  obtain ⟨l', hl, hg⟩ := ahead_good hc hA
  have hil : i < (askOps k.ops).length := (List.getElem?_eq_some_iff.1 hq).1
  have key : ∀ t, t ≤ (needsF q).length → ∀ g ∈ (needsF q).take t, g ∈ A.getD (pre.length + t) [] := by
    intro t
    induction t with
    | zero => intro _ g hg; simp at hg
    | succ t ih =>
      intro ht g hgm
      obtain ⟨p, hp⟩ : ∃ p, (needsF q)[t]? = some p := ⟨_, List.getElem?_eq_getElem (by omega)⟩
      have hpm := List.mem_of_getElem? hp
      have hop : (askOps k.ops)[pre.length + t]? = some (needOp p) := by
        rw [h1, List.getElem?_append_right (by omega), List.getElem?_append_left (by simp; omega), List.getElem?_map, show pre.length + t - pre.length = t by omega, hp]
        rfl
      have h4 := hg.op (pre.length + t) (needOp p) (Nat.zero_le _) (by simp only; omega) hop (by show (17 : Int) ≠ 15; decide) (by show (17 : Int) ≠ 16; decide)
      rw [gv_in (by simp only; omega), gv_in (by simp only; omega)] at h4
      rw [← Nat.add_assoc, h4, mem_afterF (by rintro ⟨h, _⟩; exact absurd h (by show ¬ (17 : Int) = 2; decide))]
      have hnw : ∀ l, newsF k.vars (needOp p) l = [p] := fun l => by
        rw [← needs_need (need_of h17 hpm)]
        rfl
      rw [List.take_add_one, hp] at hgm
      rcases List.mem_append.1 hgm with h5 | h5
      · have h6 := ih (by omega) g h5
        have hgq := List.mem_of_mem_take h5
        exact ⟨hm q h3 h17 g hgq, .inr ⟨h6, rfl⟩⟩
      · simp at h5
        subst h5
        refine ⟨hm q h3 h17 g hpm, .inl ?_⟩
        rw [hnw]
        exact List.mem_singleton.2 rfl
  rw [h2]
  exact knowsF_mem (key _ (Nat.le_refl _) f (by rw [List.take_length]; exact hf))
end Go.Proofs.YtjbabpnepjhllaaGreat

/- law21: DutiesAsked, the memory: a kernel whose operations grow; a row of bools that grows. -/
namespace Go.Proofs.YtjbabpnepjhllaaGreat
open Go.RowKit

theorem infoKopA : (Tryz.prog.info? 43).map (fun i => (i.zero, i.size, i.bytes)) = some (some (.agg #[.int .i64 0, .int .i64 0, .int .i64 0, .int .i64 0, .int .i64 0, .int .i64 0, .int .u64 0]), 7, 56) := by kernel_rfl
def cellsK (l : List KOp) : List Value := (l.map kopRow).flatten
theorem cellsK_snoc (l : List KOp) (q : KOp) : cellsK (l ++ [q]) = cellsK l ++ kopRow q := by simp [cellsK]
def boolV (l : List Bool) : List Value := l.map Value.bool
theorem boolV_snocA (l : List Bool) (b : Bool) : boolV (l ++ [b]) = boolV l ++ [.bool b] := by simp [boolV]
theorem flat_boolsA (l : List Bool) : (l.map fun n => [Value.bool n]).flatten = boolV l := by
  unfold boolV
  induction l with
  | nil => rfl
  | cons a l ih => simp only [List.map_cons, List.flatten_cons, ih]; rfl
theorem kops_own {w : World} {base : Nat} {v : Value} {l : List KOp} (h : w.ownsRow base 43 7 v l.length (cellsK l)) : KOpsAt w (fun k => v.ownBlock = some k) v l := by
  have hsz : ∀ r ∈ (l.map kopRow), r.length = 7 := by intro r hr; obtain ⟨x, _, rfl⟩ := List.mem_map.1 hr; rfl
  rcases Nat.eq_zero_or_pos l.length with h0 | hpos
  · obtain rfl := List.eq_nil_of_length_eq_zero h0
    rcases h.2 with ⟨rfl, _⟩ | ⟨g, cap, cur, rfl, _, _, hnc, _⟩
    · exact ⟨none, 0, rfl, by simp, by simp, fun h => absurd rfl h⟩
    · exact ⟨_, cap, rfl, by simp, by simp, fun h => absurd rfl h⟩
  · obtain ⟨g, cap, rfl, hg, hnc, hrow⟩ := rowsBlk_of_own (show w.ownsRow base 43 7 v l.length (l.map kopRow).flatten from h) hsz hpos
    refine ⟨_, cap, by simp, by simpa using hnc, hsz, fun _ => ⟨g, 0, rfl, rfl, fun i j r u hr hu => ?_⟩⟩
    rw [Nat.zero_add]
    exact hrow.cell hr hu
theorem bits_ownA {w : World} {base : Nat} {v : Value} {l : List Bool} (h : w.ownsRow base 4 1 v l.length (boolV l)) : BitsAt w (fun k => v.ownBlock = some k) v l := by
  have hsz : ∀ r ∈ (l.map fun n => [Value.bool n]), r.length = 1 := by intro r hr; obtain ⟨x, _, rfl⟩ := List.mem_map.1 hr; rfl
  have hfl := flat_boolsA l
  rcases Nat.eq_zero_or_pos l.length with h0 | hpos
  · obtain rfl := List.eq_nil_of_length_eq_zero h0
    rcases h.2 with ⟨rfl, _⟩ | ⟨g, cap, cur, rfl, _, _, hnc, _⟩
    · exact ⟨none, 0, rfl, by simp, by simp, fun h => absurd rfl h⟩
    · exact ⟨_, cap, rfl, by simp, by simp, fun h => absurd rfl h⟩
  · rw [← hfl] at h
    obtain ⟨g, cap, rfl, hg, hnc, hrow⟩ := rowsBlk_of_own h hsz hpos
    refine ⟨_, cap, by simp, by simpa using hnc, hsz, fun _ => ⟨g, 0, rfl, rfl, fun i j r u hr hu => ?_⟩⟩
    rw [Nat.zero_add]
    exact hrow.cell hr hu

variable {o : Oper} {a : Act} {w : World}
theorem exec_kop1A {q : KOp} (x : Operand) (ho : o.op = .buildSlice 23 1 #[(0, x)]) (hx : a.eval x = .agg (kopRow q).toArray) :
    (execOp a.eval o).run Tryz.prog w = .ok (.value (.slice (some ⟨w.heap.size, 0, none⟩) 1 1)) (w.alloc (.cells (kopRow q).toArray 43)) := by
  obtain ⟨j0, hie, hy0, hy1, hy2⟩ := info_parts infoKopA
  have h := run_buildSlice (P := Tryz.prog) w 23 43 1 #[(0, .agg (kopRow q).toArray)] (kopRow q).toArray j0 _ Tryz.underlying23 hie hy0 (by rw [hy1]; decide) (by rw [hy1]; decide) (by rw [hy1]; kernel_rfl)
  unfold execOp
  simp only [ho, hx, List.map_toArray, List.map_cons, List.map_nil, Sem.run_bind, h, Result.andThen_ok, Sem.run_pure]
theorem exec_appendK {base n : Nat} {v : Value} {l : List KOp} {q : KOp} {g : Nat} (s x : Operand) (ho : o.op = .call { callee := .builtin .append, args := #[s, x], argTypes := #[23, 23] })
    (hs : a.eval s = v) (hown : w.ownsRow base 43 7 v n (cellsK l)) (hx : a.eval x = .slice (some ⟨g, 0, none⟩) 1 1) (hg : w.heap[g]? = some (.cells (kopRow q).toArray 43 (0, 0))) (h63 : n ≤ 1000000) (hbase : base ≤ w.heap.size) :
    ∃ v' w', (execOp a.eval o).run Tryz.prog w = .ok (.value v') w' ∧ w'.ownsRow base 43 7 v' (n + 1) (cellsK (l ++ [q])) ∧ w.grownBy w' v.ownBlock ∧ (v'.ownBlock = v.ownBlock ∨ v'.ownBlock = some w.heap.size) := by
  obtain ⟨j0, hie, hy0, hy1, hy2⟩ := info_parts infoKopA
  obtain ⟨v', w', h1, h2, h3, _, h5⟩ := run_append_own_at (P := Tryz.prog) w base 23 o.type 43 j0 (.agg #[.int .i64 0, .int .i64 0, .int .i64 0, .int .i64 0, .int .i64 0, .int .i64 0, .int .u64 0]) 7 56 Tryz.underlying23 hie hy0 hy1 hy2 rfl (by decide) v n (cellsK l) hown ⟨g, 0, none⟩ 1 1 (kopRow q) rfl
    (by simpa using World.news_of_block (cs := (kopRow q).toArray) (t := 43) (fr := (0, 0)) hg) (by simp [Value.oneCell', kopRow]) (by unfold maxLen; omega) (by omega) hbase
  refine ⟨v', w', ?_, by rw [cellsK_snoc]; exact h2, h3, h5⟩
  unfold execOp
  simp only [ho, resolve, invoke, builtin, hs, hx, List.map_toArray, List.map_cons, List.map_nil, Sem.run_bind, h1, Result.andThen_ok, Sem.run_pure]
theorem runL_appendK {ops : Array Oper} {Q : Act → World → Prop} {S : World → Prop} {o : Oper} {l : List Oper} {a : Act} {w : World} (hT : isT o = true) (hw : Region.wanted o (yielded ops a.tmps) = true) {base n : Nat} {v : Value} {xs : List KOp} {q : KOp} {g : Nat}
    (s x : Operand) (ho : o.op = .call { callee := .builtin .append, args := #[s, x], argTypes := #[23, 23] }) (hs : a.eval s = v) (hown : w.ownsRow base 43 7 v n (cellsK xs)) (hx : a.eval x = .slice (some ⟨g, 0, none⟩) 1 1)
    (hg : w.heap[g]? = some (.cells (kopRow q).toArray 43 (0, 0))) (h63 : n ≤ 1000000) (hbase : base ≤ w.heap.size)
    (k : ∀ v' w', w'.ownsRow base 43 7 v' (n + 1) (cellsK (xs ++ [q])) → w.grownBy w' v.ownBlock → (v'.ownBlock = v.ownBlock ∨ v'.ownBlock = some w.heap.size) → S w' ∧ runL Tryz.prog ops S Q l (a.put o.dst v') w') : runL Tryz.prog ops S Q (o :: l) a w := by
  obtain ⟨v', w', h1, h2, h3, h4⟩ := exec_appendK s x ho hs hown hx hg h63 hbase
  obtain ⟨k1, k2⟩ := k v' w' h2 h3 h4
  exact runL_op hT hw h1 (.inr k1) k2

theorem setCell_rowK {w : World} {b ty : Nat} {row : List Value} (h : w.heap[b]? = some (.cells row.toArray ty (0, 0))) (k : Nat) (v : Value) : (w.setCell ⟨b, k, none⟩ v).heap[b]? = some (.cells (row.set k v).toArray ty (0, 0)) := by
  rw [World.setCell]
  simp only [Array.getElem?_modify, if_pos, h, Option.map_some]
  simp
/-- The kernel that grows: its box, its operations. -/
structure AskO (W : World) (bo : Nat) (v0 v2 : Value) (O : List KOp) (A : Option Addr) (m c : Nat) (w : World) : Prop where
  box : w.heap[bo]? = some (.cells #[v0, .slice A m c, v2] 25 (0, 0))
  own : w.ownsRow W.heap.size 43 7 (.slice A m c) m (cellsK O)
  len : m = O.length
  ne : (Value.slice A m c).ownBlock ≠ some bo
  low : W.heap.size ≤ bo
  bel : Below W.heap.size W w
/-- The row of bools that grows. -/
structure AskN (W : World) (bo : Nat) (vo va : Value) (ma : Nat) (bs : List Bool) (w : World) : Prop where
  own : w.ownsRow W.heap.size 4 1 va ma (boolV bs)
  len : ma = bs.length
  ne : va.ownBlock ≠ some bo
  apart : ∀ k, va.ownBlock = some k → vo.ownBlock ≠ some k
theorem AskO.cells {W : World} {bo : Nat} {v0 v2 : Value} {O : List KOp} {A : Option Addr} {m c : Nat} {w : World} (h : AskO W bo v0 v2 O A m c w) : w.cell? ⟨bo, 0, none⟩ = some v0 ∧ w.cell? ⟨bo, 1, none⟩ = some (.slice A m c) ∧ w.cell? ⟨bo, 2, none⟩ = some v2 := by
  simp [World.cell?, h.box]
theorem kept_below {base e sz n : Nat} {v : Value} {xs : List Value} {w w' : World} (h : w.ownsRow base e sz v n xs) (hb : Below w.heap.size w w') : w'.ownsRow base e sz v n xs :=
  h.kept (grownBy_of_below hb) (by cases hh : v.ownBlock <;> simp)
theorem AskO.next {W : World} {bo : Nat} {v0 v2 : Value} {O : List KOp} {A : Option Addr} {m c : Nat} {w w' : World} (h : AskO W bo v0 v2 O A m c w) (hb : Below w.heap.size w w') : AskO W bo v0 v2 O A m c w' :=
  ⟨(hb.block bo (lt_of_block h.box)).trans h.box, kept_below h.own hb, h.len, h.ne, h.low, h.bel.trans (hb.mono h.bel.size)⟩
theorem AskN.next {W : World} {bo : Nat} {vo va : Value} {ma : Nat} {bs : List Bool} {w w' : World} (h : AskN W bo vo va ma bs w) (hb : Below w.heap.size w w') : AskN W bo vo va ma bs w' := ⟨kept_below h.own hb, h.len, h.ne, h.apart⟩
/-- One operation more. -/
theorem ask_push {W : World} {bo : Nat} {v0 v2 va : Value} {O : List KOp} {A A2 : Option Addr} {m c c2 ma : Nat} {bs : List Bool} {w w1 w2 : World} {q : KOp} (h : AskO W bo v0 v2 O A m c w) (hn : AskN W bo (.slice A m c) va ma bs w) (h1 : Below w.heap.size w w1)
    (h2 : w2.ownsRow W.heap.size 43 7 (.slice A2 (m + 1) c2) (m + 1) (cellsK (O ++ [q]))) (hg : (w1.alloc (.cells (kopRow q).toArray 43)).grownBy w2 (Value.slice A m c).ownBlock)
    (hw : (Value.slice A2 (m + 1) c2).ownBlock = (Value.slice A m c).ownBlock ∨ (Value.slice A2 (m + 1) c2).ownBlock = some (w1.alloc (.cells (kopRow q).toArray 43)).heap.size) :
    AskO W bo v0 v2 (O ++ [q]) A2 (m + 1) c2 (w2.setCell ⟨bo, 1, none⟩ (.slice A2 (m + 1) c2)) ∧ AskN W bo (.slice A2 (m + 1) c2) va ma bs (w2.setCell ⟨bo, 1, none⟩ (.slice A2 (m + 1) c2)) ∧
      Chg (fun q => q = bo ∨ (Value.slice A m c).ownBlock = some q) w (w2.setCell ⟨bo, 1, none⟩ (.slice A2 (m + 1) c2)) ∧ ∀ q, (Value.slice A2 (m + 1) c2).ownBlock = some q → (Value.slice A m c).ownBlock = some q ∨ w.heap.size ≤ q := by
  have hbl := lt_of_block h.box
  have hs1 := h1.size
  have hs2 : w1.heap.size + 1 ≤ w2.heap.size := by have := hg.size; simpa using this
  have hal : Below w.heap.size w (w1.alloc (.cells (kopRow q).toArray 43)) := h1.alloc hs1 _
  have hx2 : w2.heap[bo]? = some (.cells #[v0, .slice A m c, v2] 25 (0, 0)) := (hg.block bo (by have := hal.size; omega) (fun e => h.ne e.symm)).trans ((hal.block bo hbl).trans h.box)
  have hne : (Value.slice A2 (m + 1) c2).ownBlock ≠ some bo := fun e => by
    rcases hw with e1 | e1
    · exact h.ne (e1 ▸ e)
    · rw [e1] at e
      simp at e; omega
  have hown2 : w2.ownsRow W.heap.size 4 1 va ma (boolV bs) := (kept_below hn.own hal).kept hg (by
    cases hh : va.ownBlock with
    | none => exact .inl rfl
    | some k => exact .inr fun e => hn.apart k hh e.symm)
  refine ⟨⟨?_, h2.kept (grownBy_setCell _ _ _ _) (.inr hne), by rw [List.length_append, ← h.len]; rfl, hne, h.low, ?_⟩, ⟨hown2.kept (grownBy_setCell _ _ _ _) (.inr hn.ne), hn.len, hn.ne, fun k hk e => ?_⟩, ⟨?_, ?_, ?_, by simp; omega, fun j hj hne => ?_⟩, fun q hq => ?_⟩
  · have := setCell_rowK (row := [v0, .slice A m c, v2]) hx2 1 (.slice A2 (m + 1) c2)
    exact this
  · refine Below.setCell ?_ h.low _
    refine Below.grown (h.bel.trans (hal.mono h.bel.size)) hg (by have := h.bel.size; have := hal.size; omega) fun k hk => ?_
    exact (own_lt h.own k hk).2
  · rcases hw with e1 | e1
    · exact hn.apart k hk (e1 ▸ e)
    · rw [e1] at e
      have := (own_lt hn.own k hk).1
      simp at e; omega
  · exact hg.os.trans hal.os
  · exact hg.tape.trans hal.tape
  · exact hg.output.trans hal.output
  · exact (Below.heap_setCell _ _ _ j (fun e => hne (.inl e))).trans ((hg.block j (by have := hal.size; omega) (fun e => hne (.inr e.symm))).trans (hal.block j hj))
  · rcases hw with e1 | e1
    · exact .inl (e1 ▸ hq)
    · rw [e1] at hq
      simp at hq; exact .inr (by omega)
/-- One bool more. -/
theorem ask_mark {W : World} {bo : Nat} {v0 v2 va va2 : Value} {O : List KOp} {A : Option Addr} {m c ma : Nat} {bs : List Bool} {b : Bool} {w w1 w2 : World} (h : AskO W bo v0 v2 O A m c w) (hn : AskN W bo (.slice A m c) va ma bs w) (h1 : Below w.heap.size w w1)
    (h2 : w2.ownsRow W.heap.size 4 1 va2 (ma + 1) (boolV bs ++ [.bool b])) (hg : w1.grownBy w2 va.ownBlock) (hw : va2.ownBlock = va.ownBlock ∨ va2.ownBlock = some w1.heap.size) :
    AskO W bo v0 v2 O A m c w2 ∧ AskN W bo (.slice A m c) va2 (ma + 1) (bs ++ [b]) w2 ∧ Chg (fun q => va.ownBlock = some q) w w2 ∧ ∀ q, va2.ownBlock = some q → va.ownBlock = some q ∨ w.heap.size ≤ q := by
  have hbl := lt_of_block h.box
  have hs1 := h1.size
  have hao := h.next h1
  refine ⟨⟨(hg.block bo (by omega) (fun e => hn.ne e.symm)).trans hao.box, hao.own.kept hg ?_, h.len, h.ne, h.low, ?_⟩, ⟨by rw [boolV_snocA]; exact h2, by rw [List.length_append, ← hn.len]; rfl, fun e => ?_, fun k hk => ?_⟩, ⟨hg.os.trans h1.os, hg.tape.trans h1.tape, hg.output.trans h1.output, by have := hg.size; omega, fun j hj hne => (hg.block j (by omega) (fun e => hne e.symm)).trans (h1.block j hj)⟩, fun q hq => ?_⟩
  · cases hh : (Value.slice A m c).ownBlock with
    | none => exact .inl rfl
    | some k => exact .inr fun e => hn.apart k e.symm hh
  · exact Below.grown hao.bel hg hao.bel.size fun k hk => (own_lt hn.own k hk).2
  · rcases hw with e1 | e1
    · exact hn.ne (e1 ▸ e)
    · rw [e1] at e; simp at e; omega
  · rcases hw with e1 | e1
    · exact hn.apart k (e1 ▸ hk)
    · rw [e1] at hk
      cases hk
      intro e
      have := (own_lt h.own _ e).1
      omega
  · rcases hw with e1 | e1
    · exact .inl (e1 ▸ hq)
    · rw [e1] at hq
      simp at hq; exact .inr (by omega)
/-- A row that is kept meanwhile: in blocks of K. -/
structure AskK (K : Nat → Prop) (bo : Nat) (vo va : Value) (w0 w : World) : Prop where
  kept : AskTo K w0 w
  free : ∀ q, K q → q < w0.heap.size ∧ q ≠ bo ∧ vo.ownBlock ≠ some q ∧ va.ownBlock ≠ some q
theorem AskK.below {K : Nat → Prop} {bo : Nat} {vo va : Value} {w0 w w' : World} (h : AskK K bo vo va w0 w) (hb : Below w.heap.size w w') : AskK K bo vo va w0 w' :=
  ⟨⟨h.kept.same.trans (SameOn.of_below hb fun k hk => by have := (h.free k hk).1; have := h.kept.size; omega), Nat.le_trans h.kept.size hb.size⟩, h.free⟩
theorem AskK.push {K : Nat → Prop} {bo : Nat} {vo vo2 va : Value} {w0 w w' : World} (h : AskK K bo vo va w0 w) (hc : Chg (fun q => q = bo ∨ vo.ownBlock = some q) w w') (hn : ∀ q, vo2.ownBlock = some q → vo.ownBlock = some q ∨ w.heap.size ≤ q) : AskK K bo vo2 va w0 w' := by
  have hs := h.kept.size
  refine ⟨⟨h.kept.same.trans (hc.same fun k hk => ⟨by have := (h.free k hk).1; omega, fun e => ?_⟩), Nat.le_trans hs hc.size⟩, fun q hq => ⟨(h.free q hq).1, (h.free q hq).2.1, fun e => ?_, (h.free q hq).2.2.2⟩⟩
  · rcases e with e | e
    · exact (h.free k hk).2.1 e
    · exact (h.free k hk).2.2.1 e
  · rcases hn q e with h1 | h1
    · exact (h.free q hq).2.2.1 h1
    · have := (h.free q hq).1; omega
theorem AskK.mark {K : Nat → Prop} {bo : Nat} {vo va va2 : Value} {w0 w w' : World} (h : AskK K bo vo va w0 w) (hc : Chg (fun q => va.ownBlock = some q) w w') (hn : ∀ q, va2.ownBlock = some q → va.ownBlock = some q ∨ w.heap.size ≤ q) : AskK K bo vo va2 w0 w' := by
  have hs := h.kept.size
  refine ⟨⟨h.kept.same.trans (hc.same fun k hk => ⟨by have := (h.free k hk).1; omega, fun e => (h.free k hk).2.2.2 e⟩), Nat.le_trans hs hc.size⟩, fun q hq => ⟨(h.free q hq).1, (h.free q hq).2.1, (h.free q hq).2.2.1, fun e => ?_⟩⟩
  rcases hn q e with h1 | h1
  · exact (h.free q hq).2.2.2 h1
  · have := (h.free q hq).1; omega
/-- The kernel at the end. -/
theorem AskO.kern {W : World} {bo : Nat} {Av Ar A : Option Addr} {nv cv nr cr m c : Nat} {O : List KOp} {w : World} {k : Krn} {vo0 : Value} (h : AskO W bo (.slice Av nv cv) (.slice Ar nr cr) O A m c w) (hk : KernAt W (fun q => q < W.heap.size) [.slice Av nv cv, vo0, .slice Ar nr cr] k) (hO : ∀ o ∈ O, KOpOk o) (hn : O.length ≤ 100000) :
    KernAt w (fun q => q < w.heap.size) [.slice Av nv cv, .slice A m c, .slice Ar nr cr] ⟨k.vars, O, k.reqs⟩ := by
  obtain ⟨vv, vo, vr, e, h1, h2, h3⟩ := (kern_next hk h.bel).row
  simp only [List.cons.injEq, and_true] at e
  obtain ⟨rfl, rfl, rfl⟩ := e
  have hl := h.len
  have ho := h.own
  rw [hl] at ho
  refine ⟨⟨_, _, _, rfl, h1, ?_, h3⟩, hk.nv, by simp only; omega, hk.nr, hk.vars, hO, hk.reqs⟩
  rw [hl]
  exact Rows.mono (kops_own ho) fun q hq => (own_lt ho q hq).1
end Go.Proofs.YtjbabpnepjhllaaGreat

/- law21: DutiesNames: the kernels, what is known, plain; helpers. -/
namespace Go.Proofs.YtjbabpnepjhllaaGreat
open Go.RowKit

def nmK2 : Krn := ⟨exK.vars, [⟨1, 2, -1, -1, -1, -1, 6⟩, ⟨15, -1, -1, -1, -1, -1, 2⟩, ⟨9, 2, -1, 2, -1, 1, 0⟩, ⟨1, 2, -1, -1, -1, -1, 3⟩, ⟨16, -1, -1, -1, -1, -1, 0⟩], exK.reqs⟩
def nmMore : List KOp := [⟨2, 3, -1, 0, -1, -1, 0⟩, ⟨8, 2, -1, 3, 0, 0, 0⟩, ⟨14, 2, 3, -1, -1, 0, 0⟩]
def nmK3 : Krn := ⟨exK.vars ++ [⟨1, true, 0⟩], nmK2.ops ++ nmMore, exK.reqs⟩
def nmS : List Fct := [aloneF 1 1, lessF 0 1]
def nmL : List Fct := [aloneF 1 1, lessF 0 1, lessF 2 1]
def nmM : List Fct := [aloneF 1 1, lessF 0 1, aloneF 3 2]
def nmE : List Fct := [aloneF 1 1, aloneF 1 2, lessF 0 1, aloneF 3 2]
def nmC : List Fct := [aloneF 1 1, lessF 0 1, lessF 3 1]
theorem nm_start : startF exK = nmS := by kernel_rfl
theorem nm_start2 : startF nmK2 = nmS := by kernel_rfl
theorem nm_after : after_at exK 0 nmS = nmL := by kernel_rfl
theorem nm_after3 : after_at nmK3 5 nmS = nmC := by kernel_rfl
theorem nm_after9 : after_at nmK3 9 nmS = [] := by kernel_rfl
theorem nm_common : commonF nmC nmL = nmS := by kernel_rfl
theorem nm_knows : knowsF nmC (aloneF 3 1) = true ∧ knowsF nmC (aloneF 3 0) = false := by constructor <;> kernel_rfl
theorem nm_check2 : checkK nmK2 = true := by kernel_rfl
theorem nm_ahead : AheadIs nmK2 [nmS, nmM, nmM, nmL, nmE] := by
  unfold AheadIs
  rw [if_pos nm_check2, nm_start2]
  refine ⟨nmE, .op (o := ⟨1, 2, -1, -1, -1, -1, 6⟩) (by decide) rfl (by decide) ?_⟩
  rw [show afterF nmK2.vars ⟨1, 2, -1, -1, -1, -1, 6⟩ nmS = nmM by kernel_rfl]
  refine .loop (o := ⟨15, -1, -1, -1, -1, -1, 2⟩) (e := 4) (l1 := nmE) (A1 := [nmS, nmM, nmM, nmL, []]) (by decide) rfl rfl (by kernel_rfl) (.still ?_ (by kernel_rfl)) (.done (by decide))
  refine .op (o := ⟨9, 2, -1, 2, -1, 1, 0⟩) (by decide) rfl (by decide) ?_
  rw [show afterF nmK2.vars ⟨9, 2, -1, 2, -1, 1, 0⟩ nmM = nmL by kernel_rfl]
  refine .op (o := ⟨1, 2, -1, -1, -1, -1, 3⟩) (by decide) rfl (by decide) ?_
  rw [show afterF nmK2.vars ⟨1, 2, -1, -1, -1, -1, 3⟩ nmL = nmE by kernel_rfl]
  exact .done (by decide)
def nilK : Krn := ⟨[], [], []⟩
theorem nil_start : startF nilK = [] := by kernel_rfl
theorem nil_ahead : AheadIs nilK [] := by
  unfold AheadIs
  rw [if_neg (show ¬ checkK nilK = true from fun h => by
    have h1 : checkK nilK = false := by kernel_rfl
    rw [h1] at h; cases h)]
theorem nil_kern (w : World) : KernAt w (fun q => q < w.heap.size) [.slice none 0 0, .slice none 0 0, .slice none 0 0] nilK :=
  ⟨⟨_, _, _, rfl, ⟨none, 0, rfl, by simp [nilK], by simp [nilK], fun h => absurd rfl h⟩, ⟨none, 0, rfl, by simp [nilK], by simp [nilK], fun h => absurd rfl h⟩, ⟨none, 0, rfl, by simp [nilK], by simp [nilK], fun h => absurd rfl h⟩⟩, by decide, by decide, by decide, fun v hv => (by cases hv), fun v hv => (by cases hv), fun v hv => (by cases hv)⟩
theorem small_facts : (∀ f ∈ nmS, FctOk f) ∧ (∀ f ∈ nmC, FctOk f) := by
  constructor <;>
  · intro f hf
    simp only [nmS, nmC, List.mem_cons, List.not_mem_nil, or_false] at hf
    rcases hf with rfl | rfl | rfl <;> exact ⟨small64 (by decide), small64 (by decide), small64 (by decide)⟩
/-- Facts do not lie in a kernel's box. -/
theorem facts_ne {w : World} {F : Nat → Prop} {v : Value} {l : List Fct} {B : Nat} {A0 A1 A2 : Option Addr} {n0 c0 n1 c1 n2 c2 : Nat} {t : TypeId} {fr : Nat × Nat} (h : FactsAt w F v l) (hne : l ≠ []) (hb : w.heap[B]? = some (.cells #[.slice A0 n0 c0, .slice A1 n1 c1, .slice A2 n2 c2] t fr)) : FactsAt w (fun q => F q ∧ q ≠ B) v l := by
  obtain ⟨A, c, hv, hc, hl, hat⟩ := h
  refine ⟨A, c, hv, hc, hl, fun h0 => ?_⟩
  obtain ⟨b, o, hA, hF, hcell⟩ := hat h0
  refine ⟨b, o, hA, ⟨hF, fun e => ?_⟩, hcell⟩
  subst e
  cases l with
  | nil => exact hne rfl
  | cons x r =>
    have h1 := hcell 0 0 (factRow x) (.int .i64 x.kind) rfl rfl
    simp only [World.cell?, hb] at h1
    rcases o with _ | _ | _ | o <;> simp at h1
/-- Rows that a store into one box lets be. -/
theorem facts_chg {w w' : World} {v : Value} {l : List Fct} {B : Nat} (h : FactsAt w (fun q => q < w.heap.size ∧ q ≠ B) v l) (hc : Chg (fun q => q = B) w w') : FactsAt w' (fun q => q < w'.heap.size) v l :=
  (Rows.keep h (hc.same fun _ hk => ⟨hk.1, hk.2⟩)).mono fun _ hk => Nat.lt_of_lt_of_le hk.1 hc.size

variable {o : Oper} {a : Act} {w : World}
theorem exec_facts4 {f g h q : Fct} (x y z u : Operand) (ho : o.op = .buildSlice 39 4 #[(0, x), (1, y), (2, z), (3, u)]) (hx : a.eval x = .agg #[.int .i64 f.kind, .int .i64 f.a, .int .i64 f.b]) (hy : a.eval y = .agg #[.int .i64 g.kind, .int .i64 g.a, .int .i64 g.b]) (hz : a.eval z = .agg #[.int .i64 h.kind, .int .i64 h.a, .int .i64 h.b]) (hu : a.eval u = .agg #[.int .i64 q.kind, .int .i64 q.a, .int .i64 q.b]) :
    (execOp a.eval o).run Tryz.prog w = .ok (.value (.slice (some ⟨w.heap.size, 0, none⟩) 4 4)) (w.alloc (.cells (cellsOfF [f, g, h, q]).toArray 45)) := by
  obtain ⟨j0, hie, hy0, hy1, hy2⟩ := info_parts infoFact
  have hr := run_buildSlice (P := Tryz.prog) w 39 45 4 #[(0, .agg #[.int .i64 f.kind, .int .i64 f.a, .int .i64 f.b]), (1, .agg #[.int .i64 g.kind, .int .i64 g.a, .int .i64 g.b]), (2, .agg #[.int .i64 h.kind, .int .i64 h.a, .int .i64 h.b]), (3, .agg #[.int .i64 q.kind, .int .i64 q.a, .int .i64 q.b])] #[.int .i64 f.kind, .int .i64 f.a, .int .i64 f.b, .int .i64 g.kind, .int .i64 g.a, .int .i64 g.b, .int .i64 h.kind, .int .i64 h.a, .int .i64 h.b, .int .i64 q.kind, .int .i64 q.a, .int .i64 q.b] j0 _ Tryz.underlying39 hie hy0 (by rw [hy1]; decide) (by rw [hy1]; decide) (by rw [hy1]; kernel_rfl)
  unfold execOp
  simp only [ho, hx, hy, hz, hu, List.map_toArray, List.map_cons, List.map_nil, Sem.run_bind, hr, Result.andThen_ok, Sem.run_pure, cellsOfF, factRow, List.flatten_cons, List.flatten_nil, List.append_nil, List.cons_append, List.nil_append]
/-- A row of facts is written out, in a region that draws: the world behind it has a name. -/
theorem runL_lit {ops : Array Oper} {Q : Act → World → Prop} {S : World → Prop} {o : Oper} {l : List Oper} {a : Act} {w : World} (hT : isT o = true) (hw : Region.wanted o (yielded ops a.tmps) = true) {n : Nat} (fs : List Fct)
    (hx : (execOp a.eval o).run Tryz.prog w = .ok (.value (.slice (some ⟨w.heap.size, 0, none⟩) n n)) (w.alloc (.cells (cellsOfF fs).toArray 45))) (hn : n = fs.length) (h9 : fs.length ≤ 100000)
    (k : ∀ g w', FactsAt w' (fun q => q < w'.heap.size) (.slice (some ⟨g, 0, none⟩) n n) fs → Below w.heap.size w w' → S w' ∧ runL Tryz.prog ops S Q l (a.put o.dst (.slice (some ⟨g, 0, none⟩) n n)) w') : runL Tryz.prog ops S Q (o :: l) a w := by
  obtain ⟨k1, k2⟩ := k w.heap.size _ (by
    subst hn
    exact more_facts (own_lit (heap_alloc_new w _) (Nat.le_refl _) h9) rfl) ((Below.refl _ _).alloc (Nat.le_refl _) _)
  exact runL_op hT hw hx (.inr k1) k2
end Go.Proofs.YtjbabpnepjhllaaGreat

/- Arguments of the types Kern, Fact, []Fact, opened. -/
namespace Go.Proofs.YtjbabpnepjhllaaGreat
open Go.ChangeShapes Go.WideShapes Go.Deep Go.RowKit

theorem list_of_all {α : Type} (Q : Nat → α → Prop) : ∀ n, (∀ i, i < n → ∃ x, Q i x) → ∃ L : List α, L.length = n ∧ ∀ (i : Nat) (x : α), L[i]? = some x → Q i x
  | 0, _ => ⟨[], rfl, fun i x h => by simp at h⟩
  | n + 1, h => by
    obtain ⟨L, hl, hq⟩ := list_of_all Q n (fun i hi => h i (by omega))
    obtain ⟨x, hx⟩ := h n (by omega)
    refine ⟨L ++ [x], by simp [hl], fun i y hy => ?_⟩
    rcases Nat.lt_or_ge i n with hi | hi
    · rw [List.getElem?_append_left (by omega)] at hy; exact hq i y hy
    · rw [List.getElem?_append_right (by omega)] at hy
      have : i - L.length = 0 := by
        rcases Nat.eq_zero_or_pos (i - L.length) with h | h
        · exact h
        · rw [List.getElem?_eq_none (by simp; omega)] at hy; cases hy
      rw [this] at hy
      simp at hy
      subst hy
      rw [show i = n from by omega]; exact hx

theorem plain_addr {w : World} {a : Addr} {k : Nat} {v : Value} (h : w.cell? (a.add k) = some v) (h0 : ∃ u, w.cell? a = some u) : a = ⟨a.block, a.off, none⟩ ∧ a.block < w.heap.size ∧ a.add k = ⟨a.block, a.off + k, none⟩ := by
  obtain ⟨u, hu⟩ := h0
  have hb := World.block_lt_of_cell? w a hu
  have hs : a.spot = none := by
    cases hsp : a.spot with
    | none => rfl
    | some s =>
      unfold World.cell? at hu
      split at hu
      · simp [hsp] at hu
      · cases hu
  have ha : a = ⟨a.block, a.off, none⟩ := by cases a; simp_all
  refine ⟨ha, hb, ?_⟩
  unfold Addr.add
  split
  · rename_i hk; subst hk; simpa using ha
  · rfl

section
variable {H : Type} {enc : TypeId × Value → H} {w : World}

theorem open_rows {α : Type} {T St sz : Nat} (row : α → List Value) (Q : α → Prop) (hT : Tryz.prog.underlying T = some (.slice St)) (hC : Tryz.prog.cellsOf St = sz) (h0 : 0 < sz) (hrow : ∀ x, (row x).length = sz)
    (each : ∀ fuel cs y, DataW.trod enc Tryz.prog w 0 (fun _ => true) true fuel St cs = some y → cs.length = sz → ∃ x, cs = row x ∧ Q x)
    {A : Option Addr} {n c : Nat} {d : DataW H} {ps : List MemPlace} (h : DataW.Trod enc Tryz.prog w 0 (fun _ => true) true T (.slice A n c) d ps) :
    ∃ l : List α, Rows w (fun k => k < w.heap.size) sz (.slice A n c) (l.map row) ∧ (∀ x ∈ l, Q x) ∧ l.length ≤ 9223372036854775807 := by
  obtain ⟨fuel, hf⟩ := h
  rcases open_slice hT hf with ⟨hcs, _⟩ | ⟨a, len, cap, m, q, D, Pl, hcs, _, hl, hm, hmm, _, hi⟩
  · simp [Value.cells] at hcs
    obtain ⟨rfl, rfl, rfl⟩ := hcs
    exact ⟨[], ⟨none, 0, rfl, by simp, by simp, fun h => absurd rfl h⟩, by simp, by simp⟩
  · simp [Value.cells] at hcs
    obtain ⟨rfl, rfl, rfl⟩ := hcs
    simp only [if_true] at hmm
    have ech : ∀ i, i < n → ∃ x : α, Q x ∧ ∀ (j : Nat) (u : Value), (row x)[j]? = some u → w.cell? (a.add (i * sz + j)) = some u := fun i hin => by
      obtain ⟨cs', hc, ht⟩ := hi i (by omega)
      rw [hC] at hc
      obtain ⟨_, hlen, hat⟩ := World.cells?_some hc
      obtain ⟨x, rfl, hq⟩ := each _ _ _ ht hlen
      refine ⟨x, hq, fun j u hu => ?_⟩
      have := hat j (by rw [← hlen]; exact (List.getElem?_eq_some_iff.1 hu).1)
      rw [← add_add, this, hu]
    obtain ⟨L, hL, hq⟩ := list_of_all _ n ech
    refine ⟨L, ⟨some a, c, by simp [hL], by simp [hL]; omega, fun r hr => by obtain ⟨x, _, rfl⟩ := List.mem_map.1 hr; exact hrow x, fun hne => ?_⟩, fun x hx => ?_, by rw [hL]; unfold maxLen at hm; omega⟩
    · have hpos : 0 < L.length := by
        cases L with
        | nil => simp at hne
        | cons => simp
      have hl0 := hrow L[0]
      obtain ⟨u0, hu0⟩ : ∃ u, (row L[0])[0]? = some u := by
        cases hx : row L[0] with
        | nil => rw [hx] at hl0; simp at hl0; omega
        | cons u us => exact ⟨u, rfl⟩
      have hp0 := (hq 0 L[0] (List.getElem?_eq_getElem hpos)).2 0 u0 hu0
      have h00 : ∃ u, w.cell? a = some u := ⟨_, by simpa [Addr.add] using hp0⟩
      obtain ⟨ha, hb, _⟩ := plain_addr hp0 h00
      refine ⟨a.block, a.off, by rw [← ha], hb, fun i j r u hr hu => ?_⟩
      rw [List.getElem?_map] at hr
      cases hpi : L[i]? with
      | none => rw [hpi] at hr; cases hr
      | some x =>
        rw [hpi] at hr
        cases hr
        have hc := (hq i x hpi).2 j u hu
        obtain ⟨_, _, hadd⟩ := plain_addr hc h00
        rw [hadd] at hc
        rw [show a.off + i * sz + j = a.off + (i * sz + j) from by omega]
        exact hc
    · obtain ⟨i, hi⟩ := List.mem_iff_getElem?.1 hx
      exact (hq i x hi).1

theorem trod_u64 {fuel : Nat} {cs : List Value} {y : DataW H × List MemPlace} (h : DataW.trod enc Tryz.prog w 0 (fun _ => true) true fuel 41 cs = some y) : ∃ n : Nat, cs = [.int .u64 n] ∧ n < 18446744073709551616 := by
  obtain ⟨z, hz, _, hwf⟩ := DataW.trod_int Tryz.underlying41 h
  have hzb : 0 ≤ z ∧ z ≤ 18446744073709551615 := by simpa [Lit.wf, IntKind.min, IntKind.max, IntKind.bits, IntKind.signed] using hwf
  exact ⟨z.toNat, by rw [hz]; congr 2; omega, by omega⟩
theorem trod_i64 {fuel : Nat} {cs : List Value} {y : DataW H × List MemPlace} (h : DataW.trod enc Tryz.prog w 0 (fun _ => true) true fuel 3 cs = some y) : ∃ z : Int, cs = [.int .i64 z] ∧ -9223372036854775808 ≤ z ∧ z ≤ 9223372036854775807 := by
  obtain ⟨z, hz, _, hwf⟩ := DataW.trod_int Tryz.underlying3 h
  have hzb : -9223372036854775808 ≤ z ∧ z ≤ 9223372036854775807 := by simpa [Lit.wf, IntKind.min, IntKind.max, IntKind.bits, IntKind.signed] using hwf
  exact ⟨z, hz, hzb⟩
end
section
variable {H : Type} {enc : TypeId × Value → H} {w : World}
theorem trod_bool1 {fuel : Nat} {cs : List Value} {y : DataW H × List MemPlace} (h : DataW.trod enc Tryz.prog w 0 (fun _ => true) true fuel 4 cs = some y) : ∃ b, cs = [.bool b] := by
  obtain ⟨b, hb, _⟩ := DataW.trod_bool Tryz.underlying4 h
  exact ⟨b, hb⟩
theorem trod_form {T St fuel : Nat} {c : Value} {y : DataW H × List MemPlace} (hT : Tryz.prog.underlying T = some (.slice St)) (h : DataW.trod enc Tryz.prog w 0 (fun _ => true) true fuel T [c] = some y) : ∃ A n k, c = .slice A n k := by
  rcases open_slice hT h with ⟨hcs, _⟩ | ⟨a, len, cap, m, q, D, Pl, hcs, _⟩
  · cases hcs; exact ⟨_, _, _, rfl⟩
  · cases hcs; exact ⟨_, _, _, rfl⟩
set_option maxRecDepth 100000 in
theorem open_kvar (fuel : Nat) (cs : List Value) (y : DataW H × List MemPlace) (h : DataW.trod enc Tryz.prog w 0 (fun _ => true) true fuel 60 cs = some y) (hl : cs.length = 3) : ∃ x : KVar, cs = kvarRow x ∧ (In64 x.limbs ∧ In64 x.mode) := by
  obtain ⟨xs, f, _, _, hlen, hxl, hfs⟩ := DataW.trod_struct Tryz.underlying60 h
  match cs, hl with
  | [c0, c1, c2], _ =>
    match xs, hxl with
    | [y0, y1, y2], _ =>
      have k_bool : Tryz.prog.cellsOf 4 = 1 := by kernel_rfl
      have k_int : Tryz.prog.cellsOf 3 = 1 := by kernel_rfl
      have t0 : DataW.trod enc Tryz.prog w 0 (fun _ => true) true f 3 (([c0, c1, c2].drop 0).take (Tryz.prog.cellsOf 3)) = some y0 := hfs 0 _ rfl
      have t1 : DataW.trod enc Tryz.prog w 0 (fun _ => true) true f 4 (([c0, c1, c2].drop 1).take (Tryz.prog.cellsOf 4)) = some y1 := hfs 1 _ rfl
      have t2 : DataW.trod enc Tryz.prog w 0 (fun _ => true) true f 3 (([c0, c1, c2].drop 2).take (Tryz.prog.cellsOf 3)) = some y2 := hfs 2 _ rfl
      rw [k_bool] at t1
      rw [k_int] at t0 t2
      simp only [List.drop_zero, List.drop_succ_cons, List.take_succ_cons, List.take_zero] at t0 t1 t2
      obtain ⟨a0, h0, b0⟩ := trod_i64 t0
      obtain ⟨a1, h1⟩ := trod_bool1 t1
      obtain ⟨a2, h2, b2⟩ := trod_i64 t2
      cases h0; cases h1; cases h2
      exact ⟨⟨a0, a1, a2⟩, rfl, ⟨b0, b2⟩⟩
set_option maxRecDepth 100000 in
theorem open_kop (fuel : Nat) (cs : List Value) (y : DataW H × List MemPlace) (h : DataW.trod enc Tryz.prog w 0 (fun _ => true) true fuel 43 cs = some y) (hl : cs.length = 7) : ∃ x : KOp, cs = kopRow x ∧ KOpOk x := by
  obtain ⟨xs, f, _, _, hlen, hxl, hfs⟩ := DataW.trod_struct Tryz.underlying43 h
  match cs, hl with
  | [c0, c1, c2, c3, c4, c5, c6], _ =>
    match xs, hxl with
    | [y0, y1, y2, y3, y4, y5, y6], _ =>
      have k_int : Tryz.prog.cellsOf 3 = 1 := by kernel_rfl
      have k_uint64 : Tryz.prog.cellsOf 41 = 1 := by kernel_rfl
      have t0 : DataW.trod enc Tryz.prog w 0 (fun _ => true) true f 3 (([c0, c1, c2, c3, c4, c5, c6].drop 0).take (Tryz.prog.cellsOf 3)) = some y0 := hfs 0 _ rfl
      have t1 : DataW.trod enc Tryz.prog w 0 (fun _ => true) true f 3 (([c0, c1, c2, c3, c4, c5, c6].drop 1).take (Tryz.prog.cellsOf 3)) = some y1 := hfs 1 _ rfl
      have t2 : DataW.trod enc Tryz.prog w 0 (fun _ => true) true f 3 (([c0, c1, c2, c3, c4, c5, c6].drop 2).take (Tryz.prog.cellsOf 3)) = some y2 := hfs 2 _ rfl
      have t3 : DataW.trod enc Tryz.prog w 0 (fun _ => true) true f 3 (([c0, c1, c2, c3, c4, c5, c6].drop 3).take (Tryz.prog.cellsOf 3)) = some y3 := hfs 3 _ rfl
      have t4 : DataW.trod enc Tryz.prog w 0 (fun _ => true) true f 3 (([c0, c1, c2, c3, c4, c5, c6].drop 4).take (Tryz.prog.cellsOf 3)) = some y4 := hfs 4 _ rfl
      have t5 : DataW.trod enc Tryz.prog w 0 (fun _ => true) true f 3 (([c0, c1, c2, c3, c4, c5, c6].drop 5).take (Tryz.prog.cellsOf 3)) = some y5 := hfs 5 _ rfl
      have t6 : DataW.trod enc Tryz.prog w 0 (fun _ => true) true f 41 (([c0, c1, c2, c3, c4, c5, c6].drop 6).take (Tryz.prog.cellsOf 41)) = some y6 := hfs 6 _ rfl
      rw [k_int] at t0 t1 t2 t3 t4 t5
      rw [k_uint64] at t6
      simp only [List.drop_zero, List.drop_succ_cons, List.take_succ_cons, List.take_zero] at t0 t1 t2 t3 t4 t5 t6
      obtain ⟨a0, h0, b0⟩ := trod_i64 t0
      obtain ⟨a1, h1, b1⟩ := trod_i64 t1
      obtain ⟨a2, h2, b2⟩ := trod_i64 t2
      obtain ⟨a3, h3, b3⟩ := trod_i64 t3
      obtain ⟨a4, h4, b4⟩ := trod_i64 t4
      obtain ⟨a5, h5, b5⟩ := trod_i64 t5
      obtain ⟨a6, h6, b6⟩ := trod_u64 t6
      cases h0; cases h1; cases h2; cases h3; cases h4; cases h5; cases h6
      exact ⟨⟨a0, a1, a2, a3, a4, a5, a6⟩, rfl, ⟨b0, b1, b2, b3, b4, b5, b6⟩⟩
set_option maxRecDepth 100000 in
theorem open_fct (fuel : Nat) (cs : List Value) (y : DataW H × List MemPlace) (h : DataW.trod enc Tryz.prog w 0 (fun _ => true) true fuel 45 cs = some y) (hl : cs.length = 3) : ∃ x : Fct, cs = factRow x ∧ FctOk x := by
  obtain ⟨xs, f, _, _, hlen, hxl, hfs⟩ := DataW.trod_struct Tryz.underlying45 h
  match cs, hl with
  | [c0, c1, c2], _ =>
    match xs, hxl with
    | [y0, y1, y2], _ =>
      have k_int : Tryz.prog.cellsOf 3 = 1 := by kernel_rfl
      have t0 : DataW.trod enc Tryz.prog w 0 (fun _ => true) true f 3 (([c0, c1, c2].drop 0).take (Tryz.prog.cellsOf 3)) = some y0 := hfs 0 _ rfl
      have t1 : DataW.trod enc Tryz.prog w 0 (fun _ => true) true f 3 (([c0, c1, c2].drop 1).take (Tryz.prog.cellsOf 3)) = some y1 := hfs 1 _ rfl
      have t2 : DataW.trod enc Tryz.prog w 0 (fun _ => true) true f 3 (([c0, c1, c2].drop 2).take (Tryz.prog.cellsOf 3)) = some y2 := hfs 2 _ rfl
      rw [k_int] at t0 t1 t2
      simp only [List.drop_zero, List.drop_succ_cons, List.take_succ_cons, List.take_zero] at t0 t1 t2
      obtain ⟨a0, h0, b0⟩ := trod_i64 t0
      obtain ⟨a1, h1, b1⟩ := trod_i64 t1
      obtain ⟨a2, h2, b2⟩ := trod_i64 t2
      cases h0; cases h1; cases h2
      exact ⟨⟨a0, a1, a2⟩, rfl, ⟨b0, b1, b2⟩⟩
theorem open_facts {A : Option Addr} {n c : Nat} {d : DataW H} {ps : List MemPlace} (h : DataW.Trod enc Tryz.prog w 0 (fun _ => true) true 39 (.slice A n c) d ps) :
    ∃ l : List Fct, FactsAt w (fun k => k < w.heap.size) (.slice A n c) l ∧ (∀ x ∈ l, FctOk x) ∧ l.length ≤ 9223372036854775807 :=
  open_rows factRow FctOk Tryz.underlying39 (by kernel_rfl) (by decide) (fun _ => rfl) open_fct h
theorem open_fact {cs : Array Value} {d : DataW H} {ps : List MemPlace} (h : DataW.Trod enc Tryz.prog w 0 (fun _ => true) true 45 (.agg cs) d ps) : ∃ f : Fct, cs = (factRow f).toArray ∧ FctOk f := by
  obtain ⟨fuel, hf⟩ := h
  obtain ⟨xs, f, _, _, hlen, hxl, hfs⟩ := DataW.trod_struct Tryz.underlying45 hf
  have hC : Tryz.prog.cellsOf 45 = 3 := by kernel_rfl
  rw [hC] at hlen
  obtain ⟨x, hx, hq⟩ := open_fct fuel cs.toList (d, ps) hf hlen
  exact ⟨x, by rw [← hx], hq⟩
set_option maxRecDepth 100000 in
theorem open_kern {cs : Array Value} {d : DataW H} {ps : List MemPlace} (h : DataW.Trod enc Tryz.prog w 0 (fun _ => true) true 25 (.agg cs) d ps) :
    ∃ (k : Krn) (Av Ao Ar : Option Addr) (nv cv no co nr cr : Nat), cs = #[.slice Av nv cv, .slice Ao no co, .slice Ar nr cr] ∧ KernAt w (fun k => k < w.heap.size) [.slice Av nv cv, .slice Ao no co, .slice Ar nr cr] k := by
  obtain ⟨fuel, hf⟩ := h
  obtain ⟨xs, f, _, _, hlen, hxl, hfs⟩ := DataW.trod_struct Tryz.underlying25 hf
  have hC : Tryz.prog.cellsOf 25 = 3 := by kernel_rfl
  rw [hC] at hlen
  have hcs : (Value.agg cs).cells.toList = cs.toList := rfl
  rw [hcs] at hlen hfs
  obtain ⟨l⟩ := cs
  simp only [] at hlen hfs
  match l, hlen with
  | [c0, c1, c2], _ =>
    match xs, hxl with
    | [y0, y1, y2], _ =>
      have t0 : DataW.trod enc Tryz.prog w 0 (fun _ => true) true f 22 (([c0, c1, c2].drop 0).take (Tryz.prog.cellsOf 22)) = some y0 := hfs 0 _ rfl
      have t1 : DataW.trod enc Tryz.prog w 0 (fun _ => true) true f 23 (([c0, c1, c2].drop 1).take (Tryz.prog.cellsOf 23)) = some y1 := hfs 1 _ rfl
      have t2 : DataW.trod enc Tryz.prog w 0 (fun _ => true) true f 23 (([c0, c1, c2].drop 2).take (Tryz.prog.cellsOf 23)) = some y2 := hfs 2 _ rfl
      have k0 : Tryz.prog.cellsOf 22 = 1 := by kernel_rfl
      have k1 : Tryz.prog.cellsOf 23 = 1 := by kernel_rfl
      rw [k0] at t0
      rw [k1] at t1 t2
      simp only [List.drop_zero, List.drop_succ_cons, List.take_succ_cons, List.take_zero] at t0 t1 t2
      obtain ⟨Av, nv, cv, rfl⟩ := trod_form Tryz.underlying22 t0
      obtain ⟨Ao, no, co, rfl⟩ := trod_form Tryz.underlying23 t1
      obtain ⟨Ar, nr, cr, rfl⟩ := trod_form Tryz.underlying23 t2
      obtain ⟨lv, hv, hvq, hvl⟩ := open_rows kvarRow (fun x : KVar => In64 x.limbs ∧ In64 x.mode) Tryz.underlying22 (by kernel_rfl) (by decide) (fun _ => rfl) open_kvar (d := y0.1) (ps := y0.2) ⟨f, t0⟩
      obtain ⟨lo, ho, hoq, hol⟩ := open_rows kopRow KOpOk Tryz.underlying23 (by kernel_rfl) (by decide) (fun _ => rfl) open_kop (d := y1.1) (ps := y1.2) ⟨f, t1⟩
      obtain ⟨lr, hr, hrq, hrl⟩ := open_rows kopRow KOpOk Tryz.underlying23 (by kernel_rfl) (by decide) (fun _ => rfl) open_kop (d := y2.1) (ps := y2.2) ⟨f, t2⟩
      exact ⟨⟨lv, lo, lr⟩, Av, Ao, Ar, nv, cv, no, co, nr, cr, rfl, ⟨⟨_, _, _, rfl, hv, ho, hr⟩, hvl, hol, hrl, hvq, hoq, hrq⟩⟩
end
end Go.Proofs.YtjbabpnepjhllaaGreat
