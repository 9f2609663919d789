/- alloc.Build, when a program and a pool may be. -/
import Derived.Test.YtppoiahhaclleaaDoorBuildC
namespace Go.Proofs.YtppoiahhaclleaaDoor
open Go.RowKit

theorem own_none (w : World) (g n : Nat) (xs : List Value) (hx : xs.length = n) (hn : n ≤ 65536) (h : w.heap[g]? = some (.cells xs.toArray 3 (0, 0))) : w.ownsRow g 3 1 (.slice (some ⟨g, 0, none⟩) 0 n) 0 [] :=
  ⟨rfl, .inr ⟨g, n, xs.toArray, rfl, Nat.le_refl _, h, Nat.zero_le _, by unfold maxLen; omega, by simp [hx], rfl⟩⟩
set_option maxRecDepth 100000 in
set_option maxHeartbeats 8000000 in
theorem Build_any (p : LP) (Ab Ao : Option Addr) (nb cb no co n pool : Nat) (pl : Nat → Int) (w : World) (hp : ProgAt w (fun k => k < w.heap.size) [.int .i64 p.regs, .slice Ab nb cb, .slice Ao no co] p) (h0 : (checkF p 64).2 = 0) (hn : p.regs = n) (hpl : pool ≤ 16)
    (hT : TzAt w) (hlen : (ordTo (spansF p) n).length < 20)
    (hkeep : Keeps (spansF p) (insF (keyF (spansF p)) 0 ((ordTo (spansF p) n).length - 1) 1 (ordTo (spansF p) n)) pool pl) :
    Calls Tryd.prog 13 #[.agg #[.int .i64 p.regs, .slice Ab nb cb, .slice Ao no co], .int .i64 (pool : Nat)] w fun e w' => ∃ go, e = .returned (.tuple #[.slice (some ⟨go, 0, none⟩) n n, .int .i64 0]) ∧ w.heap.size ≤ go ∧
      EndsAt w' go (OF (insF (keyF (spansF p)) 0 ((ordTo (spansF p) n).length - 1) 1 (ordTo (spansF p) n)) pl n (ordTo (spansF p) n).length) ∧ Below w.heap.size w w' := by
  obtain ⟨W, hW, hbW, hzW, hl_, hr_⟩ := boxed w #[.int .i64 p.regs, .slice Ab nb cb, .slice Ao no co] 25
  have c0 : W.cell? ⟨w.heap.size, 0, none⟩ = some (.int .i64 p.regs) := by rw [hl_]; rfl
  have c1 : W.cell? ⟨w.heap.size, 1, none⟩ = some (.slice Ab nb cb) := by rw [hl_]; rfl
  have c2 : W.cell? ⟨w.heap.size, 2, none⟩ = some (.slice Ao no co) := by rw [hl_]; rfl
  have hp1 := prog_next hp hbW
  have HC := Lib.hid (check_any p Ab Ao nb cb no co W hp1)
  have HSP := Lib.hid (fun wr (hb : Below W.heap.size W wr) => spans_any p Ab Ao nb cb no co n wr (prog_next hp1 hb) h0 hn)
  have HW := Lib.hid hW
  have HB := Lib.hid hbW
  have hn64 : n ≤ 64 := by have := (head_ok (check_run h0).1); omega
  have HLEN := Lib.hid (show (spansF p).length = n by rw [spans_len, hn]; rfl)
  have HKEEP := Lib.hid hkeep
  have HT := Lib.hid hT
  have HW0 := Lib.hid (show 0 < w.heap.size from by
    have := hT 0 (by decide)
    have := lt_cell this
    exact this)
  have HRG := Lib.hid hn
  obtain ⟨sp, hsp⟩ : ∃ sp, spansF p = sp := ⟨_, rfl⟩
  rw [hsp] at HSP HLEN HKEEP hlen ⊢
  obtain ⟨x, hx⟩ : ∃ x, (checkF p 64).1 = x := ⟨_, rfl⟩
  rw [hx, h0] at HC
  rw [hn] at c0 HC
  simp only [hn] at HSP
  have d1 : decide ((pool : Int) < 0) = false := decide_eq_false (by omega)
  have d2 : decide ((16 : Int) < (pool : Int)) = false := decide_eq_false (by omega)
  have d3 : ¬ 16 < pool := by omega
  have hlt : w.heap.size < W.heap.size := by omega
  have HLT := Lib.hid hlt
  clear hW hbW hzW hl_ hr_ hp hp1 hx h0 hn hkeep hT hlt hsp
  go_enter Tryd.func13, Tryd.ntmps13
  go_upto_region 1 with fail
  rw [← HW.out]
  go_upto_region 6 with ((with_reducible refine (HC.out).mono ?_); rintro e w1 ⟨rfl, hb1⟩; have HB1 := Lib.hid hb1; clear hb1)
  have HSP1 := Lib.hid (HSP.out w1 HB1.out)
  have e0 := (HB1.out.cell (p := ⟨w.heap.size, 0, none⟩) HLT.out).trans c0
  have e1 := (HB1.out.cell (p := ⟨w.heap.size, 1, none⟩) HLT.out).trans c1
  have e2 := (HB1.out.cell (p := ⟨w.heap.size, 2, none⟩) HLT.out).trans c2
  have HE0 := Lib.hid e0
  clear c0 c1 c2
  go_upto_region 7 with ((with_reducible refine (HSP1.out).mono ?_); rintro e w2 ⟨gs, rfl, hgs, hsp, hb2⟩; have HS2 := Lib.hid (And.intro hgs (And.intro hsp hb2)); clear hgs hsp hb2 e0 e1 e2)
  obtain ⟨gb, hgb⟩ : ∃ q, w2.heap.size = q := ⟨_, rfl⟩
  obtain ⟨W3, hW3⟩ : ∃ q, q = w2.alloc (.cells #[.slice (some ⟨gs, 0, none⟩) n n] 66) := ⟨_, rfl⟩
  rw [← hW3, hgb]
  have hb3 : Below w2.heap.size w2 W3 := by rw [hW3]; exact (Below.refl _ _).alloc (Nat.le_refl _) _
  have hz3 : W3.heap.size = gb + 1 := by rw [hW3, ← hgb]; simp
  have h3 : W3.heap[gb]? = some (.cells #[.slice (some ⟨gs, 0, none⟩) n n] 66 (0, 0)) := by rw [hW3, ← hgb]; exact heap_alloc_new w2 _
  have HK3 := Lib.hid (show KeysAt W3 gb gs n sp from ⟨by simp only [World.cell?, h3]; rfl, HS2.out.2.1.next hb3, HLEN.out⟩)
  have HGS := Lib.hid (show w1.heap.size ≤ gs ∧ gs < gb from ⟨HS2.out.1, by have := lt_of_block HS2.out.2.1; omega⟩)
  have HBW3 := Lib.hid (show Below w.heap.size w W3 from HB.out.trans ((HB1.out.trans ((HS2.out.2.2.trans (hb3.mono HS2.out.2.2.size)).mono HB1.out.size)).mono HB.out.size))
  have HW1 := Lib.hid (show w.heap.size < w1.heap.size from Nat.lt_of_lt_of_le HLT.out HB1.out.size)
  have e3 : W3.cell? ⟨w.heap.size, 0, none⟩ = some (.int .i64 n) := by
    rw [((HS2.out.2.2.trans (hb3.mono HS2.out.2.2.size)).cell (p := ⟨w.heap.size, 0, none⟩) HW1.out)]
    exact HE0.out
  obtain ⟨go, hgo⟩ : ∃ q, W3.heap.size = q := ⟨_, rfl⟩
  have hmk := make_ints n (by omega) W3
  obtain ⟨W4, hW4⟩ : ∃ q, q = W3.alloc (.cells (intV (List.replicate n 0)).toArray 3) := ⟨_, rfl⟩
  have hb4 : Below W3.heap.size W3 W4 := by rw [hW4]; exact (Below.refl _ _).alloc (Nat.le_refl _) _
  have h4 : W4.heap[go]? = some (.cells (intV (List.replicate n 0)).toArray 3 (0, 0)) := by rw [hW4, ← hgo]; exact heap_alloc_new W3 _
  have hz4 : W4.heap.size = go + 1 := by rw [hW4, ← hgo]; simp
  rw [← hW4, hgo] at hmk
  have e4 : W4.cell? ⟨w.heap.size, 0, none⟩ = some (.int .i64 n) := (hb4.cell (p := ⟨w.heap.size, 0, none⟩) (by have := HGS.out; have := HW1.out; simp only []; omega)).trans e3
  obtain ⟨g0, hg0⟩ : ∃ q, W4.heap.size = q := ⟨_, rfl⟩
  have hmk2 := make_none n (by omega) W4
  obtain ⟨W5, hW5⟩ : ∃ q, q = W4.alloc (.cells (intV (List.replicate n 0)).toArray 3) := ⟨_, rfl⟩
  have hb5 : Below W4.heap.size W4 W5 := by rw [hW5]; exact (Below.refl _ _).alloc (Nat.le_refl _) _
  have h5 : W5.heap[g0]? = some (.cells (intV (List.replicate n 0)).toArray 3 (0, 0)) := by rw [hW5, ← hg0]; exact heap_alloc_new W4 _
  have hz5 : W5.heap.size = g0 + 1 := by rw [hW5, ← hg0]; simp
  rw [← hW5, hg0] at hmk2
  have HZ := Lib.hid (show gb + 1 = go ∧ go + 1 = g0 ∧ W5.heap.size = g0 + 1 ∧ W3.heap.size = go ∧ W4.heap.size = g0 from ⟨by omega, by omega, hz5, hgo, hg0⟩)
  have HK5 := Lib.hid (show KeysAt W5 gb gs n sp from (HK3.out.next hb4).next hb5)
  have HEO := Lib.hid (show EndsAt W5 go (List.replicate n 0) from (hb5.block go (lt_of_block h4)).trans h4)
  have HOWN := Lib.hid (own_none W5 g0 n (intV (List.replicate n 0)) (by simp [intV]) (by omega) h5)
  have HBW5 := Lib.hid (show Below w.heap.size w W5 from HBW3.out.trans ((hb4.trans (hb5.mono hb4.size)).mono HBW3.out.size))
  have b5 := HK5.out.box
  clear hW3 hb3 hz3 h3 hb4 h4 hz4 hW4 hb5 h5 hz5 hW5 hg0 hgo hgb
  go_upto_region 8 with fail
  clear hmk e3
  go_upto_region 9 with fail
  clear hmk2 e4
  go_wp2
  refine wp_code (c := partL Tryd.f13 0) (by kernel_rfl) ?_
  refine build_l0 (gs := gs) (base := g0) (sp := sp) _ _ HK5.out.row ⟨HLEN.out, by omega⟩ ⟨by have := HGS.out; have := HZ.out; omega, by have := HZ.out; omega⟩ HOWN.out ?_
  intro g c v11 v12 v40 v41 v42 v43 v44 v45 v46 v47 v48 v49 v50 v51 w6 hb6 hown6
  clear b5
  obtain ⟨rest, hor, hgg⟩ := own_ord hown6
  have HGG := Lib.hid hgg
  have HOR := Lib.hid hor
  have HB6 := Lib.hid hb6
  have HK6 := Lib.hid (show KeysAt w6 gb gs n sp from KeysAt.chg HK5.out (F := fun j => g0 ≤ j) ⟨hb6.os, hb6.tape, hb6.output, hb6.size, fun j _ hj => hb6.block j (Nat.lt_of_not_le hj)⟩ (show ¬ g0 ≤ gb by have := HGS.out; have := HZ.out; omega) (show ¬ g0 ≤ gs by have := HGS.out; have := HZ.out; omega))
  obtain ⟨ln, hln⟩ : ∃ q, (ordTo sp n).length = q := ⟨_, rfl⟩
  rw [hln] at hlen HKEEP ⊢
  have hln1 : ln ≤ 1000 := by omega
  have HSO := Lib.hid (SortStable_any (n := ln) (c := c) (l := ordTo sp n) w6 HOR.out hln HK6.out (by omega) (by omega) (fun x hx => ord_mem x hx) ⟨by have := HGS.out; have := HZ.out; omega, by have := HGS.out; have := HZ.out; omega⟩ hlen)
  obtain ⟨ord, hord⟩ : ∃ q, insF (keyF sp) 0 (ln - 1) 1 (ordTo sp n) = q := ⟨_, rfl⟩
  have hol : ord.length = ln := by rw [← hord, insF_len, hln]
  have hpm : ord.Perm (ordTo sp n) := by
    rw [← hord]
    rcases Nat.eq_zero_or_pos ln with h | h
    · rw [h]; exact List.Perm.refl _
    · exact insF_perm (by rw [hln]; omega)
  have hom : ∀ x ∈ ord, 0 ≤ x ∧ x < (n : Int) := fun x hx => ord_mem x (hpm.mem_iff.1 hx)
  rw [hord] at HSO HKEEP
  have HORD := Lib.hid hord
  have HLN := Lib.hid hln
  have HOL := Lib.hid (And.intro hol hom)
  clear hb6 hown6 hor hgg hln hord hol hom hpm
  go_upto_region 16 with ((with_reducible refine (HSO.out).mono ?_); rintro e w7 ⟨rfl, h1, h2⟩; have H7 := Lib.hid (And.intro h1 h2); clear h1 h2)
  refine wp_code (c := partR Tryd.f13 16) (by kernel_rfl) ?_
  refine build_r16 (pool := pool) _ _ hpl ?_
  intro v55 v56 v57 v58 v59 w8 hw8
  have h7g : g < w7.heap.size := lt_of_block H7.out.1
  have hb8 : Below w7.heap.size w7 w8 := by rw [hw8]; exact (Below.refl _ _).alloc (Nat.le_refl _) _
  have hk8 : KeepAt w8 w7.heap.size (2 ^ pool - 1) 18446744073709551615 (.slice none 0 0) := by rw [hw8]; exact heap_alloc_new w7 _
  obtain ⟨kb, hkb⟩ : ∃ q, w7.heap.size = q := ⟨_, rfl⟩
  have hz8 : w8.heap.size = kb + 1 := by rw [hw8, ← hkb]; simp
  have hsz : W5.heap.size ≤ w6.heap.size ∧ w6.heap.size ≤ w7.heap.size := ⟨HB6.out.size, H7.out.2.size⟩
  have hall : w.heap.size < w1.heap.size ∧ w1.heap.size ≤ gs ∧ gs < gb ∧ gb < go ∧ go < g0 ∧ g0 ≤ g ∧ g < kb ∧ g0 < kb := by
    have := HZ.out; have := HGS.out; have := HGG.out; have := HW1.out
    omega
  have HALL := Lib.hid hall
  have HBW7 := Lib.hid (show Below w.heap.size w w7 from (HBW5.out.trans (HB6.out.mono (by omega))).trans (H7.out.2.below (B := w.heap.size) (fun j hj (e : j = g) => by omega) (Nat.le_trans HBW5.out.size hsz.1)))
  have HBW8 := Lib.hid (show Below w.heap.size w w8 from HBW7.out.trans (hb8.mono HBW7.out.size))
  have HK8 := Lib.hid (show KeysAt w8 gb gs n sp from (KeysAt.chg HK6.out H7.out.2 (by omega) (by omega)).next hb8)
  have HO8 := Lib.hid (show OrdAt w8 g ord rest from H7.out.1.next hb8)
  have HE8 := Lib.hid (show EndsAt w8 go (List.replicate n 0) from by
    have h6 : EndsAt w6 go (List.replicate n 0) := (HB6.out.block go (by omega)).trans HEO.out
    exact (hb8.block go (by omega)).trans (EndsAt.chg h6 H7.out.2 (by omega)))
  rw [hkb] at hk8 ⊢
  obtain ⟨St, hs0, hfr, htk, hst⟩ := HKEEP.out w8 kb gs g gb go w.heap.size hk8 (HT.out.next HBW8.out HW0.out) HW0.out HBW8.out.size (by omega) ⟨by omega, by omega, by omega, by omega⟩ ⟨by omega, by omega, by omega, by omega, by omega⟩
  have HST := Lib.hid (And.intro hs0 (And.intro hfr (And.intro htk hst)))
  clear hs0 hfr htk hst hall hsz hz8 hkb hk8 hb8 hw8 h7g
  go_wp2
  refine wp_code (c := partL Tryd.f13 2) (by kernel_rfl) ?_
  refine build_l2 (gs := gs) (m := n) (B := w.heap.size) (sp := sp) (ord := ord) (rest := rest) (O := OF ord pl n) (pl := pl) (St := St) _ _ HK8.out HO8.out HE8.out ⟨HOL.out.1, hln1, by omega⟩ HOL.out.2 HST.out.1 HST.out.2.1 HST.out.2.2.1 (fun k => ⟨OF_len, fun q hq => by rw [OF, List.getD_eq_getElem?_getD, hq]; rfl⟩) ⟨by have := HALL.out; omega, by have := HALL.out; omega, by have := HALL.out; omega, by have := HALL.out; omega⟩ HST.out.2.2.2 ?_
  intro v15 v62 v63 v64 v65 v66 v67 v68 v69 v70 v71 v72 v73 v74 v75 v76 v77 v78 v79 v80 v81 v82 v83 w9 h9
  have H9 := Lib.hid h9
  clear h9
  go_wp2
  go_ret2
  refine ⟨go, rfl, by have := HALL.out; omega, by rw [HLN.out, HORD.out]; exact H9.out.2.1, HBW8.out.trans (H9.out.1.below (B := w.heap.size) (fun j hj e => by have := e.1; omega) HBW8.out.size)⟩
end Go.Proofs.YtppoiahhaclleaaDoor
