/- MemoryScript, walked. -/
import Derived.Test.YtcciaihghhleoaaRefStore
import Derived.Test.YtcciaihghhleoaaActs
import Derived.Test.YtcciaihghhleoaaOne
import Derived.Test.YtcciaihghhleoaaPick
import Derived.Deep.DeepCutAuto
import Derived.Outline
namespace Go.Proofs.Ytcciaihghhleoaa
open Go.RowKit

/-- A memory, the reference's, and what was before they were made. -/
structure Two (w0 w : World) (m o : Value) (rm ro : List Reg) (s1 e1 s2 e2 : Nat) : Prop where
  mm : MemAt w (seg s1 e1) m rm
  oo : RMemAt w (seg s2 e2) o ro
  he1 : e1 ≤ w.heap.size
  he2 : e2 ≤ w.heap.size
  hs1 : w0.heap.size ≤ s1
  hs2 : w0.heap.size ≤ s2
  apart : e1 ≤ s2 ∨ e2 ≤ s1
  below : Below w0.heap.size w0 w
theorem Two.lt1 {w0 w : World} {m o : Value} {rm ro : List Reg} {s1 e1 s2 e2 : Nat} (h : Two w0 w m o rm ro s1 e1 s2 e2) : ∀ k, seg s1 e1 k → k < w.heap.size := fun _ hk => Nat.lt_of_lt_of_le hk.2 h.he1
theorem Two.lt2 {w0 w : World} {m o : Value} {rm ro : List Reg} {s1 e1 s2 e2 : Nat} (h : Two w0 w m o rm ro s1 e1 s2 e2) : ∀ k, seg s2 e2 k → k < w.heap.size := fun _ hk => Nat.lt_of_lt_of_le hk.2 h.he2
theorem Two.next {w0 w w' : World} {m o : Value} {rm ro : List Reg} {s1 e1 s2 e2 : Nat} (h : Two w0 w m o rm ro s1 e1 s2 e2) (hb : Below w.heap.size w w') : Two w0 w' m o rm ro s1 e1 s2 e2 :=
  ⟨h.mm.keep (SameOn.of_below hb h.lt1), h.oo.keep (SameOn.of_below hb h.lt2), Nat.le_trans h.he1 hb.size, Nat.le_trans h.he2 hb.size, h.hs1, h.hs2, h.apart, h.below.trans (hb.mono h.below.size)⟩
theorem Two.store1 {w0 w w' : World} {m o : Value} {rm ro rm' : List Reg} {s1 e1 s2 e2 : Nat} (h : Two w0 w m o rm ro s1 e1 s2 e2) (hc : Chg (seg s1 e1) w w') (hm : MemAt w' (seg s1 e1) m rm') : Two w0 w' m o rm' ro s1 e1 s2 e2 :=
  ⟨hm, h.oo.keep (hc.same fun k hk => ⟨h.lt2 k hk, fun h' => by have := h'.1; have := h'.2; have := hk.1; have := hk.2; have := h.apart; omega⟩), Nat.le_trans h.he1 hc.size, Nat.le_trans h.he2 hc.size, h.hs1, h.hs2, h.apart,
    h.below.trans (hc.below (fun k hk h' => by have := h'.1; have := h.hs1; omega) h.below.size)⟩
theorem Two.store2 {w0 w w' : World} {m o : Value} {rm ro ro' : List Reg} {s1 e1 s2 e2 : Nat} (h : Two w0 w m o rm ro s1 e1 s2 e2) (hc : Chg (seg s2 e2) w w') (hm : RMemAt w' (seg s2 e2) o ro') : Two w0 w' m o rm ro' s1 e1 s2 e2 :=
  ⟨h.mm.keep (hc.same fun k hk => ⟨h.lt1 k hk, fun h' => by have := h'.1; have := h'.2; have := hk.1; have := hk.2; have := h.apart; omega⟩), hm, Nat.le_trans h.he1 hc.size, Nat.le_trans h.he2 hc.size, h.hs1, h.hs2, h.apart,
    h.below.trans (hc.below (fun k hk h' => by have := h'.1; have := h.hs2; omega) h.below.size)⟩
theorem Two.clone {w0 w w' : World} {m o m' : Value} {rm ro rm' : List Reg} {s1 e1 s2 e2 s e : Nat} (h : Two w0 w m o rm ro s1 e1 s2 e2) (hm : MemAt w' (seg s e) m' rm') (hb : Below w.heap.size w w') (hs : w.heap.size ≤ s) (he : e ≤ w'.heap.size) : Two w0 w' m' o rm' ro s e s2 e2 :=
  ⟨hm, h.oo.keep (SameOn.of_below hb h.lt2), he, Nat.le_trans h.he2 hb.size, Nat.le_trans h.below.size hs, h.hs2, .inr (Nat.le_trans h.he2 hs), h.below.trans (hb.mono h.below.size)⟩

theorem RStore_says (p : Value) (w : World) (F : Nat → Prop) (rs : List Reg) (at_ v : Nat) (hat : at_ < 18446744073709551616) (hv : v < 18446744073709551616) (hm : RMemAt w F p rs) (hF : ∀ k, F k → k < w.heap.size) :
    Calls Try.prog 24 #[p, .int .u64 at_, .int .u64 v] w fun e w' => ∃ g rs2, e = .returned (.int .i64 g) ∧ StoreSays rs at_ v g rs2 ∧ RMemAt w' F p rs2 ∧ Chg F w w' := by
  refine (RStore_any p w F rs at_ v hat hv hm hF).mono ?_
  rintro e w' (⟨h0, rfl, hb⟩ | ⟨rs', h0, rfl, hm', hc⟩)
  · exact ⟨11, rs, rfl, .inl ⟨h0, rfl, rfl⟩, hm.keep (SameOn.of_below hb hF), .of_below hb⟩
  · exact ⟨0, rs', rfl, .inr ⟨h0, rfl⟩, hm', hc⟩

theorem lightR_bytes {l : List Reg} (h : lightR l = true) : ∀ r ∈ l, r.bytes.length ≤ 300 := by
  intro r hr
  simp only [lightR, Bool.and_eq_true, decide_eq_true_eq, List.all_eq_true] at h
  have : l.take 11 = l := List.take_of_length_le (by omega)
  rw [this] at h
  exact h.1 r hr

theorem Same_self (v u : Value) (w : World) (F : Nat → Prop) (a : List Reg) (hn : a.length ≤ 9223372036854775807) (ha : RegsAt w F v a) (hb : RegsAt w F u a) (hF : ∀ k, F k → k < w.heap.size) :
    Calls Try.prog 16 #[v, u] w fun e w' => e = .returned (.bool true) ∧ Below w.heap.size w w' :=
  (Same_any v u w F a a hn ha hb hF).mono fun _ _ ⟨h1, h2⟩ => ⟨by rw [h1, sameR_self], h2⟩

set_option maxRecDepth 100000 in
set_option maxHeartbeats 6400000 in
theorem script_walk (v u : Value) (l : List Reg) (acts : List ActX) (w : World) (hl : RegsAt w (fun k => k < w.heap.size) v l) (hn : l.length ≤ 9223372036854775807)
    (ha : Rows w (fun k => k < w.heap.size) 4 u (acts.map actRow) ∧ ∀ x ∈ acts, ActOk x) (hna : acts.length ≤ 9223372036854775807) :
    Calls Try.prog 7 #[v, u] w fun e w' => e = .returned (.bool true) ∧ Below w.heap.size w w' := by
  obtain ⟨A, c, rfl, hlc⟩ := hl.form
  obtain ⟨ha, hok⟩ := ha
  have ha' := ha
  obtain ⟨A2, c2, rfl, hc2, _, hne2⟩ := ha'
  have HL := Lib.hid hl
  have HA := Lib.hid ha
  have HOK := Lib.hid hok
  have HNE := Lib.hid hne2
  rw [List.length_map] at *
  clear hl ha hok hne2
  generalize hln : l.length = n at *
  generalize hlna : acts.length = na at *
  have HN := Lib.hid hln
  have HNA := Lib.hid hlna
  clear hln hlna
  go_enter Try.func7, Try.ntmps7
  go_wp2_with fail
  refine (lives_any _).mono ?_
  rintro e w1 ⟨rfl, hb1⟩
  have H1 := Lib.hid (Light_any _ w1 _ l (by rw [HN.out]; exact hn) (HL.out.next hb1))
  have HB1 := Lib.hid hb1
  clear hb1
  cases hlight : lightR l
  · rw [hlight] at H1
    go_wp2_with ((with_reducible refine (H1.out).mono ?_); rintro e w2 ⟨rfl, hb2⟩)
    go_ret
    exact ⟨rfl, HB1.out.trans (hb2.mono HB1.out.size)⟩
  · rw [hlight] at H1
    have hn10 : n ≤ 10 := by
      have h := hlight
      simp only [lightR, Bool.and_eq_true, decide_eq_true_eq] at h
      have := HN.out; omega
    have HLB := Lib.hid (lightR_bytes hlight)
    by_cases h60 : 60 < na
    · go_wp2_with ((with_reducible refine (H1.out).mono ?_); rintro e w2 ⟨rfl, hb2⟩)
      go_ret
      exact ⟨rfl, HB1.out.trans (hb2.mono HB1.out.size)⟩
    · have h60' : decide ((60 : Int) < (na : Int)) = false := by simp; omega
      go_wp2_with ((with_reducible refine (H1.out).mono ?_); rintro e w2 ⟨rfl, hb2⟩; have HB2 := Lib.hid (HB1.out.trans (hb2.mono HB1.out.size)); clear hb2; have HOR := Lib.hid (OwnRegions_any _ w2 _ l (HL.out.next HB2.out) (fun _ h => h) (by have := HN.out; omega) (fun r hr => by have := HLB.out r hr; omega)))
      refine HOR.out.mono ?_
      rintro e w3 ⟨vO, rfl, hown, hb3⟩
      have hbase : ∀ r ∈ l, r.base < 18446744073709551616 ∧ r.bytes.length ≤ 9223372036854775807 := fun r hr => by
        refine ⟨?_, by have := HLB.out r hr; omega⟩
        obtain ⟨P, hP, _, hs⟩ := HL.out
        rw [← hP] at hr
        obtain ⟨x, hx, rfl⟩ := List.mem_map.1 hr
        exact (hs x hx).base64
      have hat := hown.at_ hbase
      obtain ⟨AO, cO, rfl, _⟩ := hat.form
      have hlN : l.length = n := HN.out
      have HNEW := Lib.hid (New_any _ w3 _ l (by rw [HN.out]; exact hn) (hat.mono (G := fun k => k < w3.heap.size) (fun k hk => hk.2)) (fun _ h => h))
      have HB3 := Lib.hid (HB2.out.trans (hb3.mono HB2.out.size))
      clear hb3 hat hown hbase HOR HLB
      rw [hlN] at *
      clear hlN
      go_wp2_with fail
      refine HNEW.out.mono ?_
      rintro e w4 ⟨hb4, hres⟩
      have HB4 := Lib.hid (HB3.out.trans (hb4.mono HB3.out.size))
      have HSZ4 := Lib.hid (And.intro HB3.out.size hb4.size)
      have HRN := Lib.hid (RNew_any _ w4 _ l (by rw [HN.out]; exact hn) (HL.out.next HB4.out) (fun _ h => h))
      clear hb4 HNEW H1 HB1 HB2 HB3 hlight h60
      rcases hres with ⟨h0, rfl⟩ | ⟨h0, p, rfl, hm⟩
      · have H0 := Lib.hid h0
        go_wp2_with fail
        refine HRN.out.mono ?_
        rintro e w5 ⟨hb5, hres⟩
        rcases hres with ⟨_, rfl⟩ | ⟨h1, _⟩
        · have HB5 := Lib.hid (HB4.out.trans (hb5.mono HB4.out.size))
          have HC1 := Lib.hid (Check_any _ w5 _ l (by rw [HN.out]; exact hn) (HL.out.next HB5.out) (fun _ h => h))
          generalize hce : checkF l = ce at *
          have HCE := Lib.hid hce
          have b1 : (ce != ce) = false := by simp
          clear hb5 HRN HB4 h0 hce
          go_wp2_with fail
          refine HC1.out.mono ?_
          rintro e w6 ⟨rfl, hb6⟩
          have HB6 := Lib.hid (HB5.out.trans (hb6.mono HB5.out.size))
          have HC2 := Lib.hid (RefCheck_any _ w6 _ l (by rw [HN.out]; exact hn) (HL.out.next HB6.out) (fun _ h => h))
          rw [HCE.out] at HC2
          clear hb6 HC1
          go_wp2_with fail
          refine HC2.out.mono ?_
          rintro e w7 ⟨rfl, hb7⟩
          have HB7 := Lib.hid (HB6.out.trans (hb7.mono HB6.out.size))
          clear hb7 HC2
          go_wp2
          go_loopg [9] na (fun g i wx => g = na ∧ i = .int .i64 0 ∧ w7 = wx)
          case atStart => exact ⟨rfl, rfl, rfl⟩
          case round =>
            obtain ⟨hg, rfl, rfl⟩ := hrel
            clear hg
            by_cases hna0 : 0 < na
            · have hd : decide ((0 : Int) < (na : Int)) = true := by simp; omega
              go_wp2
              go_ret
              exact ⟨rfl, HB7.out⟩
            · obtain rfl : na = 0 := by omega
              go_wp2
              go_ret
              exact ⟨rfl, HB7.out⟩
        · exact absurd h1 H0.out
      · have H0 := Lib.hid h0
        go_wp2_with fail
        refine HRN.out.mono ?_
        rintro e w5 ⟨hb5, hres⟩
        rcases hres with ⟨h1, _⟩ | ⟨_, q, rfl, ho⟩
        · exact absurd H0.out h1
        · obtain ⟨bm, rfl⟩ : ∃ bm, p = .pointer (some ⟨bm, 0, none⟩) := by obtain ⟨bm, v, h, _⟩ := hm; exact ⟨bm, h⟩
          obtain ⟨bo, rfl⟩ : ∃ bo, q = .pointer (some ⟨bo, 0, none⟩) := by obtain ⟨bo, v, h, _⟩ := ho; exact ⟨bo, h⟩
          have HB5 := Lib.hid (HB4.out.trans (hb5.mono HB4.out.size))
          have HT5 := Lib.hid (Two.mk (w0 := w) (hm.keep (SameOn.of_below hb5 (fun k hk => hk.2))) ho hb5.size (Nat.le_refl _) HSZ4.out.1 (Nat.le_trans HSZ4.out.1 HSZ4.out.2) (.inl (Nat.le_refl _)) HB5.out)
          have HC1 := Lib.hid (Check_any _ w5 _ l (by rw [HN.out]; exact hn) (HL.out.next HB5.out) (fun _ h => h))
          rw [h0] at HC1
          generalize sortBy Reg.base l = rs at *
          clear hb5 HRN HB4 HB5 h0 hm ho HSZ4
          go_wp2_with fail
          refine HC1.out.mono ?_
          rintro e w6 ⟨rfl, hb6⟩
          have HT6 := Lib.hid (HT5.out.next hb6)
          have HC2 := Lib.hid (RefCheck_any _ w6 _ l (by rw [HN.out]; exact hn) (HL.out.next HT6.out.below) (fun _ h => h))
          rw [H0.out] at HC2
          clear hb6 HC1 HT5
          go_wp2_with fail
          refine HC2.out.mono ?_
          rintro e w7 ⟨rfl, hb7⟩
          have HT7 := Lib.hid (HT6.out.next hb7)
          clear hb7 HC2 HT6
          go_wp2
          go_loopg [5, 9] na (fun g m i wx => ∃ (k bm s1 e1 : Nat) (rs : List Reg), k ≤ na ∧ g = na - k ∧ m = .pointer (some ⟨bm, 0, none⟩) ∧ i = .int .i64 k ∧ Two w wx m (.pointer (some ⟨bo, 0, none⟩)) rs rs s1 e1 w4.heap.size w5.heap.size)
          case atStart => exact ⟨0, bm, _, _, rs, by omega, rfl, rfl, rfl, HT7.out⟩
          case round =>
            obtain ⟨k, bm, s1, e1, rs, hk, hg, rfl, rfl, ht⟩ := hrel
            have hg1 := Nat.le_of_eq hg
            have hg2 := Nat.le_of_eq hg.symm
            have HT := Lib.hid ht
            clear hg ht HT7
            by_cases hlt : k < na
            · obtain ⟨⟨xk, xa, xv, xn⟩, hx⟩ : ∃ x, acts[k]? = some x := ⟨_, List.getElem?_eq_getElem (by have := HNA.out; omega)⟩
              have hxo := HOK.out _ (List.mem_of_getElem? hx)
              obtain ⟨b, off, hA, hFb, hce⟩ := HNE.out (fun e => by have h1 : acts = [] := (by simpa using e); rw [h1] at hx; cases hx)
              cases hA
              have hri : (acts.map actRow)[k]? = some [.int .i64 xk, .int .u64 xa, .int .u64 xv, .int .i64 xn] := by rw [List.getElem?_map, hx]; rfl
              have h0 := hce k 0 _ _ hri rfl
              have h1 := hce k 1 _ _ hri rfl
              have h2 := hce k 2 _ _ hri rfl
              have h3 := hce k 3 _ _ hri rfl
              have hbw := HT.out.below
              rw [← hbw.cell (p := ⟨b, off + k * 4 + 0, none⟩) hFb] at h0
              rw [← hbw.cell (p := ⟨b, off + k * 4 + 1, none⟩) hFb] at h1
              rw [← hbw.cell (p := ⟨b, off + k * 4 + 2, none⟩) hFb] at h2
              rw [← hbw.cell (p := ⟨b, off + k * 4 + 3, none⟩) hFb] at h3
              simp only [Nat.add_zero] at h0
              have i0 : (0 : Int) ≤ (k : Int) := by omega
              have i1 : (k : Int) < (na : Int) := by omega
              have hxa : xa < 18446744073709551616 := hxo.at64
              have hxv : xv < 18446744073709551616 := hxo.v64
              have hxn : xn ≤ 9223372036854775807 := hxo.n64
              clear hri hx hxo hbw hce
              obtain ⟨W, hW, hbW, hszW, hnew, _⟩ := boxed wr #[.int .i64 xk, .int .u64 xa, .int .u64 xv, .int .i64 xn] 54
              have n0 : W.cell? ⟨wr.heap.size, 0, none⟩ = some (.int .i64 xk) := hnew 0
              have n1 : W.cell? ⟨wr.heap.size, 1, none⟩ = some (.int .u64 xa) := hnew 1
              have n2 : W.cell? ⟨wr.heap.size, 2, none⟩ = some (.int .u64 xv) := hnew 2
              have n3 : W.cell? ⟨wr.heap.size, 3, none⟩ = some (.int .i64 xn) := hnew 3
              have HTW := Lib.hid (HT.out.next hbW)
              have hlW : wr.heap.size < W.heap.size := by omega
              have hE1 := HT.out.he1
              have hE2 := HT.out.he2
              have HW := Lib.hid hW
              have keep : ∀ w_, Chg (fun k => seg s1 e1 k ∨ seg w4.heap.size w5.heap.size k) W w_ → w_.cell? ⟨wr.heap.size, 1, none⟩ = some (.int .u64 xa) ∧ w_.cell? ⟨wr.heap.size, 2, none⟩ = some (.int .u64 xv) := fun w_ hw_ => by
                have h1 := hw_.block wr.heap.size hlW (fun h => by rcases h with h | h <;> (have := h.2; omega))
                exact ⟨(show w_.cell? ⟨wr.heap.size, 1, none⟩ = W.cell? ⟨wr.heap.size, 1, none⟩ by simp [World.cell?, h1]).trans n1, (show w_.cell? ⟨wr.heap.size, 2, none⟩ = W.cell? ⟨wr.heap.size, 2, none⟩ by simp [World.cell?, h1]).trans n2⟩
              have KEEP := Lib.hid keep
              clear hW hnew hszW hbW keep HT
              go_wp2_with fail
              rw [← HW.out]
              refine (Pick_any xk 5 (by decide) (by decide) _).mono ?_
              rintro e w8 ⟨pk, hpk, rfl, rfl⟩
              clear HW h0 h1 h2 h3
              have HTD := Lib.hid (HTW.out.next ((Below.refl _ _).drew))
              have HE := Lib.hid (And.intro hE1 hE2)
              clear hE1 hE2
              generalize hz : (pk : Int) = z
              rcases (by omega : z = 0 ∨ z = 1 ∨ z = 2 ∨ z = 3 ∨ z = 4) with rfl | rfl | rfl | rfl | rfl
              · clear hz hpk
                go_wp2
                (refine wp_region_lines (fun w_ => Chg (fun k => seg s1 e1 k ∨ seg w4.heap.size w5.heap.size k) W w_) (by kernel_rfl) (by kernel_rfl) ((Chg.refl _ _).drew) ?_)
                (try simp only [])
                repeat (first | (refine runL_no (by rfl) ?_; (try simp only [Act.put, List.setIfInBounds_toArray, List.set_cons_zero, List.set_cons_succ])) | (refine runL_val (v := ?_) (by rfl) ?_ ?_; rotate_left; (focus (intro w_ hw_; obtain ⟨f1, f2⟩ := KEEP.out w_ hw_; go_simp; (try with_reducible rfl); done)); (try simp only [Act.put, List.setIfInBounds_toArray, List.set_cons_zero, List.set_cons_succ])) | (refine runL_call (f := ?_) (args := ?_) (w1 := ?_) (by rfl) (by rfl) ?_ ?_; rotate_left 3; (focus (go_simp; refine ⟨⟨?_, ?_⟩, ?_⟩ <;> with_reducible rfl)); refine (Store_says _ _ _ rs xa xv hxa hxv HTD.out.mm HTD.out.lt1).mono ?_; rintro e wA ⟨g1, rs2, rfl, hsay1, hm1, hc1⟩; have HX1 := Lib.hid (HTD.out.store1 hc1 hm1); have HSAY1 := Lib.hid hsay1; have HCA := Lib.hid ((((Chg.refl _ _).drew).trans (hc1.mono (fun k _ hk => .inl hk))) : Chg (fun k => seg s1 e1 k ∨ seg w4.heap.size w5.heap.size k) W wA); clear hsay1 hm1 hc1; refine ⟨_, rfl, .inr HCA.out, ?_⟩; (try simp only [Act.put, List.setIfInBounds_toArray, List.set_cons_zero, List.set_cons_succ])) | (refine runL_call (f := ?_) (args := ?_) (w1 := ?_) (by rfl) (by rfl) ?_ ?_; rotate_left 3; (focus (go_simp; refine ⟨⟨?_, ?_⟩, ?_⟩ <;> with_reducible rfl)); refine (RStore_says _ _ _ rs xa xv hxa hxv HX1.out.oo HX1.out.lt2).mono ?_; rintro e wB ⟨g2, rs3, rfl, hsay2, hm2, hc2⟩; obtain ⟨rfl, rfl⟩ := HSAY1.out.same hsay2; have HX2 := Lib.hid (HX1.out.store2 hc2 hm2); have HCB := Lib.hid (HCA.out.trans (hc2.mono (fun k _ hk => .inr hk))); clear hsay2 hm2 hc2; refine ⟨_, rfl, .inr HCB.out, ?_⟩; (try simp only [Act.put, List.setIfInBounds_toArray, List.set_cons_zero, List.set_cons_succ])))
                (refine runL_nil ?_)
                have hoo := HX2.out.oo
                obtain ⟨bo', v', hbo, hFo, hblk, hown, hgood⟩ := hoo
                cases hbo
                obtain ⟨A6, c6, rfl, _⟩ := (hown.at_ hgood.base).form
                have d0 : wB.cell? ⟨bo, 0, none⟩ = some (.slice A6 rs3.length c6) := by simp [World.cell?, hblk]
                have dl := lt_of_block hblk
                have HRA := Lib.hid (hown.at_ hgood.base)
                have HGB := Lib.hid hgood
                clear hblk hown hgood hFo
                go_wp2
                (refine wp_region_lines (Below wB.heap.size wB) (by kernel_rfl) (by kernel_rfl) (Below.refl _ _).drew ?_)
                have hS := (Below.refl wB.heap.size wB).drew
                (try simp only [])
                repeat (first | (refine runL_no (by rfl) ?_; (try simp only [Act.put, List.setIfInBounds_toArray, List.set_cons_zero, List.set_cons_succ])) | (refine runL_val (v := ?_) (by rfl) ?_ ?_; rotate_left; (focus (intro w_ hw_; have hc_ := bcell hw_; go_simp; (try with_reducible rfl); done)); (try simp only [Act.put, List.setIfInBounds_toArray, List.set_cons_zero, List.set_cons_succ])) | (refine runL_call (f := ?_) (args := ?_) (w1 := ?_) (by rfl) (by rfl) ?_ ?_; rotate_left 3; (focus (go_simp; refine ⟨⟨?_, ?_⟩, ?_⟩ <;> with_reducible rfl)); refine (Regions_any _ _ _ _ (HX2.out.next hS).mm (HX2.out.next hS).lt1).mono ?_; rintro e wA ⟨vR, rfl, hownR, hb1⟩; obtain ⟨AR, cR, rfl, _⟩ := (hownR.at_ HGB.out.base).form; have HRR := Lib.hid ((hownR.at_ HGB.out.base).mono (G := fun k => k < wA.heap.size) (fun k hk => hk.2)); have HRO := Lib.hid ((HRA.out.keep (SameOn.of_below (hS.trans (hb1.mono hS.size)) HX2.out.lt2)).mono (G := fun k => k < wA.heap.size) (fun k hk => Nat.lt_of_lt_of_le (HX2.out.lt2 k hk) (Nat.le_trans hS.size hb1.size))); clear hownR; replace hS := hS.trans (hb1.mono hS.size); refine ⟨_, rfl, .inr hS, ?_⟩; clear hb1; (try simp only [Act.put, List.setIfInBounds_toArray, List.set_cons_zero, List.set_cons_succ])) | (refine runL_call (f := ?_) (args := ?_) (w1 := ?_) (by rfl) (by rfl) ?_ ?_; rotate_left 3; (focus (go_simp; refine ⟨⟨?_, ?_⟩, ?_⟩ <;> with_reducible rfl)); refine (Same_self _ _ _ _ rs3 (by have := HGB.out.len; omega) HRR.out HRO.out (fun _ h => h)).mono ?_; rintro e wB ⟨rfl, hb1⟩; replace hS := hS.trans (hb1.mono hS.size); refine ⟨_, rfl, .inr hS, ?_⟩; clear hb1; (try simp only [Act.put, List.setIfInBounds_toArray, List.set_cons_zero, List.set_cons_succ])))
                (refine runL_nil ?_)
                have HTE := Lib.hid (HX2.out.next hS)
                clear hS HRR HRO HRA d0 dl
                go_wp2
                go_roundg (na - (k + 1))
                case measure => omega
                case rel => exact ⟨k + 1, _, _, _, _, by omega, rfl, rfl, by go_num, HTE.out⟩
              · clear hz hpk
                go_wp2
                (refine wp_region_lines (fun w_ => Chg (fun k => seg s1 e1 k ∨ seg w4.heap.size w5.heap.size k) W w_) (by kernel_rfl) (by kernel_rfl) ((Chg.refl _ _).drew) ?_)
                (try simp only [])
                repeat (first | (refine runL_no (by rfl) ?_; (try simp only [Act.put, List.setIfInBounds_toArray, List.set_cons_zero, List.set_cons_succ])) | (refine runL_val (v := ?_) (by rfl) ?_ ?_; rotate_left; (focus (intro w_ hw_; obtain ⟨f1, f2⟩ := KEEP.out w_ hw_; go_simp; (try with_reducible rfl); done)); (try simp only [Act.put, List.setIfInBounds_toArray, List.set_cons_zero, List.set_cons_succ])) | (refine runL_call (f := ?_) (args := ?_) (w1 := ?_) (by rfl) (by rfl) ?_ ?_; rotate_left 3; (focus (go_simp; refine ⟨⟨?_, ?_⟩, ?_⟩ <;> with_reducible rfl)); refine (Store_says _ _ _ rs xa xv hxa hxv HTD.out.mm HTD.out.lt1).mono ?_; rintro e wA ⟨g1, rs2, rfl, hsay1, hm1, hc1⟩; have HX1 := Lib.hid (HTD.out.store1 hc1 hm1); have HSAY1 := Lib.hid hsay1; have HCA := Lib.hid ((((Chg.refl _ _).drew).trans (hc1.mono (fun k _ hk => .inl hk))) : Chg (fun k => seg s1 e1 k ∨ seg w4.heap.size w5.heap.size k) W wA); clear hsay1 hm1 hc1; refine ⟨_, rfl, .inr HCA.out, ?_⟩; (try simp only [Act.put, List.setIfInBounds_toArray, List.set_cons_zero, List.set_cons_succ])) | (refine runL_call (f := ?_) (args := ?_) (w1 := ?_) (by rfl) (by rfl) ?_ ?_; rotate_left 3; (focus (go_simp; refine ⟨⟨?_, ?_⟩, ?_⟩ <;> with_reducible rfl)); refine (RStore_says _ _ _ rs xa xv hxa hxv HX1.out.oo HX1.out.lt2).mono ?_; rintro e wB ⟨g2, rs3, rfl, hsay2, hm2, hc2⟩; obtain ⟨rfl, rfl⟩ := HSAY1.out.same hsay2; have HX2 := Lib.hid (HX1.out.store2 hc2 hm2); have HCB := Lib.hid (HCA.out.trans (hc2.mono (fun k _ hk => .inr hk))); clear hsay2 hm2 hc2; refine ⟨_, rfl, .inr HCB.out, ?_⟩; (try simp only [Act.put, List.setIfInBounds_toArray, List.set_cons_zero, List.set_cons_succ])))
                (refine runL_nil ?_)
                have hoo := HX2.out.oo
                obtain ⟨bo', v', hbo, hFo, hblk, hown, hgood⟩ := hoo
                cases hbo
                obtain ⟨A6, c6, rfl, _⟩ := (hown.at_ hgood.base).form
                have d0 : wB.cell? ⟨bo, 0, none⟩ = some (.slice A6 rs3.length c6) := by simp [World.cell?, hblk]
                have dl := lt_of_block hblk
                have HRA := Lib.hid (hown.at_ hgood.base)
                have HGB := Lib.hid hgood
                clear hblk hown hgood hFo
                go_wp2
                (refine wp_region_lines (Below wB.heap.size wB) (by kernel_rfl) (by kernel_rfl) (Below.refl _ _).drew ?_)
                have hS := (Below.refl wB.heap.size wB).drew
                (try simp only [])
                repeat (first | (refine runL_no (by rfl) ?_; (try simp only [Act.put, List.setIfInBounds_toArray, List.set_cons_zero, List.set_cons_succ])) | (refine runL_val (v := ?_) (by rfl) ?_ ?_; rotate_left; (focus (intro w_ hw_; have hc_ := bcell hw_; go_simp; (try with_reducible rfl); done)); (try simp only [Act.put, List.setIfInBounds_toArray, List.set_cons_zero, List.set_cons_succ])) | (refine runL_call (f := ?_) (args := ?_) (w1 := ?_) (by rfl) (by rfl) ?_ ?_; rotate_left 3; (focus (go_simp; refine ⟨⟨?_, ?_⟩, ?_⟩ <;> with_reducible rfl)); refine (Regions_any _ _ _ _ (HX2.out.next hS).mm (HX2.out.next hS).lt1).mono ?_; rintro e wA ⟨vR, rfl, hownR, hb1⟩; obtain ⟨AR, cR, rfl, _⟩ := (hownR.at_ HGB.out.base).form; have HRR := Lib.hid ((hownR.at_ HGB.out.base).mono (G := fun k => k < wA.heap.size) (fun k hk => hk.2)); have HRO := Lib.hid ((HRA.out.keep (SameOn.of_below (hS.trans (hb1.mono hS.size)) HX2.out.lt2)).mono (G := fun k => k < wA.heap.size) (fun k hk => Nat.lt_of_lt_of_le (HX2.out.lt2 k hk) (Nat.le_trans hS.size hb1.size))); clear hownR; replace hS := hS.trans (hb1.mono hS.size); refine ⟨_, rfl, .inr hS, ?_⟩; clear hb1; (try simp only [Act.put, List.setIfInBounds_toArray, List.set_cons_zero, List.set_cons_succ])) | (refine runL_call (f := ?_) (args := ?_) (w1 := ?_) (by rfl) (by rfl) ?_ ?_; rotate_left 3; (focus (go_simp; refine ⟨⟨?_, ?_⟩, ?_⟩ <;> with_reducible rfl)); refine (Same_self _ _ _ _ rs3 (by have := HGB.out.len; omega) HRR.out HRO.out (fun _ h => h)).mono ?_; rintro e wB ⟨rfl, hb1⟩; replace hS := hS.trans (hb1.mono hS.size); refine ⟨_, rfl, .inr hS, ?_⟩; clear hb1; (try simp only [Act.put, List.setIfInBounds_toArray, List.set_cons_zero, List.set_cons_succ])))
                (refine runL_nil ?_)
                have HTE := Lib.hid (HX2.out.next hS)
                clear hS HRR HRO HRA d0 dl
                go_wp2
                go_roundg (na - (k + 1))
                case measure => omega
                case rel => exact ⟨k + 1, _, _, _, _, by omega, rfl, rfl, by go_num, HTE.out⟩
              · clear hz hpk
                have hl1 := Load_any _ W _ rs xa hxa HTW.out.mm HTW.out.lt1
                have hl2 := fun (w_ : World) (h : Two w w_ (.pointer (some ⟨bm, 0, none⟩)) (.pointer (some ⟨bo, 0, none⟩)) rs rs s1 e1 w4.heap.size w5.heap.size) => RLoad_any _ w_ _ rs xa hxa h.oo
                cases hlf : loadF rs xa with
                | none =>
                  rw [hlf] at hl1
                  simp only [hlf, loadOut] at hl1 hl2
                  have HL1 := Lib.hid hl1
                  have HL2 := Lib.hid hl2
                  clear hl1 hl2
                  go_wp2_with fail
                  refine HL1.out.mono ?_
                  rintro e wA ⟨rfl, hbA⟩
                  have HTA := Lib.hid (HTW.out.next hbA)
                  have n1' := (hbA.cell (p := ⟨wr.heap.size, 1, none⟩) hlW).trans n1
                  have n3' := (hbA.cell (p := ⟨wr.heap.size, 3, none⟩) hlW).trans n3
                  clear hbA n0 n1 n2 n3
                  go_wp2_with fail
                  refine (HL2.out wA HTA.out).mono ?_
                  rintro e wB ⟨rfl, hbB⟩
                  have HTB := Lib.hid (HTA.out.next hbB)
                  clear hbB n1' n3' HL1 HL2
                  have hoo := HTB.out.oo
                  obtain ⟨bo', v', hbo, hFo, hblk, hown, hgood⟩ := hoo
                  cases hbo
                  obtain ⟨A6, c6, rfl, _⟩ := (hown.at_ hgood.base).form
                  have d0 : wB.cell? ⟨bo, 0, none⟩ = some (.slice A6 rs.length c6) := by simp [World.cell?, hblk]
                  have dl := lt_of_block hblk
                  have HRA := Lib.hid (hown.at_ hgood.base)
                  have HGB := Lib.hid hgood
                  clear hblk hown hgood hFo
                  go_wp2
                  (refine wp_region_lines (Below wB.heap.size wB) (by kernel_rfl) (by kernel_rfl) (Below.refl _ _).drew ?_)
                  have hS := (Below.refl wB.heap.size wB).drew
                  (try simp only [])
                  repeat (first | (refine runL_no (by rfl) ?_; (try simp only [Act.put, List.setIfInBounds_toArray, List.set_cons_zero, List.set_cons_succ])) | (refine runL_val (v := ?_) (by rfl) ?_ ?_; rotate_left; (focus (intro w_ hw_; have hc_ := bcell hw_; go_simp; (try with_reducible rfl); done)); (try simp only [Act.put, List.setIfInBounds_toArray, List.set_cons_zero, List.set_cons_succ])) | (refine runL_call (f := ?_) (args := ?_) (w1 := ?_) (by rfl) (by rfl) ?_ ?_; rotate_left 3; (focus (go_simp; refine ⟨⟨?_, ?_⟩, ?_⟩ <;> with_reducible rfl)); refine (Regions_any _ _ _ _ (HTB.out.next hS).mm (HTB.out.next hS).lt1).mono ?_; rintro e wA ⟨vR, rfl, hownR, hb1⟩; obtain ⟨AR, cR, rfl, _⟩ := (hownR.at_ HGB.out.base).form; have HRR := Lib.hid ((hownR.at_ HGB.out.base).mono (G := fun k => k < wA.heap.size) (fun k hk => hk.2)); have HRO := Lib.hid ((HRA.out.keep (SameOn.of_below (hS.trans (hb1.mono hS.size)) HTB.out.lt2)).mono (G := fun k => k < wA.heap.size) (fun k hk => Nat.lt_of_lt_of_le (HTB.out.lt2 k hk) (Nat.le_trans hS.size hb1.size))); clear hownR; replace hS := hS.trans (hb1.mono hS.size); refine ⟨_, rfl, .inr hS, ?_⟩; clear hb1; (try simp only [Act.put, List.setIfInBounds_toArray, List.set_cons_zero, List.set_cons_succ])) | (refine runL_call (f := ?_) (args := ?_) (w1 := ?_) (by rfl) (by rfl) ?_ ?_; rotate_left 3; (focus (go_simp; refine ⟨⟨?_, ?_⟩, ?_⟩ <;> with_reducible rfl)); refine (Same_self _ _ _ _ rs (by have := HGB.out.len; omega) HRR.out HRO.out (fun _ h => h)).mono ?_; rintro e wB ⟨rfl, hb1⟩; replace hS := hS.trans (hb1.mono hS.size); refine ⟨_, rfl, .inr hS, ?_⟩; clear hb1; (try simp only [Act.put, List.setIfInBounds_toArray, List.set_cons_zero, List.set_cons_succ])))
                  (refine runL_nil ?_)
                  have HTE := Lib.hid (HTB.out.next hS)
                  clear hS HRR HRO HRA d0 dl
                  go_wp2
                  go_roundg (na - (k + 1))
                  case measure => omega
                  case rel => exact ⟨k + 1, _, _, _, _, by omega, rfl, rfl, by go_num, HTE.out⟩
                | some vv =>
                  rw [hlf] at hl1
                  simp only [hlf, loadOut] at hl1 hl2
                  have b1 : (vv != vv) = false := by simp
                  have b2 : ((vv : Int) != (vv : Int)) = false := by simp
                  have HL1 := Lib.hid hl1
                  have HL2 := Lib.hid hl2
                  clear hl1 hl2
                  go_wp2_with fail
                  refine HL1.out.mono ?_
                  rintro e wA ⟨rfl, hbA⟩
                  have HTA := Lib.hid (HTW.out.next hbA)
                  have n1' := (hbA.cell (p := ⟨wr.heap.size, 1, none⟩) hlW).trans n1
                  have n3' := (hbA.cell (p := ⟨wr.heap.size, 3, none⟩) hlW).trans n3
                  clear hbA n0 n1 n2 n3
                  go_wp2_with fail
                  refine (HL2.out wA HTA.out).mono ?_
                  rintro e wB ⟨rfl, hbB⟩
                  have HTB := Lib.hid (HTA.out.next hbB)
                  clear hbB n1' n3' HL1 HL2
                  have hoo := HTB.out.oo
                  obtain ⟨bo', v', hbo, hFo, hblk, hown, hgood⟩ := hoo
                  cases hbo
                  obtain ⟨A6, c6, rfl, _⟩ := (hown.at_ hgood.base).form
                  have d0 : wB.cell? ⟨bo, 0, none⟩ = some (.slice A6 rs.length c6) := by simp [World.cell?, hblk]
                  have dl := lt_of_block hblk
                  have HRA := Lib.hid (hown.at_ hgood.base)
                  have HGB := Lib.hid hgood
                  clear hblk hown hgood hFo
                  go_wp2
                  (refine wp_region_lines (Below wB.heap.size wB) (by kernel_rfl) (by kernel_rfl) (Below.refl _ _).drew ?_)
                  have hS := (Below.refl wB.heap.size wB).drew
                  (try simp only [])
                  repeat (first | (refine runL_no (by rfl) ?_; (try simp only [Act.put, List.setIfInBounds_toArray, List.set_cons_zero, List.set_cons_succ])) | (refine runL_val (v := ?_) (by rfl) ?_ ?_; rotate_left; (focus (intro w_ hw_; have hc_ := bcell hw_; go_simp; (try with_reducible rfl); done)); (try simp only [Act.put, List.setIfInBounds_toArray, List.set_cons_zero, List.set_cons_succ])) | (refine runL_call (f := ?_) (args := ?_) (w1 := ?_) (by rfl) (by rfl) ?_ ?_; rotate_left 3; (focus (go_simp; refine ⟨⟨?_, ?_⟩, ?_⟩ <;> with_reducible rfl)); refine (Regions_any _ _ _ _ (HTB.out.next hS).mm (HTB.out.next hS).lt1).mono ?_; rintro e wA ⟨vR, rfl, hownR, hb1⟩; obtain ⟨AR, cR, rfl, _⟩ := (hownR.at_ HGB.out.base).form; have HRR := Lib.hid ((hownR.at_ HGB.out.base).mono (G := fun k => k < wA.heap.size) (fun k hk => hk.2)); have HRO := Lib.hid ((HRA.out.keep (SameOn.of_below (hS.trans (hb1.mono hS.size)) HTB.out.lt2)).mono (G := fun k => k < wA.heap.size) (fun k hk => Nat.lt_of_lt_of_le (HTB.out.lt2 k hk) (Nat.le_trans hS.size hb1.size))); clear hownR; replace hS := hS.trans (hb1.mono hS.size); refine ⟨_, rfl, .inr hS, ?_⟩; clear hb1; (try simp only [Act.put, List.setIfInBounds_toArray, List.set_cons_zero, List.set_cons_succ])) | (refine runL_call (f := ?_) (args := ?_) (w1 := ?_) (by rfl) (by rfl) ?_ ?_; rotate_left 3; (focus (go_simp; refine ⟨⟨?_, ?_⟩, ?_⟩ <;> with_reducible rfl)); refine (Same_self _ _ _ _ rs (by have := HGB.out.len; omega) HRR.out HRO.out (fun _ h => h)).mono ?_; rintro e wB ⟨rfl, hb1⟩; replace hS := hS.trans (hb1.mono hS.size); refine ⟨_, rfl, .inr hS, ?_⟩; clear hb1; (try simp only [Act.put, List.setIfInBounds_toArray, List.set_cons_zero, List.set_cons_succ])))
                  (refine runL_nil ?_)
                  have HTE := Lib.hid (HTB.out.next hS)
                  clear hS HRR HRO HRA d0 dl
                  go_wp2
                  go_roundg (na - (k + 1))
                  case measure => omega
                  case rel => exact ⟨k + 1, _, _, _, _, by omega, rfl, rfl, by go_num, HTE.out⟩
              · clear hz hpk
                by_cases hneg : xn < 0
                · have hl1 := Bytes_neg bm W xa xn hneg
                  have hl2 := fun (w_ : World) (_ : Two w w_ (.pointer (some ⟨bm, 0, none⟩)) (.pointer (some ⟨bo, 0, none⟩)) rs rs s1 e1 w4.heap.size w5.heap.size) => RBytes_neg (.pointer (some ⟨bo, 0, none⟩)) w_ xa xn hneg
                  simp only [strV] at hl1 hl2
                  have HL1 := Lib.hid hl1
                  have HL2 := Lib.hid hl2
                  clear hl1 hl2 hneg
                  go_wp2_with fail
                  refine HL1.out.mono ?_
                  rintro e wA ⟨rfl, rfl⟩
                  go_wp2_with fail
                  refine (HL2.out _ HTW.out).mono ?_
                  rintro e wB ⟨rfl, rfl⟩
                  have hoo := HTW.out.oo
                  obtain ⟨bo', v', hbo, hFo, hblk, hown, hgood⟩ := hoo
                  cases hbo
                  obtain ⟨A6, c6, rfl, _⟩ := (hown.at_ hgood.base).form
                  have d0 : W.cell? ⟨bo, 0, none⟩ = some (.slice A6 rs.length c6) := by simp [World.cell?, hblk]
                  have dl := lt_of_block hblk
                  have HRA := Lib.hid (hown.at_ hgood.base)
                  have HGB := Lib.hid hgood
                  clear hblk hown hgood hFo
                  go_wp2
                  (refine wp_region_lines (Below W.heap.size W) (by kernel_rfl) (by kernel_rfl) (Below.refl _ _).drew ?_)
                  have hS := (Below.refl W.heap.size W).drew
                  (try simp only [])
                  repeat (first | (refine runL_no (by rfl) ?_; (try simp only [Act.put, List.setIfInBounds_toArray, List.set_cons_zero, List.set_cons_succ])) | (refine runL_val (v := ?_) (by rfl) ?_ ?_; rotate_left; (focus (intro w_ hw_; have hc_ := bcell hw_; go_simp; (try with_reducible rfl); done)); (try simp only [Act.put, List.setIfInBounds_toArray, List.set_cons_zero, List.set_cons_succ])) | (refine runL_call (f := ?_) (args := ?_) (w1 := ?_) (by rfl) (by rfl) ?_ ?_; rotate_left 3; (focus (go_simp; refine ⟨⟨?_, ?_⟩, ?_⟩ <;> with_reducible rfl)); refine (Regions_any _ _ _ _ (HTW.out.next hS).mm (HTW.out.next hS).lt1).mono ?_; rintro e wA ⟨vR, rfl, hownR, hb1⟩; obtain ⟨AR, cR, rfl, _⟩ := (hownR.at_ HGB.out.base).form; have HRR := Lib.hid ((hownR.at_ HGB.out.base).mono (G := fun k => k < wA.heap.size) (fun k hk => hk.2)); have HRO := Lib.hid ((HRA.out.keep (SameOn.of_below (hS.trans (hb1.mono hS.size)) HTW.out.lt2)).mono (G := fun k => k < wA.heap.size) (fun k hk => Nat.lt_of_lt_of_le (HTW.out.lt2 k hk) (Nat.le_trans hS.size hb1.size))); clear hownR; replace hS := hS.trans (hb1.mono hS.size); refine ⟨_, rfl, .inr hS, ?_⟩; clear hb1; (try simp only [Act.put, List.setIfInBounds_toArray, List.set_cons_zero, List.set_cons_succ])) | (refine runL_call (f := ?_) (args := ?_) (w1 := ?_) (by rfl) (by rfl) ?_ ?_; rotate_left 3; (focus (go_simp; refine ⟨⟨?_, ?_⟩, ?_⟩ <;> with_reducible rfl)); refine (Same_self _ _ _ _ rs (by have := HGB.out.len; omega) HRR.out HRO.out (fun _ h => h)).mono ?_; rintro e wB ⟨rfl, hb1⟩; replace hS := hS.trans (hb1.mono hS.size); refine ⟨_, rfl, .inr hS, ?_⟩; clear hb1; (try simp only [Act.put, List.setIfInBounds_toArray, List.set_cons_zero, List.set_cons_succ])))
                  (refine runL_nil ?_)
                  have HTE := Lib.hid (HTW.out.next hS)
                  clear hS HRR HRO HRA d0 dl
                  go_wp2
                  go_roundg (na - (k + 1))
                  case measure => omega
                  case rel => exact ⟨k + 1, _, _, _, _, by omega, rfl, rfl, by go_num, HTE.out⟩
                · obtain ⟨nn, rfl⟩ : ∃ nn : Nat, xn = nn := ⟨xn.toNat, by omega⟩
                  clear hneg
                  have hl1 := Bytes_any _ W _ rs xa nn (by omega) hxa HTW.out.mm HTW.out.lt1
                  have hl2 := fun (w_ : World) (h : Two w w_ (.pointer (some ⟨bm, 0, none⟩)) (.pointer (some ⟨bo, 0, none⟩)) rs rs s1 e1 w4.heap.size w5.heap.size) => RBytes_any _ w_ _ rs xa nn (by omega) hxa h.oo
                  cases hlf : bytesF rs xa nn with
                  | none =>
                    simp only [hlf, bytesOut, strV] at hl1 hl2
                    have HL1 := Lib.hid hl1
                    have HL2 := Lib.hid hl2
                    clear hl1 hl2
                    go_wp2_with fail
                    refine HL1.out.mono ?_
                    rintro e wA ⟨rfl, hbA⟩
                    have HTA := Lib.hid (HTW.out.next hbA)
                    have n1' := (hbA.cell (p := ⟨wr.heap.size, 1, none⟩) hlW).trans n1
                    have n3' := (hbA.cell (p := ⟨wr.heap.size, 3, none⟩) hlW).trans n3
                    clear hbA n0 n1 n2 n3
                    go_wp2_with fail
                    refine (HL2.out wA HTA.out).mono ?_
                    rintro e wB ⟨rfl, hbB⟩
                    have HTB := Lib.hid (HTA.out.next hbB)
                    clear hbB n1' n3' HL1 HL2
                    have hoo := HTB.out.oo
                    obtain ⟨bo', v', hbo, hFo, hblk, hown, hgood⟩ := hoo
                    cases hbo
                    obtain ⟨A6, c6, rfl, _⟩ := (hown.at_ hgood.base).form
                    have d0 : wB.cell? ⟨bo, 0, none⟩ = some (.slice A6 rs.length c6) := by simp [World.cell?, hblk]
                    have dl := lt_of_block hblk
                    have HRA := Lib.hid (hown.at_ hgood.base)
                    have HGB := Lib.hid hgood
                    clear hblk hown hgood hFo
                    go_wp2
                    (refine wp_region_lines (Below wB.heap.size wB) (by kernel_rfl) (by kernel_rfl) (Below.refl _ _).drew ?_)
                    have hS := (Below.refl wB.heap.size wB).drew
                    (try simp only [])
                    repeat (first | (refine runL_no (by rfl) ?_; (try simp only [Act.put, List.setIfInBounds_toArray, List.set_cons_zero, List.set_cons_succ])) | (refine runL_val (v := ?_) (by rfl) ?_ ?_; rotate_left; (focus (intro w_ hw_; have hc_ := bcell hw_; go_simp; (try with_reducible rfl); done)); (try simp only [Act.put, List.setIfInBounds_toArray, List.set_cons_zero, List.set_cons_succ])) | (refine runL_call (f := ?_) (args := ?_) (w1 := ?_) (by rfl) (by rfl) ?_ ?_; rotate_left 3; (focus (go_simp; refine ⟨⟨?_, ?_⟩, ?_⟩ <;> with_reducible rfl)); refine (Regions_any _ _ _ _ (HTB.out.next hS).mm (HTB.out.next hS).lt1).mono ?_; rintro e wA ⟨vR, rfl, hownR, hb1⟩; obtain ⟨AR, cR, rfl, _⟩ := (hownR.at_ HGB.out.base).form; have HRR := Lib.hid ((hownR.at_ HGB.out.base).mono (G := fun k => k < wA.heap.size) (fun k hk => hk.2)); have HRO := Lib.hid ((HRA.out.keep (SameOn.of_below (hS.trans (hb1.mono hS.size)) HTB.out.lt2)).mono (G := fun k => k < wA.heap.size) (fun k hk => Nat.lt_of_lt_of_le (HTB.out.lt2 k hk) (Nat.le_trans hS.size hb1.size))); clear hownR; replace hS := hS.trans (hb1.mono hS.size); refine ⟨_, rfl, .inr hS, ?_⟩; clear hb1; (try simp only [Act.put, List.setIfInBounds_toArray, List.set_cons_zero, List.set_cons_succ])) | (refine runL_call (f := ?_) (args := ?_) (w1 := ?_) (by rfl) (by rfl) ?_ ?_; rotate_left 3; (focus (go_simp; refine ⟨⟨?_, ?_⟩, ?_⟩ <;> with_reducible rfl)); refine (Same_self _ _ _ _ rs (by have := HGB.out.len; omega) HRR.out HRO.out (fun _ h => h)).mono ?_; rintro e wB ⟨rfl, hb1⟩; replace hS := hS.trans (hb1.mono hS.size); refine ⟨_, rfl, .inr hS, ?_⟩; clear hb1; (try simp only [Act.put, List.setIfInBounds_toArray, List.set_cons_zero, List.set_cons_succ])))
                    (refine runL_nil ?_)
                    have HTE := Lib.hid (HTB.out.next hS)
                    clear hS HRR HRO HRA d0 dl
                    go_wp2
                    go_roundg (na - (k + 1))
                    case measure => omega
                    case rel => exact ⟨k + 1, _, _, _, _, by omega, rfl, rfl, by go_num, HTE.out⟩
                  | some L =>
                    simp only [hlf, bytesOut, strV] at hl1 hl2
                    have g5 : (L == L) = true := by simp
                    have g6 : (L != L) = false := by simp
                    have HL1 := Lib.hid hl1
                    have HL2 := Lib.hid hl2
                    clear hl1 hl2
                    go_wp2_with fail
                    refine HL1.out.mono ?_
                    rintro e wA ⟨rfl, hbA⟩
                    have HTA := Lib.hid (HTW.out.next hbA)
                    have n1' := (hbA.cell (p := ⟨wr.heap.size, 1, none⟩) hlW).trans n1
                    have n3' := (hbA.cell (p := ⟨wr.heap.size, 3, none⟩) hlW).trans n3
                    clear hbA n0 n1 n2 n3
                    go_wp2_with fail
                    refine (HL2.out wA HTA.out).mono ?_
                    rintro e wB ⟨rfl, hbB⟩
                    have HTB := Lib.hid (HTA.out.next hbB)
                    clear hbB n1' n3' HL1 HL2
                    have hoo := HTB.out.oo
                    obtain ⟨bo', v', hbo, hFo, hblk, hown, hgood⟩ := hoo
                    cases hbo
                    obtain ⟨A6, c6, rfl, _⟩ := (hown.at_ hgood.base).form
                    have d0 : wB.cell? ⟨bo, 0, none⟩ = some (.slice A6 rs.length c6) := by simp [World.cell?, hblk]
                    have dl := lt_of_block hblk
                    have HRA := Lib.hid (hown.at_ hgood.base)
                    have HGB := Lib.hid hgood
                    clear hblk hown hgood hFo
                    go_wp2
                    (refine wp_region_lines (Below wB.heap.size wB) (by kernel_rfl) (by kernel_rfl) (Below.refl _ _).drew ?_)
                    have hS := (Below.refl wB.heap.size wB).drew
                    (try simp only [])
                    repeat (first | (refine runL_no (by rfl) ?_; (try simp only [Act.put, List.setIfInBounds_toArray, List.set_cons_zero, List.set_cons_succ])) | (refine runL_val (v := ?_) (by rfl) ?_ ?_; rotate_left; (focus (intro w_ hw_; have hc_ := bcell hw_; go_simp; (try with_reducible rfl); done)); (try simp only [Act.put, List.setIfInBounds_toArray, List.set_cons_zero, List.set_cons_succ])) | (refine runL_call (f := ?_) (args := ?_) (w1 := ?_) (by rfl) (by rfl) ?_ ?_; rotate_left 3; (focus (go_simp; refine ⟨⟨?_, ?_⟩, ?_⟩ <;> with_reducible rfl)); refine (Regions_any _ _ _ _ (HTB.out.next hS).mm (HTB.out.next hS).lt1).mono ?_; rintro e wA ⟨vR, rfl, hownR, hb1⟩; obtain ⟨AR, cR, rfl, _⟩ := (hownR.at_ HGB.out.base).form; have HRR := Lib.hid ((hownR.at_ HGB.out.base).mono (G := fun k => k < wA.heap.size) (fun k hk => hk.2)); have HRO := Lib.hid ((HRA.out.keep (SameOn.of_below (hS.trans (hb1.mono hS.size)) HTB.out.lt2)).mono (G := fun k => k < wA.heap.size) (fun k hk => Nat.lt_of_lt_of_le (HTB.out.lt2 k hk) (Nat.le_trans hS.size hb1.size))); clear hownR; replace hS := hS.trans (hb1.mono hS.size); refine ⟨_, rfl, .inr hS, ?_⟩; clear hb1; (try simp only [Act.put, List.setIfInBounds_toArray, List.set_cons_zero, List.set_cons_succ])) | (refine runL_call (f := ?_) (args := ?_) (w1 := ?_) (by rfl) (by rfl) ?_ ?_; rotate_left 3; (focus (go_simp; refine ⟨⟨?_, ?_⟩, ?_⟩ <;> with_reducible rfl)); refine (Same_self _ _ _ _ rs (by have := HGB.out.len; omega) HRR.out HRO.out (fun _ h => h)).mono ?_; rintro e wB ⟨rfl, hb1⟩; replace hS := hS.trans (hb1.mono hS.size); refine ⟨_, rfl, .inr hS, ?_⟩; clear hb1; (try simp only [Act.put, List.setIfInBounds_toArray, List.set_cons_zero, List.set_cons_succ])))
                    (refine runL_nil ?_)
                    have HTE := Lib.hid (HTB.out.next hS)
                    clear hS HRR HRO HRA d0 dl
                    go_wp2
                    go_roundg (na - (k + 1))
                    case measure => omega
                    case rel => exact ⟨k + 1, _, _, _, _, by omega, rfl, rfl, by go_num, HTE.out⟩
              · clear hz hpk
                go_wp2_with fail
                refine (MClone_any _ W _ rs HTW.out.mm HTW.out.lt1).mono ?_
                rintro e wA ⟨vc, rfl, hmc, hbA⟩
                obtain ⟨bc, rfl⟩ : ∃ bc, vc = .pointer (some ⟨bc, 0, none⟩) := by obtain ⟨bc, v, h, _⟩ := hmc; exact ⟨bc, h⟩
                have HTA := Lib.hid (HTW.out.next hbA)
                have HMC := Lib.hid hmc
                have HSA := Lib.hid hbA.size
                have n1' := (hbA.cell (p := ⟨wr.heap.size, 1, none⟩) hlW).trans n1
                have n2' := (hbA.cell (p := ⟨wr.heap.size, 2, none⟩) hlW).trans n2
                clear hmc hbA n0 n1 n2 n3
                go_wp2_with fail
                refine (Store_says _ wA _ rs xa xv hxa hxv HTA.out.mm HTA.out.lt1).mono ?_
                rintro e wB ⟨g1, rs2, rfl, hsay, hm, hc⟩
                have hmc2 := HMC.out.keep (hc.same fun k hk => ⟨hk.2, fun h' => by have := h'.2; have := hk.1; have := HE.out.1; have := HTW.out.he1; omega⟩)
                have htb := HTA.out.store1 hc hm
                have HTB := Lib.hid (Two.mk hmc2 htb.oo hc.size htb.he2 HTW.out.below.size htb.hs2 (.inr HTW.out.he2) htb.below)
                clear hsay hm hc hmc2 htb n1' n2'
                have hoo := HTB.out.oo
                obtain ⟨bo', v', hbo, hFo, hblk, hown, hgood⟩ := hoo
                cases hbo
                obtain ⟨A6, c6, rfl, _⟩ := (hown.at_ hgood.base).form
                have d0 : wB.cell? ⟨bo, 0, none⟩ = some (.slice A6 rs.length c6) := by simp [World.cell?, hblk]
                have dl := lt_of_block hblk
                have HRA := Lib.hid (hown.at_ hgood.base)
                have HGB := Lib.hid hgood
                clear hblk hown hgood hFo
                go_wp2
                (refine wp_region_lines (Below wB.heap.size wB) (by kernel_rfl) (by kernel_rfl) (Below.refl _ _).drew ?_)
                have hS := (Below.refl wB.heap.size wB).drew
                (try simp only [])
                repeat (first | (refine runL_no (by rfl) ?_; (try simp only [Act.put, List.setIfInBounds_toArray, List.set_cons_zero, List.set_cons_succ])) | (refine runL_val (v := ?_) (by rfl) ?_ ?_; rotate_left; (focus (intro w_ hw_; have hc_ := bcell hw_; go_simp; (try with_reducible rfl); done)); (try simp only [Act.put, List.setIfInBounds_toArray, List.set_cons_zero, List.set_cons_succ])) | (refine runL_call (f := ?_) (args := ?_) (w1 := ?_) (by rfl) (by rfl) ?_ ?_; rotate_left 3; (focus (go_simp; refine ⟨⟨?_, ?_⟩, ?_⟩ <;> with_reducible rfl)); refine (Regions_any _ _ _ _ (HTB.out.next hS).mm (HTB.out.next hS).lt1).mono ?_; rintro e wA ⟨vR, rfl, hownR, hb1⟩; obtain ⟨AR, cR, rfl, _⟩ := (hownR.at_ HGB.out.base).form; have HRR := Lib.hid ((hownR.at_ HGB.out.base).mono (G := fun k => k < wA.heap.size) (fun k hk => hk.2)); have HRO := Lib.hid ((HRA.out.keep (SameOn.of_below (hS.trans (hb1.mono hS.size)) HTB.out.lt2)).mono (G := fun k => k < wA.heap.size) (fun k hk => Nat.lt_of_lt_of_le (HTB.out.lt2 k hk) (Nat.le_trans hS.size hb1.size))); clear hownR; replace hS := hS.trans (hb1.mono hS.size); refine ⟨_, rfl, .inr hS, ?_⟩; clear hb1; (try simp only [Act.put, List.setIfInBounds_toArray, List.set_cons_zero, List.set_cons_succ])) | (refine runL_call (f := ?_) (args := ?_) (w1 := ?_) (by rfl) (by rfl) ?_ ?_; rotate_left 3; (focus (go_simp; refine ⟨⟨?_, ?_⟩, ?_⟩ <;> with_reducible rfl)); refine (Same_self _ _ _ _ rs (by have := HGB.out.len; omega) HRR.out HRO.out (fun _ h => h)).mono ?_; rintro e wB ⟨rfl, hb1⟩; replace hS := hS.trans (hb1.mono hS.size); refine ⟨_, rfl, .inr hS, ?_⟩; clear hb1; (try simp only [Act.put, List.setIfInBounds_toArray, List.set_cons_zero, List.set_cons_succ])))
                (refine runL_nil ?_)
                have HTE := Lib.hid (HTB.out.next hS)
                clear hS HRR HRO HRA d0 dl
                go_wp2
                go_roundg (na - (k + 1))
                case measure => omega
                case rel => exact ⟨k + 1, _, _, _, _, by omega, rfl, rfl, by go_num, HTE.out⟩
            · obtain rfl : na = k := by omega
              go_wp2
              go_ret
              exact ⟨rfl, HT.out.below⟩
end Go.Proofs.Ytcciaihghhleoaa
