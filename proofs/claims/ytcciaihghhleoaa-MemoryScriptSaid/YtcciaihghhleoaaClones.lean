/- keysmithlaw04.MemoryClones: the walk. -/
import Derived.Test.YtcciaihghhleoaaLives
import Derived.Test.YtcciaihghhleoaaKit
import Derived.Test.YtcciaihghhleoaaPlainRev
import Derived.Maps.AppendAt
namespace Go.Proofs.Ytcciaihghhleoaa
open Go.RowKit

/-- Three memories, apart from each other. -/
structure Three (w0 w : World) (m o c : Value) (rm ro rc : List Reg) (s1 e1 s2 e2 s3 e3 : Nat) : Prop where
  mm : MemAt w (seg s1 e1) m rm
  oo : MemAt w (seg s2 e2) o ro
  cc : MemAt w (seg s3 e3) c rc
  h1 : e1 ≤ s2
  h2 : e2 ≤ s3
  h3 : e3 ≤ w.heap.size
  i2 : s2 ≤ e2
  i3 : s3 ≤ e3
  hs : w0.heap.size ≤ s1
  i1 : s1 ≤ e1
  below : Below w0.heap.size w0 w

section
variable {w0 w w' : World} {m o c : Value} {rm ro rc r' : List Reg} {s1 e1 s2 e2 s3 e3 : Nat}
theorem Three.lm (h : Three w0 w m o c rm ro rc s1 e1 s2 e2 s3 e3) : ∀ k, seg s1 e1 k → k < w.heap.size := fun k hk => by have := hk.2; have := h.h1; have := h.h2; have := h.h3; have := h.i2; have := h.i3; omega
theorem Three.lo (h : Three w0 w m o c rm ro rc s1 e1 s2 e2 s3 e3) : ∀ k, seg s2 e2 k → k < w.heap.size := fun k hk => by have := hk.2; have := h.h2; have := h.h3; have := h.i3; omega
theorem Three.lc (h : Three w0 w m o c rm ro rc s1 e1 s2 e2 s3 e3) : ∀ k, seg s3 e3 k → k < w.heap.size := fun k hk => by have := hk.2; have := h.h3; omega
theorem Three.next (h : Three w0 w m o c rm ro rc s1 e1 s2 e2 s3 e3) (hb : Below w.heap.size w w') : Three w0 w' m o c rm ro rc s1 e1 s2 e2 s3 e3 :=
  ⟨h.mm.keep (SameOn.of_below hb h.lm), h.oo.keep (SameOn.of_below hb h.lo), h.cc.keep (SameOn.of_below hb h.lc), h.h1, h.h2, Nat.le_trans h.h3 hb.size, h.i2, h.i3, h.hs, h.i1, h.below.trans (hb.mono h.below.size)⟩
theorem Three.storeC (h : Three w0 w m o c rm ro rc s1 e1 s2 e2 s3 e3) (hb : Chg (seg s3 e3) w w') (hm : MemAt w' (seg s3 e3) c r') : Three w0 w' m o c rm ro r' s1 e1 s2 e2 s3 e3 :=
  ⟨h.mm.keep (hb.same fun k hk => ⟨h.lm k hk, fun h' => by have := hk.2; have := h'.1; have := h.h1; have := h.h2; have := h.i2; omega⟩), h.oo.keep (hb.same fun k hk => ⟨h.lo k hk, fun h' => by have := hk.2; have := h'.1; have := h.h2; omega⟩), hm,
    h.h1, h.h2, Nat.le_trans h.h3 hb.size, h.i2, h.i3, h.hs, h.i1, h.below.trans (hb.below (fun k hk h' => by have := h'.1; have := h.hs; have := h.i1; have := h.h1; have := h.i2; have := h.h2; omega) h.below.size)⟩
theorem Three.storeO (h : Three w0 w m o c rm ro rc s1 e1 s2 e2 s3 e3) (hb : Chg (seg s2 e2) w w') (hm : MemAt w' (seg s2 e2) o r') : Three w0 w' m o c rm r' rc s1 e1 s2 e2 s3 e3 :=
  ⟨h.mm.keep (hb.same fun k hk => ⟨h.lm k hk, fun h' => by have := hk.2; have := h'.1; have := h.h1; omega⟩), hm, h.cc.keep (hb.same fun k hk => ⟨h.lc k hk, fun h' => by have := hk.1; have := h'.2; have := h.h2; omega⟩),
    h.h1, h.h2, Nat.le_trans h.h3 hb.size, h.i2, h.i3, h.hs, h.i1, h.below.trans (hb.below (fun k hk h' => by have := h'.1; have := h.hs; have := h.i1; have := h.h1; omega) h.below.size)⟩
end

/-- Regions that are the call's own read as regions, from wherever they lie below the heap's end. -/
theorem RegsOwn.read {w : World} {s : Nat} {v : Value} {rs : List Reg} (h : RegsOwn w (seg s w.heap.size) v rs) (hg : Good rs) : RegsAt w (fun k => k < w.heap.size) v rs := (h.at_ hg.base).mono fun _ hk => hk.2

theorem RegsAt.next {w w' : World} {v : Value} {rs : List Reg} (h : RegsAt w (fun k => k < w.heap.size) v rs) (hb : Below w.heap.size w w') : RegsAt w' (fun k => k < w'.heap.size) v rs :=
  (h.below hb fun _ hk => hk).mono fun _ hk => Nat.lt_of_lt_of_le hk hb.size

/-- A row of the call's own, as rows. -/
theorem rows_of_own {w : World} {base e sz n : Nat} {v : Value} {rows : List (List Value)} (h : w.ownsRow base e sz v n rows.flatten) (hsz : ∀ r ∈ rows, r.length = sz) (hn : rows.length = n) : Rows w (fun k => k < w.heap.size) sz v rows := by
  subst hn
  rcases Nat.eq_zero_or_pos rows.length with h0 | hpos
  · obtain rfl := List.eq_nil_of_length_eq_zero h0
    rcases h.2 with ⟨rfl, _⟩ | ⟨g, cap, cur, rfl, _, _, hnc, _⟩
    · exact ⟨none, 0, rfl, by simp, by simp, fun h => absurd rfl h⟩
    · exact ⟨_, cap, rfl, by simp, by simp, fun h => absurd rfl h⟩
  · obtain ⟨g, cap, rfl, _, hnc, hrow⟩ := rowsBlk_of_own h hsz hpos
    refine ⟨_, cap, rfl, hnc, hsz, fun _ => ⟨g, 0, rfl, hrow.lt, fun i j r u hr hu => ?_⟩⟩
    rw [Nat.zero_add]
    exact hrow.cell hr hu

theorem own_base {w : World} {base e sz n : Nat} {v : Value} {xs : List Value} (h : w.ownsRow base e sz v n xs) : ∀ k, v.ownBlock = some k → base ≤ k := fun k hk => by
  rcases h.2 with ⟨rfl, _⟩ | ⟨g, cap, cur, rfl, hg, _⟩
  · cases hk
  · cases hk; exact hg

theorem back_step (P : List (Reg × Ent)) {j : Nat} {x : Reg × Ent} (hx : P[j]? = some x) : (((P.drop (j + 1)).reverse.map fun x => entRow x.2).flatten ++ [.int .u64 x.2.key, .slice x.2.ad x.2.n x.2.c, .bool x.2.wr] : List Value) = ((P.drop j).reverse.map fun x => entRow x.2).flatten := by
  obtain ⟨hj, rfl⟩ := List.getElem?_eq_some_iff.1 hx
  rw [List.drop_eq_getElem_cons hj, List.reverse_cons, List.map_append, List.flatten_append]
  rfl

theorem MemAt.good {w : World} {F : Nat → Prop} {p : Value} {rs : List Reg} (h : MemAt w F p rs) : Good rs := by
  obtain ⟨_, _, _, _, _, _, h⟩ := h
  exact h
theorem loadOut_form (o : Option Nat) : ∃ x y : Int, loadOut o = .tuple #[.int .u64 x, .int .i64 y] := by
  cases o
  · exact ⟨0, 11, rfl⟩
  · exact ⟨_, 0, rfl⟩
/-- What a Store does, said in one. -/
def StoreSays (rs : List Reg) (at_ v : Nat) (g : Int) (rs2 : List Reg) : Prop := (storeF rs at_ v = none ∧ g = 11 ∧ rs2 = rs) ∨ (storeF rs at_ v = some rs2 ∧ g = 0)
theorem StoreSays.same {rs rs2 rs3 : List Reg} {at_ v : Nat} {g g' : Int} (h : StoreSays rs at_ v g rs2) (h' : StoreSays rs at_ v g' rs3) : g' = g ∧ rs3 = rs2 := by
  rcases h with ⟨a, b, c⟩ | ⟨a, b⟩ <;> rcases h' with ⟨a', b', c'⟩ | ⟨a', b'⟩
  · exact ⟨by rw [b, b'], by rw [c, c']⟩
  · rw [a] at a'; cases a'
  · rw [a] at a'; cases a'
  · rw [a] at a'; cases a'; exact ⟨by rw [b, b'], rfl⟩
theorem Store_says (p : Value) (w : World) (F : Nat → Prop) (rs : List Reg) (at_ v : Nat) (hat : at_ < 18446744073709551616) (hv : v < 18446744073709551616) (hm : MemAt w F p rs) (hF : ∀ k, F k → k < w.heap.size) :
    Calls Try.prog 13 #[p, .int .u64 at_, .int .u64 v] w fun e w' => ∃ g rs2, e = .returned (.int .i64 g) ∧ StoreSays rs at_ v g rs2 ∧ MemAt w' F p rs2 ∧ Chg F w w' := by
  refine (Store_any p w F rs at_ v hat hv hm hF).mono ?_
  rintro e w' (⟨h0, rfl, hb⟩ | ⟨rs', h0, rfl, hm', hc⟩)
  · exact ⟨11, rs, rfl, .inl ⟨h0, rfl, rfl⟩, hm.keep (SameOn.of_below hb hF), .of_below hb⟩
  · exact ⟨0, rs', rfl, .inr ⟨h0, rfl⟩, hm', hc⟩

theorem RegsAt.chg {w w' : World} {s s2 e : Nat} {v : Value} {rs : List Reg} (h : RegsAt w (seg s w.heap.size) v rs) (hb : Chg (seg s2 e) w w') (he : e ≤ s) : RegsAt w' (seg s w.heap.size) v rs :=
  h.keep (hb.same fun k hk => ⟨hk.2, fun h' => by have := h'.2; have := hk.1; omega⟩)

theorem sameR_self (a : List Reg) : sameR a a = true := (sameR_iff a a).2 rfl

set_option maxRecDepth 100000 in
set_option maxHeartbeats 1600000 in
theorem clones_walk (v : Value) (l : List Reg) (at_ to v1 : Nat) (w : World) (hl : RegsAt w (fun k => k < w.heap.size) v l) (hn : l.length ≤ 9223372036854775807) (hat : at_ < 18446744073709551616) (hto : to < 18446744073709551616) (hv : v1 < 18446744073709551616) :
    Calls Try.prog 4 #[v, .int .u64 at_, .int .u64 to, .int .u64 v1] w fun e w' => e = .returned (.bool true) ∧ Below w.heap.size w w' := by
  obtain ⟨A, c, rfl, hlc⟩ := hl.form
  have HL := Lib.hid hl
  clear hl
  generalize hln : l.length = n at *
  have HN := Lib.hid hln
  clear hln
  go_enter Try.func4, Try.ntmps4
  go_wp2_with fail
  refine (lives_any _).mono ?_
  rintro e w1 ⟨rfl, hb1⟩
  have H1 := Lib.hid (Light_any _ w1 _ l (by rw [HN.out]; exact hn) (HL.out.next hb1))
  have HB1 := Lib.hid hb1
  clear hb1
  cases hlight : lightR l
  · rw [hlight] at H1
    go_wp2_with ((with_reducible refine (H1.out).mono ?_); rintro e w2 ⟨rfl, hb2⟩)
    go_ret
    exact ⟨rfl, HB1.out.trans (hb2.mono HB1.out.size)⟩
  · rw [hlight] at H1
    have hn10 : n ≤ 10 := by
      have h := hlight
      simp only [lightR, Bool.and_eq_true, decide_eq_true_eq] at h
      have := HN.out; omega
    go_wp2_with ((with_reducible refine (H1.out).mono ?_); rintro e w2 ⟨rfl, hb2⟩; have HB2 := Lib.hid (HB1.out.trans (hb2.mono HB1.out.size)); clear hb2)
    have hl2 : RegsAt w2 (fun k => k < w2.heap.size) (.slice A n c) l := HL.out.next HB2.out
    have hN := New_any _ w2 _ l (by rw [HN.out]; exact hn) hl2 (fun _ h => h)
    have HNEW := Lib.hid hN
    have HL2 := Lib.hid hl2
    clear hN hl2
    have hbase : ∀ r ∈ l, r.base < 18446744073709551616 := by
      obtain ⟨P, hP, _, hs⟩ := HL.out
      intro r hr
      rw [← hP] at hr
      obtain ⟨x, hx, rfl⟩ := List.mem_map.1 hr
      exact (hs x hx).base64
    have HBASE := Lib.hid hbase
    clear hbase
    go_wp2_with fail
    refine HNEW.out.mono ?_
    rintro e w3 ⟨hb3, hres⟩
    obtain ⟨P, hP, hrows, hsrc⟩ := HL2.out.below hb3 (fun _ h => h)
    have HP := Lib.hid hP
    have HROWS := Lib.hid hrows
    have HSRC := Lib.hid hsrc
    have HB3 := Lib.hid hb3
    have HPL : Hid (P.length = n) := by have := congrArg List.length hP; have := HN.out; show _ = _; simp at *; omega
    obtain ⟨i0, hi0, hz0, hz1, hz2⟩ := info_parts infoReg
    clear hP hrows hsrc hb3 HNEW HL2
    -- what New answered: an error and nothing, or a memory
    obtain ⟨p, ce, rfl, hce⟩ : ∃ (p : Value) (ce : Int), e = .returned (.tuple #[p, .int .i64 ce]) ∧ ce = checkF l ∧ (ce = 0 → MemAt w3 (seg w2.heap.size w3.heap.size) p (sortBy Reg.base l)) := by
      rcases hres with ⟨h0, rfl⟩ | ⟨h0, p, rfl, hm⟩
      · exact ⟨_, _, rfl, rfl, fun h => absurd h h0⟩
      · exact ⟨_, _, rfl, h0.symm, fun _ => hm⟩
    have HCE := Lib.hid hce
    clear hce hres
    go_wp2
    go_loopw [11, 12] (fun bk i wr => ∃ (q : Nat) (z : Int), z = (q : Int) - 1 ∧ q ≤ n ∧ i = .int .i64 z ∧ Below w3.heap.size w3 wr ∧ wr.ownsRow w3.heap.size 36 3 bk (n - q) ((P.drop q).reverse.map fun x => entRow x.2).flatten) (fun _ i _ => (intOf i + 1).toNat)
    case atStart => exact ⟨n, (n : Int) - 1, rfl, by omega, rfl, Below.refl _ _, ⟨by have := HPL.out; simp [List.drop_of_length_le (Nat.le_of_eq this)], .inl ⟨rfl, by omega⟩⟩⟩
    case round =>
      obtain ⟨q, z, hz, hq, rfl, hbl, hown⟩ := hrel
      have HBL := Lib.hid hbl
      have HOWN := Lib.hid hown
      clear hbl hown
      rcases Nat.eq_zero_or_pos q with hq0 | hqp
      · obtain rfl : z = -1 := by omega
        subst hq0
        obtain ⟨A3, c3, hbk, hback⟩ : ∃ A3 c3, u11 = .slice A3 n c3 ∧ RegsAt wr (fun k => k < wr.heap.size) (.slice A3 n c3) l.reverse := by
          have hr := rows_of_own HOWN.out (by intro r hr; obtain ⟨x, _, rfl⟩ := List.mem_map.1 hr; rfl) (by have := HPL.out; simp [this])
          have hall : RegsAt wr (fun k => k < wr.heap.size) u11 l.reverse := ⟨P.reverse, by rw [← HP.out]; simp, by simpa using hr, fun x hx => ((HSRC.out x (by simpa using hx)).keep (SameOn.of_below HBL.out (fun k hk => Nat.lt_of_lt_of_le hk HB3.out.size))).mono (fun k hk => Nat.lt_of_lt_of_le (Nat.lt_of_lt_of_le hk HB3.out.size) HBL.out.size)⟩
          obtain ⟨A3, c3, hf, _⟩ := hall.form
          have hrl : l.reverse.length = n := by have := HN.out; simpa using this
          rw [hrl] at hf
          exact ⟨A3, c3, hf, hf ▸ hall⟩
        subst hbk
        have hN := New_any _ wr _ l.reverse (by have := HN.out; simp; omega) hback (fun _ h => h)
        rw [checkF_reverse] at hN
        have HNEW := Lib.hid hN
        clear hN hback HOWN hz hq
        go_wp2_with fail
        refine HNEW.out.mono ?_
        rintro e w4 ⟨hb4, hres⟩
        obtain ⟨p2, rfl, hp2⟩ : ∃ p2, e = .returned (.tuple #[p2, .int .i64 ce]) ∧ (ce = 0 → MemAt w4 (seg wr.heap.size w4.heap.size) p2 (sortBy Reg.base l)) := by
          rcases hres with ⟨h0, rfl⟩ | ⟨h0, p, rfl, hm⟩
          · exact ⟨_, by rw [HCE.out.1], fun h => absurd (by rw [← HCE.out.1]; exact h) h0⟩
          · refine ⟨_, by rw [HCE.out.1, h0], fun _ => ?_⟩
            rw [sort_reverse h0 HBASE.out] at hm
            exact hm
        have HP2 := Lib.hid hp2
        have HB4 := Lib.hid hb4
        clear hres hp2 hb4 HNEW
        by_cases hc0 : ce = 0
        · have hm1 := HCE.out.2 hc0
          have hm2 := HP2.out hc0
          obtain ⟨bm1, rfl⟩ : ∃ bm, p = .pointer (some ⟨bm, 0, none⟩) := by obtain ⟨bm, v, h, _⟩ := hm1; exact ⟨bm, h⟩
          obtain ⟨bm2, rfl⟩ : ∃ bm, p2 = .pointer (some ⟨bm, 0, none⟩) := by obtain ⟨bm, v, h, _⟩ := hm2; exact ⟨bm, h⟩
          have hm1' := (hm1.keep (SameOn.of_below HBL.out (fun k hk => hk.2))).keep (SameOn.of_below HB4.out (fun k hk => Nat.lt_of_lt_of_le hk.2 HBL.out.size))
          have hb04 : Below w.heap.size w w4 := (HB2.out.trans (HB3.out.mono HB2.out.size)).trans ((HBL.out.mono (Nat.le_trans HB2.out.size HB3.out.size)).trans (HB4.out.mono (Nat.le_trans (Nat.le_trans HB2.out.size HB3.out.size) HBL.out.size)))
          have HM1 := Lib.hid hm1'
          have HM2 := Lib.hid hm2
          have HB04 := Lib.hid hb04
          have hgood := good_of_check (HCE.out.1 ▸ hc0) HBASE.out
          have HG := Lib.hid hgood
          generalize sortBy Reg.base l = rs at *
          have HCL := Lib.hid (MClone_any _ w4 _ rs HM1.out (fun k hk => by have := hk.2; have := HBL.out.size; have := HB4.out.size; omega))
          have hsz1 : w2.heap.size ≤ w3.heap.size := HB3.out.size
          have hsz2 : w3.heap.size ≤ wr.heap.size := HBL.out.size
          have hsz3 : wr.heap.size ≤ w4.heap.size := HB4.out.size
          have hsz0 : w.heap.size ≤ w2.heap.size := HB2.out.size
          have HSZ := Lib.hid (And.intro hsz0 (And.intro hsz1 (And.intro hsz2 hsz3)))
          subst hc0
          clear hm1 hm1' hm2 hb04 hgood HCE HP2 HBL HB4 HP HROWS HSRC HPL HL HB3 HN HBASE hsz0 hsz1 hsz2 hsz3
          go_wp2_with fail
          refine HCL.out.mono ?_
          rintro e w5 ⟨p3, rfl, hm3, hb5⟩
          obtain ⟨bm3, rfl⟩ : ∃ bm, p3 = .pointer (some ⟨bm, 0, none⟩) := by obtain ⟨bm, v, h, _⟩ := hm3; exact ⟨bm, h⟩
          have hthree : Three w w5 (.pointer (some ⟨bm1, 0, none⟩)) (.pointer (some ⟨bm2, 0, none⟩)) (.pointer (some ⟨bm3, 0, none⟩)) rs rs rs w2.heap.size w3.heap.size wr.heap.size w4.heap.size w4.heap.size w5.heap.size := by
            obtain ⟨z0, z1, z2, z3⟩ := HSZ.out
            exact ⟨HM1.out.keep (SameOn.of_below hb5 (fun k hk => by have := hk.2; omega)), HM2.out.keep (SameOn.of_below hb5 (fun k hk => hk.2)), hm3, z2, Nat.le_refl _, Nat.le_refl _, z3, hb5.size, z0, z1, HB04.out.trans (hb5.mono HB04.out.size)⟩
          have HT := Lib.hid hthree
          clear hm3 hb5 hthree HCL HM1 HM2 HB04 HSZ
          go_wp2_with fail
          refine (Regions_any _ w5 _ _ HT.out.mm HT.out.lm).mono ?_
          rintro e w6 ⟨va, rfl, ho, hb⟩
          have hr := ho.read HT.out.mm.good
          obtain ⟨Aa, ca, rfl, _⟩ := hr.form
          have hT := HT.out.next hb
          clear HT
          have HT := Lib.hid hT
          clear hT
          have Ha := Lib.hid hr
          clear ho hb hr
          go_wp2_with fail
          refine (Regions_any _ w6 _ _ HT.out.oo HT.out.lo).mono ?_
          rintro e w7 ⟨vb, rfl, ho, hb⟩
          have hr := ho.read HT.out.oo.good
          obtain ⟨Ab, cb, rfl, _⟩ := hr.form
          have hT := HT.out.next hb
          clear HT
          have HT := Lib.hid hT
          clear hT
          have hk := Ha.out.next hb
          clear Ha
          have Ha := Lib.hid hk
          clear hk
          have Hb := Lib.hid hr
          clear ho hb hr
          have hs := Same_any _ _ w7 _ _ _ (by have := HT.out.mm.good.len; omega) Ha.out Hb.out (fun _ h => h)
          rw [sameR_self] at hs
          have HS := Lib.hid hs
          clear hs
          go_wp2_with fail
          refine HS.out.mono ?_
          rintro e w8 ⟨rfl, hb⟩
          clear HS
          clear Ha
          clear Hb
          have hT := HT.out.next hb
          clear HT
          have HT := Lib.hid hT
          clear hT
          clear hb
          go_wp2_with fail
          refine (Regions_any _ w8 _ _ HT.out.mm HT.out.lm).mono ?_
          rintro e w9 ⟨vc, rfl, ho, hb⟩
          have hr := ho.read HT.out.mm.good
          obtain ⟨Ac, cc, rfl, _⟩ := hr.form
          have hT := HT.out.next hb
          clear HT
          have HT := Lib.hid hT
          clear hT
          have Hc := Lib.hid hr
          clear ho hb hr
          go_wp2_with fail
          refine (Regions_any _ w9 _ _ HT.out.cc HT.out.lc).mono ?_
          rintro e w10 ⟨vd, rfl, ho, hb⟩
          have hr := ho.read HT.out.cc.good
          obtain ⟨Ad, cd, rfl, _⟩ := hr.form
          have hT := HT.out.next hb
          clear HT
          have HT := Lib.hid hT
          clear hT
          have hk := Hc.out.next hb
          clear Hc
          have Hc := Lib.hid hk
          clear hk
          have Hd := Lib.hid hr
          clear ho hb hr
          have hs := Same_any _ _ w10 _ _ _ (by have := HT.out.mm.good.len; omega) Hc.out Hd.out (fun _ h => h)
          rw [sameR_self] at hs
          have HS := Lib.hid hs
          clear hs
          go_wp2_with fail
          refine HS.out.mono ?_
          rintro e w11 ⟨rfl, hb⟩
          clear HS
          clear Hc
          clear Hd
          have hT := HT.out.next hb
          clear HT
          have HT := Lib.hid hT
          clear hT
          clear hb
          go_wp2_with fail
          refine (Regions_any _ w11 _ _ HT.out.mm HT.out.lm).mono ?_
          rintro e w12 ⟨vW, rfl, ho, hb⟩
          have hr := ho.at_ HT.out.mm.good.base
          obtain ⟨AW, cW, rfl, _⟩ := hr.form
          have hge : w5.heap.size ≤ w11.heap.size := HT.out.h3
          have hT := HT.out.next hb
          clear HT
          have HT := Lib.hid hT
          clear hT
          have HW := Lib.hid hr
          have HGE2 := Lib.hid hge
          clear ho hb hr hge
          go_wp2_with fail
          refine (Store_says _ w12 _ rs at_ v1 hat hv HT.out.cc HT.out.lc).mono ?_
          rintro e w13 ⟨g, rs2, rfl, hsay, hm, hc⟩
          have hT := HT.out.storeC hc hm
          have hw := RegsAt.chg HW.out hc HGE2.out
          clear HT HW
          have HT := Lib.hid hT
          have HW := Lib.hid hw
          have HSAY := Lib.hid hsay
          have HC1 := Lib.hid hc.size
          clear hT hw hsay hm hc
          go_wp2_with fail
          refine (Store_says _ w13 _ rs at_ v1 hat hv HT.out.oo HT.out.lo).mono ?_
          rintro e w14 ⟨g', rs3, rfl, hsay, hm, hc⟩
          obtain ⟨rfl, rfl⟩ := HSAY.out.same hsay
          have hT := HT.out.storeO hc hm
          have hw : RegsAt w14 (fun k => k < w14.heap.size) (.slice AW rs.length cW) rs := (HW.out.keep (hc.same fun k hk => ⟨Nat.lt_of_lt_of_le hk.2 HC1.out, fun h' => by have := h'.2; have := hk.1; have := HT.out.h2; have := HT.out.i3; have := HGE2.out; omega⟩)).mono (fun k hk => Nat.lt_of_lt_of_le hk.2 (Nat.le_trans HC1.out hc.size))
          clear HT HW
          have HT := Lib.hid hT
          have HW := Lib.hid hw
          clear hT hw hsay hm hc HSAY HC1 HGE2
          go_wp2_with fail
          refine (Regions_any _ w14 _ _ HT.out.mm HT.out.lm).mono ?_
          rintro e w15 ⟨vx, rfl, ho, hb⟩
          have hr := ho.read HT.out.mm.good
          obtain ⟨Ax, cx, rfl, _⟩ := hr.form
          have hT := HT.out.next hb
          clear HT
          have HT := Lib.hid hT
          clear hT
          have hk := HW.out.next hb
          clear HW
          have HW := Lib.hid hk
          clear hk
          have Hx := Lib.hid hr
          clear ho hb hr
          have hs := Same_any _ _ w15 _ _ _ (by have := HT.out.mm.good.len; omega) Hx.out HW.out (fun _ h => h)
          rw [sameR_self] at hs
          have HS := Lib.hid hs
          clear hs
          go_wp2_with fail
          refine HS.out.mono ?_
          rintro e w16 ⟨rfl, hb⟩
          clear HS
          clear Hx
          clear HW
          have hT := HT.out.next hb
          clear HT
          have HT := Lib.hid hT
          clear hT
          clear hb
          obtain ⟨lx, ly, hlf⟩ := loadOut_form (loadF rs3 to)
          have hl := Load_any _ w16 _ _ to hto HT.out.cc HT.out.lc
          rw [hlf] at hl
          have HLD := Lib.hid hl
          have HLF := Lib.hid hlf
          clear hl hlf
          go_wp2_with fail
          refine HLD.out.mono ?_
          rintro e w17 ⟨rfl, hb⟩
          have hlf := HLF.out
          clear HLD HLF
          have hT := HT.out.next hb
          clear HT
          have HT := Lib.hid hT
          clear hT
          clear hb
          have hl := Load_any _ w17 _ _ to hto HT.out.oo HT.out.lo
          rw [hlf] at hl
          have HLD := Lib.hid hl
          have HLF := Lib.hid hlf
          clear hl hlf
          go_wp2_with fail
          refine HLD.out.mono ?_
          rintro e w18 ⟨rfl, hb⟩
          have hlf := HLF.out
          clear HLD HLF
          have hT := HT.out.next hb
          clear HT
          have HT := Lib.hid hT
          clear hT
          clear hb
          clear hlf
          have b1 : (g' == g') = true := by simp
          have b2 : (lx == lx) = true := by simp
          have b3 : (ly == ly) = true := by simp
          go_wp2_with fail
          refine (Regions_any _ w18 _ _ HT.out.cc HT.out.lc).mono ?_
          rintro e w19 ⟨vy, rfl, ho, hb⟩
          have hr := ho.read HT.out.cc.good
          obtain ⟨Ay, cy, rfl, _⟩ := hr.form
          have hT := HT.out.next hb
          clear HT
          have HT := Lib.hid hT
          clear hT
          have Hy := Lib.hid hr
          clear ho hb hr
          go_wp2_with fail
          refine (Regions_any _ w19 _ _ HT.out.oo HT.out.lo).mono ?_
          rintro e w20 ⟨vz, rfl, ho, hb⟩
          have hr := ho.read HT.out.oo.good
          obtain ⟨Az, cz, rfl, _⟩ := hr.form
          have hT := HT.out.next hb
          clear HT
          have HT := Lib.hid hT
          clear hT
          have hk := Hy.out.next hb
          clear Hy
          have Hy := Lib.hid hk
          clear hk
          have Hz := Lib.hid hr
          clear ho hb hr
          have hs := Same_any _ _ w20 _ _ _ (by have := HT.out.cc.good.len; omega) Hy.out Hz.out (fun _ h => h)
          rw [sameR_self] at hs
          have HS := Lib.hid hs
          clear hs
          go_wp2_with fail
          refine HS.out.mono ?_
          rintro e w21 ⟨rfl, hb⟩
          clear HS
          clear Hy
          clear Hz
          have hT := HT.out.next hb
          clear HT
          have HT := Lib.hid hT
          clear hT
          clear hb
          go_wp2
          go_ret
          exact ⟨rfl, HT.out.below⟩
        · have hne : (ce != 0) = true := by rw [bne_iff_ne]; exact hc0
          have heq : (ce == ce) = true := by simp
          have hb04 : Below w.heap.size w w4 := (HB2.out.trans (HB3.out.mono HB2.out.size)).trans ((HBL.out.mono (Nat.le_trans HB2.out.size HB3.out.size)).trans (HB4.out.mono (Nat.le_trans (Nat.le_trans HB2.out.size HB3.out.size) HBL.out.size)))
          have HB04 := Lib.hid hb04
          clear hb04 hc0
          go_wp2
          go_ret
          exact ⟨rfl, HB04.out⟩
      · obtain ⟨j, rfl⟩ : ∃ j, q = j + 1 := ⟨q - 1, by omega⟩
        obtain rfl : z = (j : Int) := by omega
        obtain ⟨x, hx⟩ : ∃ x, P[j]? = some x := ⟨_, List.getElem?_eq_getElem (by have := HPL.out; omega)⟩
        have hxr : (P.map fun x => entRow x.2)[j]? = some (entRow x.2) := by rw [List.getElem?_map, hx]; rfl
        obtain ⟨A', c', hv', _, _, hne⟩ := HROWS.out
        obtain ⟨b, off, hA, hFb, hcell⟩ := hne (fun e => by rw [e] at hxr; cases hxr)
        injection hv' with e1 e2 e3
        subst e1
        subst e3
        clear e2
        subst hA
        have hbw : b < w3.heap.size := Nat.lt_of_lt_of_le hFb HB3.out.size
        have g0 := (HBL.out.cell (p := ⟨b, off + j * 3 + 0, none⟩) hbw).trans (hcell j 0 _ _ hxr rfl)
        have g1 := (HBL.out.cell (p := ⟨b, off + j * 3 + 1, none⟩) hbw).trans (hcell j 1 _ _ hxr rfl)
        have g2 := (HBL.out.cell (p := ⟨b, off + j * 3 + 2, none⟩) hbw).trans (hcell j 2 _ _ hxr rfl)
        have hstep := back_step P hx
        have HSTEP := Lib.hid hstep
        have k0 : (0 : Int) ≤ (j : Int) := by omega
        have k1 : (j : Int) < (n : Int) := by omega
        simp only [Nat.add_zero] at g0
        clear hxr hne hcell hx hstep hz
        go_wp2_with ((at_builtin; refine wpList_append_own_at _ rfl _ _ 22 rfl w3.heap.size 36 i0 (.agg #[.int .u64 0, .slice none 0 0, .bool false]) 3 40 Try.underlying22 hi0 hz0 hz1 hz2 rfl (by decide) _ (n - (j + 1)) _ rfl (HOWN.out.alloc _) ⟨wr.heap.size, 0, none⟩ 1 1 [.int .u64 x.2.key, .slice x.2.ad x.2.n x.2.c, .bool x.2.wr] rfl (by simp) (World.news_of_block (cs := #[.int .u64 x.2.key, .slice x.2.ad x.2.n x.2.c, .bool x.2.wr]) (t := 36) (fr := (0, 0)) (heap_alloc_new wr _)) (by simp [Value.oneCell']) (by unfold maxLen; omega) (by omega) (by have := HBL.out.size; simp; omega) ?_); intro bk2 w5 hown5 hg5 _ _; have HO5 := Lib.hid hown5; have HG5 := Lib.hid hg5; clear hown5 hg5)
        go_roundw
        case rel =>
          refine ⟨j, (j : Int) - 1, rfl, by omega, rfl, ?_, ?_⟩
          · exact (HBL.out.alloc HBL.out.size _).grown HG5.out (by have := HBL.out.size; simp; omega) (own_base HOWN.out)
          · rw [← HSTEP.out, show n - j = n - (j + 1) + 1 from by omega]
            exact HO5.out
        case measure => simp [intOf]
end Go.Proofs.Ytcciaihghhleoaa
