/- keysmithlaw04.MemoryStores: the walk. -/
import Derived.Test.YtcciaihghhleoaaOne
import Derived.Test.YtcciaihghhleoaaPlainStore
import Derived.Deep.DeepCutAuto
import Derived.Deep.LoopGhost
namespace Go.Proofs.Ytcciaihghhleoaa
open Go.RowKit

/-- What has become of a region. -/
def Turn (g : Int) (at_ v : Nat) (a b : Reg) : Prop := b.base = a.base ∧ b.bytes.length = a.bytes.length ∧ ∀ (q : Nat) (x : UInt8), a.bytes[q]? = some x →
  (g = 0 ∧ off a.base q at_ < 8 → a.write = true ∧ b.bytes[q]? = some (byteAt v (off a.base q at_))) ∧ (¬ (g = 0 ∧ off a.base q at_ < 8) → b.bytes[q]? = some x)

theorem turn_of {rs rs2 : List Reg} {at_ v : Nat} {g : Int} (hat : at_ < 18446744073709551616) (hg : Good rs) (h : StoreSays rs at_ v g rs2) {j : Nat} {a : Reg} (ha : rs[j]? = some a) : ∃ b, rs2[j]? = some b ∧ Turn g at_ v a b := by
  rcases h with ⟨_, rfl, rfl⟩ | ⟨h, rfl⟩
  · exact ⟨a, ha, rfl, rfl, fun q x hx => ⟨fun h => absurd h.1 (by decide), fun _ => hx⟩⟩
  · obtain ⟨b, h1, h2, h3, h4⟩ := store_at hat hg h ha
    exact ⟨b, h1, h2, h3, fun q x hx => ⟨fun hh => (h4 q x hx).1 hh.2, fun hh => (h4 q x hx).2 (fun h => hh ⟨rfl, h⟩)⟩⟩
theorem says_length {rs rs2 : List Reg} {at_ v : Nat} {g : Int} (hg : Good rs) (h : StoreSays rs at_ v g rs2) : rs2.length = rs.length := by
  rcases h with ⟨_, rfl, rfl⟩ | ⟨h, rfl⟩
  · rfl
  · exact store_length hg h
theorem says_load {rs rs2 : List Reg} {at_ v : Nat} {g : Int} (hv : v < 18446744073709551616) (hg : Good rs) (h : StoreSays rs at_ v g rs2) :
    ∃ x y : Int, loadOut (loadF rs2 at_) = .tuple #[.int .u64 x, .int .i64 y] ∧ ((g = 0 ∧ x = v ∧ y = 0 ∧ hitsAll g at_ rs rs.length = 8) ∨ g = 11) := by
  rcases h with ⟨_, rfl, rfl⟩ | ⟨h, rfl⟩
  · obtain ⟨x, y, h⟩ := loadOut_form (loadF rs2 at_)
    exact ⟨x, y, h, .inr rfl⟩
  · exact ⟨v, 0, by rw [load_store hv hg h]; rfl, .inl ⟨rfl, rfl, rfl, hits_eight hg h⟩⟩
theorem off_wrap {base q at_ : Nat} (hat : at_ < 18446744073709551616) :
    IntKind.u64.wrap (IntKind.u64.wrap ((base : Int) + IntKind.u64.wrap (q : Int)) - (at_ : Int)) = (off base q at_ : Int) := by
  rw [wrapU, wrapU, wrapU, off]; omega

theorem BytesAt.at_ {w : World} {F : Nat → Prop} {A : Option Addr} {n c : Nat} {l : List UInt8} (h : BytesAt w F (.slice A n c) l) {q : Nat} {x : UInt8} (hq : l[q]? = some x) :
    ∃ b o, A = some ⟨b, o, none⟩ ∧ F b ∧ w.cell? ⟨b, o + q, none⟩ = some (.int .u8 x.toNat) := by
  obtain ⟨A', c', hv, _, _, hne⟩ := h
  cases hv
  have hr : (l.map fun x => [byteV x])[q]? = some [byteV x] := by rw [List.getElem?_map, hq]; rfl
  obtain ⟨b, o, hA, hF, hc⟩ := hne (fun e => by rw [e] at hr; cases hr)
  have := hc q 0 _ (byteV x) hr rfl
  exact ⟨b, o, hA, hF, by simpa [byteV] using this⟩

theorem byte_wrap (v d : Nat) : IntKind.u8.wrap ((v : Int) / 2 ^ (8 * (d : Int)).toNat) = ((byteAt v d).toNat : Int) := by
  rw [byteAt_int v d (2 ^ (8 * d)) rfl, show (8 * (d : Int)).toNat = 8 * d from by omega, IntKind.wrap_u8]
  simp
theorem base_lt {rs : List Reg} (hg : Good rs) {j : Nat} {a b : Reg} (ha : rs[j]? = some a) (hb : rs[j + 1]? = some b) : a.base < b.base := by
  obtain ⟨h1, rfl⟩ := List.getElem?_eq_some_iff.1 ha
  obtain ⟨h2, rfl⟩ := List.getElem?_eq_some_iff.1 hb
  have := List.pairwise_iff_getElem.1 hg.gap j (j + 1) h1 h2 (by omega)
  have := hg.pos _ (List.getElem_mem h1)
  omega

set_option maxRecDepth 100000 in
set_option maxHeartbeats 3200000 in
theorem stores_walk (v : Value) (l : List Reg) (at_ v1 : Nat) (w : World) (hl : RegsAt w (fun k => k < w.heap.size) v l) (hn : l.length ≤ 9223372036854775807) (hat : at_ < 18446744073709551616) (hv : v1 < 18446744073709551616) :
    Calls Try.prog 3 #[v, .int .u64 at_, .int .u64 v1] w fun e w' => e = .returned (.bool true) ∧ Below w.heap.size w w' := by
  obtain ⟨A, c, rfl, hlc⟩ := hl.form
  have HL := Lib.hid hl
  clear hl
  generalize hln : l.length = n at *
  have HN := Lib.hid hln
  clear hln
  go_enter Try.func3, Try.ntmps3
  go_wp2_with fail
  refine (lives_any _).mono ?_
  rintro e w1 ⟨rfl, hb1⟩
  have H1 := Lib.hid (Light_any _ w1 _ l (by rw [HN.out]; exact hn) (HL.out.next hb1))
  have HB1 := Lib.hid hb1
  clear hb1
  cases hlight : lightR l
  · rw [hlight] at H1
    go_wp2_with ((with_reducible refine (H1.out).mono ?_); rintro e w2 ⟨rfl, hb2⟩)
    go_ret
    exact ⟨rfl, HB1.out.trans (hb2.mono HB1.out.size)⟩
  · rw [hlight] at H1
    have hn10 : n ≤ 10 := by
      have h := hlight
      simp only [lightR, Bool.and_eq_true, decide_eq_true_eq] at h
      have := HN.out; omega
    go_wp2_with ((with_reducible refine (H1.out).mono ?_); rintro e w2 ⟨rfl, hb2⟩; have HB2 := Lib.hid (HB1.out.trans (hb2.mono HB1.out.size)); clear hb2)
    have hl2 : RegsAt w2 (fun k => k < w2.heap.size) (.slice A n c) l := HL.out.next HB2.out
    have hN := New_any _ w2 _ l (by rw [HN.out]; exact hn) hl2 (fun _ h => h)
    have HNEW := Lib.hid hN
    clear hN hl2
    go_wp2_with fail
    refine HNEW.out.mono ?_
    rintro e w3 ⟨hb3, hres⟩
    have hlt3 := hb3.size
    have HB3 := Lib.hid (HB2.out.trans (hb3.mono HB2.out.size))
    have HSZ := Lib.hid (And.intro HB2.out.size hlt3)
    clear hb3 hlt3 HNEW H1 HB1
    rcases hres with ⟨h0, rfl⟩ | ⟨_, p, rfl, hm⟩
    · have hne : (checkF l != 0) = true := by rw [bne_iff_ne]; exact h0
      generalize checkF l = ce at *
      clear h0
      go_wp2
      go_ret
      exact ⟨rfl, HB3.out⟩
    · have hsl : (sortBy Reg.base l).length = n := by rw [sortBy_length]; exact HN.out
      generalize sortBy Reg.base l = rs at *
      obtain ⟨bm, rfl⟩ : ∃ bm, p = .pointer (some ⟨bm, 0, none⟩) := by obtain ⟨bm, v, h, _⟩ := hm; exact ⟨bm, h⟩
      have HO := Lib.hid (One.mk (w0 := w) hm (Nat.le_refl _) HSZ.out.1 HB3.out)
      have HLEN := Lib.hid hsl
      clear hm hsl HSZ HB3 HB2 HL hlight
      go_wp2_with fail
      refine (Regions_any _ w3 _ _ HO.out.mm HO.out.lt).mono ?_
      rintro e w4 ⟨vW, rfl, ho, hb⟩
      have hr := ho.at_ HO.out.mm.good.base
      obtain ⟨AW, cW, rfl, _⟩ := hr.form
      have HO4 := Lib.hid (HO.out.next hb)
      have HGE := Lib.hid HO.out.he
      have HG := Lib.hid HO.out.mm.good
      have HW := Lib.hid hr
      clear ho hb hr HO
      go_wp2_with fail
      refine (Store_says _ w4 _ rs at_ v1 hat hv HO4.out.mm HO4.out.lt).mono ?_
      rintro e w5 ⟨g, rs2, rfl, hsay, hm, hc⟩
      have HO5 := Lib.hid (HO4.out.store hc hm)
      have HW5 := Lib.hid (RegsAt.chg HW.out hc HGE.out)
      have HSAY := Lib.hid hsay
      have HC5 := Lib.hid hc.size
      clear hsay hm hc HO4 HW HGE
      go_wp2_with fail
      refine (Regions_any _ w5 _ _ HO5.out.mm HO5.out.lt).mono ?_
      rintro e w6 ⟨vN, rfl, ho, hb⟩
      have hr := ho.at_ HO5.out.mm.good.base
      obtain ⟨AN, cN, rfl, _⟩ := hr.form
      have HO6 := Lib.hid (HO5.out.next hb)
      have HW6 := Lib.hid ((HW5.out.keep (SameOn.of_below hb (fun k hk => Nat.lt_of_lt_of_le hk.2 HC5.out))).mono (G := fun k => k < w6.heap.size) (fun k hk => Nat.lt_of_lt_of_le hk.2 (Nat.le_trans HC5.out hb.size)))
      have HN6 := Lib.hid (hr.mono (G := fun k => k < w6.heap.size) (fun k hk => hk.2))
      clear ho hb hr HO5 HW5 HC5
      have hl2 : rs2.length = n := by rw [says_length HG.out HSAY.out, HLEN.out]
      have hl1 : rs.length = n := HLEN.out
      rw [hl1, hl2] at *
      have HL2 := Lib.hid hl2
      clear hl1 hl2
      have hld := Load_any _ w6 _ rs2 at_ hat HO6.out.mm HO6.out.lt
      obtain ⟨lx, ly, hlo, hcs⟩ := says_load hv HG.out HSAY.out
      rw [hlo] at hld
      have hgg : g = 0 ∨ g = 11 := by rcases hcs with ⟨h, _⟩ | h; exact .inl h; exact .inr h
      have h88 : g = 0 → hitsAll g at_ rs rs.length = 8 := by intro h; rcases hcs with ⟨_, _, _, h⟩ | h'; exact h; omega
      have H88 := Lib.hid h88
      have HGG := Lib.hid hgg
      have HCS := Lib.hid hcs
      have HLD := Lib.hid hld
      clear hld hlo hcs hgg h88
      go_wp2_with fail
      refine HLD.out.mono ?_
      rintro e w7 ⟨rfl, hb⟩
      have HO7 := Lib.hid (HO6.out.next hb)
      have HW7 := Lib.hid (HW6.out.next hb)
      have HN7 := Lib.hid (HN6.out.next hb)
      clear hb HO6 HW6 HN6 HLD
      have b1 : (n != n) = false := by simp
      have b2 : ((n : Int) != (n : Int)) = false := by simp
      go_upto_region 12 with (fail)
      go_cut [79] (fun s wx => s = .bool false ∧ w7 = wx)
      case first =>
        rcases HCS.out with ⟨rfl, rfl, rfl, _⟩ | rfl
        · have b3 : ((v1 : Int) != (v1 : Int)) = false := by simp
          have b4 : (v1 != v1) = false := by simp
          clear HCS HGG H88
          go_wp2
          go_meet
          exact ⟨rfl, rfl⟩
        · clear HCS HGG H88
          go_wp2
          go_meet
          exact ⟨rfl, rfl⟩
      case rest =>
        obtain ⟨rfl, rfl⟩ := hcut
        clear HCS
        go_wp2
        go_loopg [14, 15] n (fun k0 h i wr => ∃ (k H : Nat), k ≤ n ∧ k0 = n - k ∧ i = .int .i64 k ∧ h = .int .i64 H ∧ H = hitsAll g at_ rs k ∧ Below w7.heap.size w7 wr)
        case atStart => exact ⟨0, 0, by omega, rfl, rfl, rfl, rfl, Below.refl _ _⟩
        case round =>
          obtain ⟨k, H, hk, hk0, rfl, rfl, hH, hbl⟩ := hrel
          have HBL := Lib.hid hbl
          have HH := Lib.hid hH
          have hk0' := Nat.le_of_eq hk0
          have hk0'' := Nat.le_of_eq hk0.symm
          clear hbl hH hk0
          by_cases hlt : k < n
          · obtain ⟨r, hr⟩ : ∃ r, rs[k]? = some r := ⟨_, List.getElem?_eq_getElem (by have := HLEN.out; omega)⟩
            obtain ⟨b, hb, ht1, ht2, ht3⟩ := turn_of hat HG.out HSAY.out hr
            have hHb : H ≤ 10485760 := by have := hitsAll_le g at_ HG.out k (by have := HLEN.out; omega); have := HH.out; omega
            have hrb := (HG.out.bytes r (List.mem_of_getElem? hr)).2
            obtain ⟨b1, o1, A1, c1, rfl, hF1, p0, p1, p2, hby1, hb64, _⟩ := (HW7.out.next HBL.out).at_ hr
            obtain ⟨b2, o2, A2, c2, rfl, hF2, q0, q1, _, hby2, _, _⟩ := (HN7.out.next HBL.out).at_ hb
            rw [ht1] at q0
            rw [ht2] at q1 hby2
            have HR := Lib.hid hr
            have HB := Lib.hid hb
            have HT3 := Lib.hid ht3
            have HT12 := Lib.hid (And.intro ht1 ht2)
            have i0 : (0 : Int) ≤ (k : Int) := by omega
            have i1 : (k : Int) < (n : Int) := by omega
            have i5 : IntKind.i64.wrap (k : Int) = (k : Int) := IntWalk.i64_in _ (by omega)
            clear hr hb ht1 ht2 ht3 hby1 hby2
            go_upto_region 18 with (fail)
            go_cut [129] (fun s wx => s = .bool false ∧ Below wr.heap.size wr wx)
            case first =>
              have a1 : (r.bytes.length != r.bytes.length) = false := by simp
              have a2 : (r.base != r.base) = false := by simp
              have a3 : ((r.bytes.length : Int) != (r.bytes.length : Int)) = false := by simp
              have a4 : ((r.base : Int) != (r.base : Int)) = false := by simp
              rcases k with _ | j
              · simp only [Nat.zero_mul, Nat.add_zero] at p0 p1 p2 q0 q1
                have i2 : decide (0 < n) = true := by simp; omega
                go_wp2
                (refine wp_region_lines (Below wr.heap.size wr) (by kernel_rfl) (by kernel_rfl) (Below.refl _ _).drew ?_)
                have hS := (Below.refl wr.heap.size wr).drew
                (try simp only [])
                repeat (first | (refine runL_no (by rfl) ?_; (try simp only [Act.put, List.setIfInBounds_toArray, List.set_cons_zero, List.set_cons_succ])) | (refine runL_val (v := ?_) (by rfl) ?_ ?_; rotate_left; (focus (intro w_ hw_; have hc_ := bcell hw_; go_simp; (try with_reducible rfl); done)); (try simp only [Act.put, List.setIfInBounds_toArray, List.set_cons_zero, List.set_cons_succ])))
                (refine runL_nil ?_)
                go_wp2
                go_meet
                exact ⟨rfl, hS⟩
              · obtain ⟨r', hr'⟩ : ∃ r', rs[j]? = some r' := ⟨_, List.getElem?_eq_getElem (by have := HLEN.out; omega)⟩
                have hlt' := base_lt HG.out hr' HR.out
                obtain ⟨b1', o1', _, _, hA, _, s0, _, _, _, _, _⟩ := (HW7.out.next HBL.out).at_ hr'
                cases hA
                have i0 : (0 : Int) ≤ (j : Int) + 1 := by omega
                have i1 : (j : Int) + 1 < (n : Int) := by omega
                have i2 : (0 : Int) ≤ (j : Int) := by omega
                have i3 : (j : Int) < (n : Int) := by omega
                have i4 : decide (r.base ≤ r'.base) = false := by simp; omega
                have i6 : IntKind.i64.wrap (j : Int) = (j : Int) := IntWalk.i64_in _ (by omega)
                clear hr' hlt' i5
                go_wp2
                (refine wp_region_lines (Below wr.heap.size wr) (by kernel_rfl) (by kernel_rfl) (Below.refl _ _).drew ?_)
                have hS := (Below.refl wr.heap.size wr).drew
                (try simp only [])
                repeat (first | (refine runL_no (by rfl) ?_; (try simp only [Act.put, List.setIfInBounds_toArray, List.set_cons_zero, List.set_cons_succ])) | (refine runL_val (v := ?_) (by rfl) ?_ ?_; rotate_left; (focus (intro w_ hw_; have hc_ := bcell hw_; go_simp; (try with_reducible rfl); done)); (try simp only [Act.put, List.setIfInBounds_toArray, List.set_cons_zero, List.set_cons_succ])))
                (refine runL_nil ?_)
                go_wp2
                go_meet
                exact ⟨rfl, hS⟩
            case rest =>
              obtain ⟨rfl, hcut⟩ := hcut
              have HS0 := Lib.hid (HBL.out.trans (hcut.mono HBL.out.size))
              clear hcut p0 p1 p2 q0 q1 HBL
              go_wp2
              obtain ⟨wo, rfl⟩ : ∃ wo : World, wo = wr := ⟨_, rfl⟩
              go_loopg [14, 16] r.bytes.length (fun q0 h z wr => ∃ (q X : Nat), q ≤ r.bytes.length ∧ q0 = r.bytes.length - q ∧ z = .int .i64 q ∧ h = .int .i64 X ∧ X = H + hitsTo g at_ r.base q ∧ Below w7.heap.size w7 wr)
              case atStart => exact ⟨0, H, by omega, rfl, rfl, rfl, rfl, HS0.out⟩
              case round =>
                obtain ⟨q, X, hq, hq0, rfl, rfl, hX, hbl⟩ := hrel
                have HBL2 := Lib.hid hbl
                have hXb : X ≤ 11534336 := by have := hitsTo_le g at_ r.base q; omega
                have HX := Lib.hid hX
                have hq0' := Nat.le_of_eq hq0
                have hq0'' := Nat.le_of_eq hq0.symm
                clear hbl hX hq0
                obtain ⟨b1', o1', A1, c1, hA, _, p0, p1, p2, hby1, _, _⟩ := (HW7.out.next HBL2.out).at_ HR.out
                cases hA
                obtain ⟨b2', o2', A2, c2, hA, _, q0, q1, _, hby2, _, _⟩ := (HN7.out.next HBL2.out).at_ HB.out
                cases hA
                rw [HT12.out.1] at q0
                rw [HT12.out.2] at q1 hby2
                by_cases hql : q < r.bytes.length
                · obtain ⟨x, hx⟩ : ∃ x, r.bytes[q]? = some x := ⟨_, List.getElem?_eq_getElem hql⟩
                  obtain ⟨y, hy⟩ : ∃ y, b.bytes[q]? = some y := ⟨_, List.getElem?_eq_getElem (by have := HT12.out.2; omega)⟩
                  obtain ⟨b3, o3, rfl, hF3, x0⟩ := hby1.at_ hx
                  obtain ⟨b4, o4, rfl, hF4, y0⟩ := hby2.at_ hy
                  have htt := HT3.out q x hx
                  have hoff := off_wrap (base := r.base) (q := q) hat
                  rw [show IntKind.u64.wrap (q : Int) = (q : Int) from IntWalk.u64_in _ (by omega)] at hoff
                  have hsu := hitsTo_succ g at_ r.base q
                  generalize off r.base q at_ = d at *
                  have j0 : (0 : Int) ≤ (q : Int) := by omega
                  have j1 : (q : Int) < (r.bytes.length : Int) := by omega
                  rcases HGG.out with rfl | rfl
                  · by_cases hd : d < 8
                    · have ht := htt.1 ⟨by simp, hd⟩
                      rw [hy] at ht
                      obtain ⟨hw, hyy⟩ := ht
                      obtain rfl : y = byteAt v1 d := Option.some.inj hyy
                      rw [hw] at p2
                      rw [if_pos ⟨by simp, hd⟩] at hsu
                      have HSU := Lib.hid hsu
                      have d1 : decide ((d : Int) < 8) = true := by simp; omega
                      have d2 : (0 : Int) ≤ (d : Int) := by omega
                      have d3 : (d : Int) < 8 := by omega
                      have d4 : IntKind.u64.wrap (8 * (d : Int)) = 8 * (d : Int) := IntWalk.u64_in _ (by omega)
                      have d5 : (((byteAt v1 d).toNat : Int) != IntKind.u8.wrap ((v1 : Int) / 2 ^ (8 * (d : Int)).toNat)) = false := by rw [byte_wrap]; simp
                      clear hx hy htt hw hyy hsu hby1 hby2
                      go_wp2
                      obtain ⟨wi, rfl⟩ : ∃ wi : World, wi = wr := ⟨_, rfl⟩
                      (refine wp_region_lines (Below wi.heap.size wi) (by kernel_rfl) (by kernel_rfl) (Below.refl _ _).drew ?_)
                      have hS := (Below.refl wi.heap.size wi).drew
                      (try simp only [])
                      repeat (first | (refine runL_no (by rfl) ?_; (try simp only [Act.put, List.setIfInBounds_toArray, List.set_cons_zero, List.set_cons_succ])) | (refine runL_val (v := ?_) (by rfl) ?_ ?_; rotate_left; (focus (intro w_ hw_; have hc_ := bcell hw_; go_simp; (try with_reducible rfl); done)); (try simp only [Act.put, List.setIfInBounds_toArray, List.set_cons_zero, List.set_cons_succ])))
                      (refine runL_nil ?_)
                      go_wp2
                      go_roundg (r.bytes.length - (q + 1))
                      case measure => omega
                      case rel => exact ⟨q + 1, X + 1, by omega, rfl, by go_num, by go_num, by rw [HX.out, HSU.out]; omega, (HBL2.out.trans (hS.mono HBL2.out.size))⟩
                    · have d1 : decide ((d : Int) < 8) = false := by simp; omega
                      have ht := htt.2 (by simp; try omega)
                      rw [hy] at ht
                      obtain rfl : y = x := Option.some.inj ht
                      rw [if_neg (by simp; try omega)] at hsu
                      have HSU := Lib.hid hsu
                      have e1 : ((y.toNat : Int) != (y.toNat : Int)) = false := by simp
                      clear hx hy htt ht hsu hby1 hby2
                      go_wp2
                      obtain ⟨wi, rfl⟩ : ∃ wi : World, wi = wr := ⟨_, rfl⟩
                      (refine wp_region_lines (Below wi.heap.size wi) (by kernel_rfl) (by kernel_rfl) (Below.refl _ _).drew ?_)
                      have hS := (Below.refl wi.heap.size wi).drew
                      (try simp only [])
                      repeat (first | (refine runL_no (by rfl) ?_; (try simp only [Act.put, List.setIfInBounds_toArray, List.set_cons_zero, List.set_cons_succ])) | (refine runL_val (v := ?_) (by rfl) ?_ ?_; rotate_left; (focus (intro w_ hw_; have hc_ := bcell hw_; go_simp; (try with_reducible rfl); done)); (try simp only [Act.put, List.setIfInBounds_toArray, List.set_cons_zero, List.set_cons_succ])))
                      (refine runL_nil ?_)
                      go_wp2
                      go_roundg (r.bytes.length - (q + 1))
                      case measure => omega
                      case rel => exact ⟨q + 1, X, by omega, rfl, by go_num, by go_num, by rw [HX.out, HSU.out]; omega, (HBL2.out.trans (hS.mono HBL2.out.size))⟩
                  · have ht := htt.2 (by simp; try omega)
                    rw [hy] at ht
                    obtain rfl : y = x := Option.some.inj ht
                    rw [if_neg (by simp; try omega)] at hsu
                    have HSU := Lib.hid hsu
                    have e1 : ((y.toNat : Int) != (y.toNat : Int)) = false := by simp
                    clear hx hy htt ht hsu hby1 hby2
                    go_wp2
                    obtain ⟨wi, rfl⟩ : ∃ wi : World, wi = wr := ⟨_, rfl⟩
                    (refine wp_region_lines (Below wi.heap.size wi) (by kernel_rfl) (by kernel_rfl) (Below.refl _ _).drew ?_)
                    have hS := (Below.refl wi.heap.size wi).drew
                    (try simp only [])
                    repeat (first | (refine runL_no (by rfl) ?_; (try simp only [Act.put, List.setIfInBounds_toArray, List.set_cons_zero, List.set_cons_succ])) | (refine runL_val (v := ?_) (by rfl) ?_ ?_; rotate_left; (focus (intro w_ hw_; have hc_ := bcell hw_; go_simp; (try with_reducible rfl); done)); (try simp only [Act.put, List.setIfInBounds_toArray, List.set_cons_zero, List.set_cons_succ])))
                    (refine runL_nil ?_)
                    go_wp2
                    go_roundg (r.bytes.length - (q + 1))
                    case measure => omega
                    case rel => exact ⟨q + 1, X, by omega, rfl, by go_num, by go_num, by rw [HX.out, HSU.out]; omega, (HBL2.out.trans (hS.mono HBL2.out.size))⟩
                · obtain rfl : q = r.bytes.length := by omega
                  have hall := hitsAll_succ g at_ HR.out
                  have HALL := Lib.hid hall
                  clear hall hby1 hby2
                  go_wp2
                  go_roundg (n - (k + 1))
                  case measure => omega
                  case rel => exact ⟨k + 1, X, by omega, rfl, by go_num, rfl, by rw [HX.out, HALL.out, HH.out], HBL2.out⟩
          · obtain rfl : k = n := by omega
            rcases HGG.out with rfl | rfl
            · have h8' : H = 8 := by rw [HH.out, ← HLEN.out, H88.out rfl]
              subst h8'
              go_wp2
              go_ret
              exact ⟨rfl, HO7.out.below.trans (HBL.out.mono HO7.out.below.size)⟩
            · go_wp2
              go_ret
              exact ⟨rfl, HO7.out.below.trans (HBL.out.mono HO7.out.below.size)⟩
end Go.Proofs.Ytcciaihghhleoaa
