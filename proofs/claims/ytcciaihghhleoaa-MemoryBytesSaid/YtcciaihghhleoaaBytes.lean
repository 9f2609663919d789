/- keysmithlaw04.MemoryBytes: the walk. -/
import Derived.Test.YtcciaihghhleoaaOne
import Derived.Test.YtcciaihghhleoaaPick
import Derived.Test.YtcciaihghhleoaaPlainBytes
import Derived.Test.YtcciaihghhleoaaRegsPut
import Derived.Deep.DeepCutAuto
import Derived.Deep.LoopGhost
namespace Go.Proofs.Ytcciaihghhleoaa
open Go.RowKit

theorem RegsOwn.val {w : World} {F : Nat → Prop} {v : Value} {l : List Reg} {a : Addr} {x : UInt8} {u : Int} (h : RegsOwn (w.setCell a (byteV x)) F v l) (hu : u = (x.toNat : Int)) : RegsOwn (w.setCell a (.int .u8 u)) F v l := by
  subst hu; exact h

set_option maxRecDepth 100000 in
set_option maxHeartbeats 3200000 in
theorem bytes_walk (v : Value) (l : List Reg) (at_ : Nat) (x1 x2 : Int) (w : World) (hl : RegsAt w (fun k => k < w.heap.size) v l) (hn : l.length ≤ 9223372036854775807) (hat : at_ < 18446744073709551616) :
    Calls Try.prog 5 #[v, .int .u64 at_, .int .i64 x1, .int .i64 x2] w fun e w' => e = .returned (.bool true) ∧ Below w.heap.size w w' := by
  obtain ⟨A, c, rfl, hlc⟩ := hl.form
  have HL := Lib.hid hl
  clear hl
  generalize hln : l.length = n at *
  have HN := Lib.hid hln
  clear hln
  go_enter Try.func5, Try.ntmps5
  go_wp2_with fail
  refine (lives_any _).mono ?_
  rintro e w1 ⟨rfl, hb1⟩
  have H1 := Lib.hid (Light_any _ w1 _ l (by rw [HN.out]; exact hn) (HL.out.next hb1))
  have HB1 := Lib.hid hb1
  clear hb1
  cases hlight : lightR l
  · rw [hlight] at H1
    go_wp2_with ((with_reducible refine (H1.out).mono ?_); rintro e w2 ⟨rfl, hb2⟩)
    go_ret
    exact ⟨rfl, HB1.out.trans (hb2.mono HB1.out.size)⟩
  · rw [hlight] at H1
    have hn10 : n ≤ 10 := by
      have h := hlight
      simp only [lightR, Bool.and_eq_true, decide_eq_true_eq] at h
      have := HN.out; omega
    go_wp2_with ((with_reducible refine (H1.out).mono ?_); rintro e w2 ⟨rfl, hb2⟩; have HB2 := Lib.hid (HB1.out.trans (hb2.mono HB1.out.size)); clear hb2)
    have hl2 : RegsAt w2 (fun k => k < w2.heap.size) (.slice A n c) l := HL.out.next HB2.out
    have hN := New_any _ w2 _ l (by rw [HN.out]; exact hn) hl2 (fun _ h => h)
    have HNEW := Lib.hid hN
    clear hN hl2
    go_wp2_with fail
    refine HNEW.out.mono ?_
    rintro e w3 ⟨hb3, hres⟩
    have hlt3 := hb3.size
    have HB3 := Lib.hid (HB2.out.trans (hb3.mono HB2.out.size))
    have HSZ := Lib.hid (And.intro HB2.out.size hlt3)
    clear hb3 hlt3 HNEW H1 HB1
    rcases hres with ⟨h0, rfl⟩ | ⟨_, p, rfl, hm⟩
    · have hne : (checkF l != 0) = true := by rw [bne_iff_ne]; exact h0
      generalize checkF l = ce at *
      clear h0
      go_wp2
      go_ret
      exact ⟨rfl, HB3.out⟩
    · generalize sortBy Reg.base l = rs at *
      obtain ⟨bm, rfl⟩ : ∃ bm, p = .pointer (some ⟨bm, 0, none⟩) := by obtain ⟨bm, v, h, _⟩ := hm; exact ⟨bm, h⟩
      have HO := Lib.hid (One.mk (w0 := w) hm (Nat.le_refl _) HSZ.out.1 HB3.out)
      have HG := Lib.hid hm.good
      clear hm HSZ HB3 HB2 HL hlight
      go_wp2_with fail
      refine (Pick_any x1 20 (by decide) (by decide) _).mono ?_
      rintro e w4 ⟨p1, hp1, rfl, rfl⟩
      go_wp2_with fail
      refine (Pick_any x2 20 (by decide) (by decide) _).mono ?_
      rintro e w4 ⟨p2, hp2, rfl, rfl⟩
      have k0 : (0 : Int) ≤ (p1 : Int) := by omega
      have k1 : (0 : Int) ≤ (p2 : Int) := by omega
      have k2 : (p1 : Int) + (p2 : Int) ≤ 38 := by omega
      have hby := Bytes_any _ w3 _ rs at_ (p1 + p2) (by omega) hat HO.out.mm HO.out.lt
      cases hF : bytesF rs at_ (p1 + p2) with
      | none =>
        rw [hF] at hby
        have HBY := Lib.hid hby
        clear hby
        go_wp2_with fail
        refine HBY.out.mono ?_
        rintro e w5 ⟨rfl, hb⟩
        have HO5 := Lib.hid (HO.out.next hb)
        clear hb HO HBY hF
        unfold bytesOut strV
        go_wp2
        go_ret
        exact ⟨rfl, HO5.out.below⟩
      | some L =>
        rw [hF] at hby
        obtain ⟨hL, hF1, hF2, hF3⟩ := bytes_split HG.out hF
        have HBY := Lib.hid hby
        have HF0 := Lib.hid hF
        have HF1 := Lib.hid hF1
        have HF2 := Lib.hid hF2
        have HF3 := Lib.hid hF3
        have HLL := Lib.hid hL
        clear hby hF hF1 hF2 hF3 hL
        go_wp2_with fail
        refine HBY.out.mono ?_
        rintro e w5 ⟨rfl, hb⟩
        have HO5 := Lib.hid (HO.out.next hb)
        clear hb HO HBY
        unfold bytesOut strV
        have hby := Bytes_any _ w5 _ rs at_ p1 (by omega) hat HO5.out.mm HO5.out.lt
        rw [HF1.out] at hby
        have HBY := Lib.hid hby
        clear hby
        go_wp2_with fail
        refine HBY.out.mono ?_
        rintro e w6 ⟨rfl, hb⟩
        have HO6 := Lib.hid (HO5.out.next hb)
        clear hb HO5 HBY
        unfold bytesOut strV
        go_wp2_with fail
        have e : IntKind.u64.wrap ((at_ : Int) + (p1 : Int)) = (((at_ + p1) % 18446744073709551616 : Nat) : Int) := by rw [wrapU]; omega
        have hby := Bytes_any _ w6 _ rs ((at_ + p1) % 18446744073709551616) p2 (by omega) (by omega) HO6.out.mm HO6.out.lt
        rw [← e] at hby
        clear e
        obtain ⟨M, y, hM, hM2⟩ : ∃ (M : List UInt8) (y : Int), bytesOut (bytesF rs ((at_ + p1) % 18446744073709551616) p2) = .tuple #[strV M, .int .i64 y] ∧ (0 < p2 → M = L.drop p1 ∧ y = 0) := by
          rcases Nat.eq_zero_or_pos p2 with h | h
          · cases bytesF rs ((at_ + p1) % 18446744073709551616) p2
            · exact ⟨_, _, rfl, fun h' => by omega⟩
            · exact ⟨_, _, rfl, fun h' => by omega⟩
          · obtain ⟨h1, h2⟩ := HF2.out h
            rw [Nat.mod_eq_of_lt h1, h2]
            exact ⟨_, _, rfl, fun _ => ⟨rfl, rfl⟩⟩
        rw [hM] at hby
        have HBY := Lib.hid hby
        have HM2 := Lib.hid hM2
        clear hby hM hM2
        refine HBY.out.mono ?_
        rintro e w7 ⟨rfl, hb⟩
        have HO7 := Lib.hid (HO6.out.next hb)
        clear hb HO6 HBY
        unfold strV
        have q1 : p1 ≤ L.length := by have := HLL.out; omega
        go_upto_region 14 with (fail)
        go_cut [100] (fun s wx => s = .bool false ∧ w7 = wx)
        case first =>
          have g1 : (L.take p1 == (ByteArray.extract ⟨L.toArray⟩ 0 p1).toList) = true := by rw [sub_lo]; simp
          rcases Nat.eq_zero_or_pos p2 with h | h
          · obtain rfl := h
            go_wp2
            go_meet
            exact ⟨rfl, rfl⟩
          · obtain ⟨rfl, rfl⟩ := HM2.out h
            have d1 : decide ((0 : Int) < (p2 : Int)) = true := by simp; omega
            have d2 : decide (0 < p2) = true := by simp; omega
            have g2 : (L.drop p1 == (ByteArray.extract ⟨L.toArray⟩ p1 L.length).toList) = true := by rw [sub_hi _ _ _ (Nat.le_refl _)]; simp
            go_wp2
            go_meet
            exact ⟨rfl, rfl⟩
        case rest =>
          obtain ⟨rfl, rfl⟩ := hcut
          clear HM2
          go_upto_if 104 with (fail)
          go_cut [17, 18, 19] (fun _ _ _ wx => Below w7.heap.size w7 wx)
          case first =>
            by_cases h8 : 8 ≤ p1 + p2
            · have d1 : decide ((8 : Int) ≤ (p1 : Int) + (p2 : Int)) = true := by simp; omega
              have hld := Load_any _ w7 _ rs at_ hat HO7.out.mm HO7.out.lt
              rw [HF3.out h8] at hld
              have hlen : 8 ≤ L.length := by have := HLL.out; omega
              have HLD := Lib.hid hld
              clear hld
              go_wp2_with fail
              refine HLD.out.mono ?_
              rintro e w8 ⟨rfl, hb⟩
              unfold loadOut
              have hW := fun (x : Nat) (b : UInt8) (hx : x < 8) (h : L[x]? = some b) => byte_of_word (L.take 8) x b (by rw [List.getElem?_take, if_pos hx]; exact h)
              have HW := Lib.hid hW
              have HB := Lib.hid hb
              clear hW hb HLD
              generalize wordOf (L.take 8) = V at *
              go_wp2
              go_loopg [19] 8 (fun g x wx => ∃ z : Nat, z ≤ 8 ∧ g = 8 - z ∧ x = .int .i64 z ∧ w8 = wx)
              case atStart => exact ⟨0, by omega, rfl, rfl, rfl⟩
              case round =>
                obtain ⟨z, hz, hg, rfl, rfl⟩ := hrel
                have hg1 := Nat.le_of_eq hg
                have hg2 := Nat.le_of_eq hg.symm
                clear hg
                by_cases hz8 : z < 8
                · have d2 : decide ((z : Int) < 8) = true := by simp; omega
                  have j0 : (0 : Int) ≤ (z : Int) := by omega
                  have j1 : (z : Int) < (L.length : Int) := by omega
                  have d3 := byte_test hz8 (L := L) (V := V) (by show z < L.toArray.size; simp; omega) HW.out
                  go_wp2
                  go_roundg (8 - (z + 1))
                  case measure => omega
                  case rel => exact ⟨z + 1, by omega, rfl, by go_num, rfl⟩
                · have d2 : decide ((z : Int) < 8) = false := by simp; omega
                  go_wp2
                  go_meet
                  exact HB.out
            · have d1 : decide ((8 : Int) ≤ (p1 : Int) + (p2 : Int)) = false := by simp; omega
              go_wp2
              go_meet
              exact Below.refl _ _
          case rest =>
            obtain ⟨w8, rfl⟩ : ∃ w8 : World, w8 = wc := ⟨_, rfl⟩
            have HO8 := Lib.hid (HO7.out.next hcut)
            clear HO7 hcut
            go_wp2_with fail
            refine (Regions_any _ w8 _ _ HO8.out.mm HO8.out.lt).mono ?_
            rintro e w9 ⟨vR, rfl, ho, hb⟩
            obtain ⟨AR, cR, rfl, _⟩ := (ho.at_ HO8.out.mm.good.base).form
            have HO9 := Lib.hid (HO8.out.next hb)
            have HGE := Lib.hid HO8.out.he
            have HGB := Lib.hid HO8.out.below.size
            have hrn : rs.length ≤ 8 := HG.out.len
            have hRB : ∀ r ∈ rs, r.bytes.length ≤ 1048576 := fun r hr => (HG.out.bytes r hr).2
            have HRB := Lib.hid hRB
            have HR := Lib.hid ho
            have HS9 := Lib.hid hb.size
            clear hb ho HO8 hRB
            generalize hrl : rs.length = nr at *
            have HRL := Lib.hid hrl
            clear hrl
            go_wp2
            go_loopg [21] nr (fun g i wx => ∃ (k : Nat) (rs2 : List Reg), k ≤ nr ∧ g = nr - k ∧ i = .int .i64 k ∧ rs2.length = nr ∧ (∀ r ∈ rs2, r.bytes.length ≤ 1048576) ∧ RegsOwn wx (seg w8.heap.size w9.heap.size) (.slice AR nr cR) rs2 ∧ Chg (seg w8.heap.size w9.heap.size) w9 wx)
            case atStart => exact ⟨0, rs, by omega, rfl, rfl, HRL.out, HRB.out, HR.out, Chg.refl _ _⟩
            case round =>
              obtain ⟨k, rs2, hk, hg, rfl, hl2, hb2, hown, hch⟩ := hrel
              have hg1 := Nat.le_of_eq hg
              have hg2 := Nat.le_of_eq hg.symm
              have HL2 := Lib.hid hl2
              have HB2 := Lib.hid hb2
              have HOWN := Lib.hid hown
              have HCH := Lib.hid hch
              clear hg hl2 hb2 hown hch HR
              by_cases hkn : k < nr
              · have i0 : (0 : Int) ≤ (k : Int) := by omega
                have i1 : (k : Int) < (nr : Int) := by omega
                go_wp2
                obtain ⟨wo, rfl⟩ : ∃ wo : World, wo = wr := ⟨_, rfl⟩
                obtain ⟨r, hr⟩ : ∃ r, rs2[k]? = some r := ⟨_, List.getElem?_eq_getElem (by have := HL2.out; omega)⟩
                have hm := HB2.out r (List.mem_of_getElem? hr)
                have HR0 := Lib.hid hr
                clear hr
                generalize hmm : r.bytes.length = m at *
                have HM := Lib.hid hmm
                clear hmm
                go_loopg [22] m (fun g i wx => ∃ (q : Nat) (rs3 : List Reg) (r3 : Reg), q ≤ m ∧ g = m - q ∧ i = .int .i64 q ∧ rs3.length = nr ∧ (∀ r ∈ rs3, r.bytes.length ≤ 1048576) ∧ rs3[k]? = some r3 ∧ r3.bytes.length = m ∧ RegsOwn wx (seg w8.heap.size w9.heap.size) (.slice AR nr cR) rs3 ∧ Chg (seg w8.heap.size w9.heap.size) w9 wx)
                case atStart => exact ⟨0, rs2, r, by omega, rfl, rfl, HL2.out, HB2.out, HR0.out, HM.out, HOWN.out, HCH.out⟩
                case round =>
                  obtain ⟨q, rs3, r3, hq, hg, rfl, hl3, hb3, hr3, hm3, hown, hch⟩ := hrel
                  have hg3 := Nat.le_of_eq hg
                  have hg4 := Nat.le_of_eq hg.symm
                  obtain ⟨g0, bb, cc, rfl, hFg, hFb, hgl, hbl, _, c1, _, hcc, hrow⟩ := hown.ent hr3
                  rw [hm3] at c1
                  have HL3 := Lib.hid hl3
                  have HB3 := Lib.hid hb3
                  have HR3 := Lib.hid hr3
                  have HM3 := Lib.hid hm3
                  have HOWN3 := Lib.hid hown
                  have HCH3 := Lib.hid hch
                  have HROW := Lib.hid hrow
                  clear hg hl3 hb3 hr3 hm3 hown hch hrow hcc
                  by_cases hqm : q < m
                  · obtain ⟨y, hy⟩ : ∃ y, r3.bytes[q]? = some y := ⟨_, List.getElem?_eq_getElem (by have := HM3.out; omega)⟩
                    have hx : (byteRows r3.bytes)[q]? = some [byteV y] := by rw [byteRows, List.getElem?_map, hy]; rfl
                    have c2 := HROW.out.cell hx (j := 0) (by rfl)
                    simp only [Nat.mul_one, Nat.add_zero, byteV] at c2
                    have f2 := HROW.out.frozen q
                    have HNEXT := Lib.hid (HOWN3.out.put1 HR3.out rfl c1 HROW.out (by have := HM3.out; omega : q < r3.bytes.length) (y + 1))
                    have j0 : (0 : Int) ≤ (q : Int) := by omega
                    have j1 : (q : Int) < (m : Int) := by omega
                    clear hx hy
                    go_wp2
                    go_roundg (m - (q + 1))
                    case measure => omega
                    case rel =>
                      have hkl : k < rs3.length := by have := HL3.out; omega
                      refine ⟨q + 1, rs3.set k { r3 with bytes := r3.bytes.set q (y + 1) }, { r3 with bytes := r3.bytes.set q (y + 1) }, by omega, rfl, by go_num, by rw [List.length_set]; exact HL3.out, fun r hr => ?_, by rw [List.getElem?_set_self hkl], by simp only [List.length_set]; exact HM3.out, HNEXT.out.val ?_, HCH3.out.setCell (.inl hFb) _⟩
                      · rcases List.mem_or_eq_of_mem_set hr with h | rfl
                        · exact HB3.out r h
                        · simp only [List.length_set]; exact HB3.out r3 (List.mem_of_getElem? HR3.out)
                      · simp [UInt8.toNat_add]
                  · obtain rfl : q = m := by omega
                    go_wp2
                    go_roundg (nr - (k + 1))
                    case measure => omega
                    case rel => exact ⟨k + 1, rs3, by omega, rfl, by go_num, HL3.out, HB3.out, HOWN3.out, HCH3.out⟩
              · have hm9 := HO9.out.mm.keep (HCH.out.same fun k hk => ⟨HO9.out.lt k hk, fun h' => by have := hk.2; have := h'.1; have := HGE.out; omega⟩)
                have hbe : Below w.heap.size w wr := HO9.out.below.trans (HCH.out.below (fun k hk h' => by have := h'.1; have := HGB.out; omega) HO9.out.below.size)
                have HBE := Lib.hid hbe
                have hby := Bytes_any _ wr _ rs at_ (p1 + p2) (by omega) hat hm9 (fun k hk => Nat.lt_of_lt_of_le (HO9.out.lt k hk) HCH.out.size)
                rw [HF0.out] at hby
                have HBY := Lib.hid hby
                clear hby hm9 hbe
                go_wp2_with fail
                refine HBY.out.mono ?_
                rintro e w10 ⟨rfl, hb⟩
                have HB10 := Lib.hid hb
                clear hb HBY
                unfold bytesOut strV
                have g5 : (L == L) = true := by simp
                go_wp2
                go_ret
                exact ⟨rfl, HBE.out.trans (HB10.out.mono HBE.out.size)⟩
end Go.Proofs.Ytcciaihghhleoaa
