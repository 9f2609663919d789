/- keysmithref04: Store: as memory's. -/
import Derived.Test.YtcciaihghhleoaaRefMem
namespace Go.Proofs.Ytcciaihghhleoaa
open Go.RowKit

set_option maxRecDepth 100000 in
set_option maxHeartbeats 800000 in
theorem RStore_any (p : Value) (w : World) (F : Nat → Prop) (rs : List Reg) (at_ v : Nat) (hat : at_ < 18446744073709551616) (hv : v < 18446744073709551616) (hm : RMemAt w F p rs) (hF : ∀ k, F k → k < w.heap.size) :
    Calls Try.prog 24 #[p, .int .u64 at_, .int .u64 v] w fun e w' =>
      (storeF rs at_ v = none ∧ e = .returned (.int .i64 11) ∧ Below w.heap.size w w') ∨ (∃ rs', storeF rs at_ v = some rs' ∧ e = .returned (.int .i64 0) ∧ RMemAt w' F p rs' ∧ Chg F w w') := by
  have HP := place_any p w F rs at_ 8 (by omega) hat hm
  cases hpl : placeF rs at_ 8 with
  | none =>
    obtain ⟨bm, hp⟩ : ∃ bm, p = .pointer (some ⟨bm, 0, none⟩) := by obtain ⟨bm, v, h, _⟩ := hm; exact ⟨bm, h⟩
    subst hp
    have HC := Lib.hid (placeNo HP hpl)
    have hl : storeF rs at_ v = none := by simp only [storeF, hpl]
    have HL := Lib.hid hl
    clear hl hpl hm HP
    go_enter Try.func24, Try.ntmps24
    go_wp2_with fail
    refine HC.out.mono ?_
    rintro e w1 ⟨rfl, hb1⟩
    go_wp2
    go_ret
    exact .inl ⟨HL.out, rfl, hb1⟩
  | some ik =>
    obtain ⟨i, k⟩ := ik
    have HC := Lib.hid (placeYes HP hpl)
    have HM := Lib.hid hm
    obtain ⟨bm, g, bb, r, m, c, cc, rfl, hri, him, hm8, hkn, hkl, hcc, hbig, hFb, hbmb, hgb, hbml, hgl, hbbl, c0, c1, c2, hrow, hent⟩ := place_at hm hpl
    have i0 : (0 : Int) ≤ (i : Int) := by omega
    have i1 : (i : Int) < (m : Int) := by omega
    have i2 : ¬ ((i : Int) < 0) := by omega
    have i3 : decide ((i : Int) < 0) = false := by simp
    have HFF := Lib.hid hF
    cases hw : r.write
    · have hl : storeF rs at_ v = none := by simp only [storeF, hpl, hri, hw]; rfl
      have HL := Lib.hid hl
      rw [hw] at c2
      clear hl hpl hm HP hri hrow hent hw hF
      go_enter Try.func24, Try.ntmps24
      go_wp2_with fail
      refine HC.out.mono ?_
      rintro e w1 ⟨rfl, hb1⟩
      have d0 := (hb1.cell (p := ⟨bm, 0, none⟩) hbml).trans c0
      have d2 := (hb1.cell (p := ⟨g, i * 3 + 2, none⟩) hgl).trans c2
      go_wp2
      go_ret
      exact .inl ⟨HL.out, rfl, hb1⟩
    · have hl : storeF rs at_ v = some (rs.set i { r with bytes := putTo r.bytes k v 8 }) := by simp only [storeF, hpl, hri, hw]; rfl
      have HL := Lib.hid hl
      have HROW := Lib.hid hrow
      have HRI := Lib.hid hri
      rw [hw] at c2
      clear hl hpl hm HP hri hrow hent hw hF
      go_enter Try.func24, Try.ntmps24
      go_wp2_with fail
      refine HC.out.mono ?_
      rintro e w1 ⟨rfl, hb1⟩
      have d0 := (hb1.cell (p := ⟨bm, 0, none⟩) hbml).trans c0
      have d2 := (hb1.cell (p := ⟨g, i * 3 + 2, none⟩) hgl).trans c2
      have HD1 := Lib.hid ((hb1.cell (p := ⟨g, i * 3 + 1, none⟩) hgl).trans c1)
      have HR1 := Lib.hid (HROW.out.keep (hb1.block bb hbbl))
      have HS1 := Lib.hid hb1.size
      have HE1 : Hid (EntryAt w1 (.pointer (some ⟨bm, 0, none⟩)) i bb r.bytes.length cc) := Lib.hid ⟨bm, g, m, c, rfl, d0, HD1.out⟩
      go_wp2
      go_loopw [9] (fun i wr => ∃ (q : Nat) (z : Int), z = q ∧ q ≤ 8 ∧ i = .int .i64 z ∧ Chg (· = bb) w1 wr ∧ RowsBlk wr bb 5 1 (byteRows (putTo r.bytes k v q))) (fun i _ => 8 - (intOf i).toNat)
      case atStart => exact ⟨0, 0, rfl, by omega, rfl, Chg.refl _ _, HR1.out⟩
      case round =>
        obtain ⟨q, z, hz, hq, rfl, hch, hrw⟩ := hrel
        have HCH := Lib.hid hch
        have HRW := Lib.hid hrw
        have e0 : wr.cell? ⟨bm, 0, none⟩ = some (.slice (some ⟨g, 0, none⟩) m c) := by
          have h1 := hch.block bm (Nat.lt_of_lt_of_le hbml HS1.out) hbmb
          exact (show wr.cell? ⟨bm, 0, none⟩ = w1.cell? ⟨bm, 0, none⟩ by simp [World.cell?, h1]).trans d0
        have e1 : wr.cell? ⟨g, i * 3 + 1, none⟩ = some (.slice (some ⟨bb, 0, none⟩) r.bytes.length cc) := by
          have h1 := hch.block g (Nat.lt_of_lt_of_le hgl HS1.out) hgb
          exact (show wr.cell? ⟨g, i * 3 + 1, none⟩ = w1.cell? ⟨g, i * 3 + 1, none⟩ by simp [World.cell?, h1]).trans HD1.out
        clear hch hrw d0 d2 c0 c1 c2 HC
        rcases (by omega : z = 0 ∨ z = 1 ∨ z = 2 ∨ z = 3 ∨ z = 4 ∨ z = 5 ∨ z = 6 ∨ z = 7 ∨ z = 8) with rfl | rfl | rfl | rfl | rfl | rfl | rfl | rfl | rfl
        · obtain rfl : q = 0 := by omega
          obtain ⟨u, hc⟩ := put_cell HRW.out (q := 0) (by omega)
          have hf := HRW.out.frozen (k + 0)
          have j0 : (0 : Int) ≤ (k : Int) + 0 := by omega
          have j1 : (k : Int) + 0 < (r.bytes.length : Int) := by omega
          have j2 : IntKind.i64.wrap ((k : Int) + 0) = (k : Int) + 0 := IntWalk.i64_in _ (by omega)
          have j3 : ((k : Int) + 0).toNat = k + 0 := by omega
          simp only [Nat.add_zero] at hc hf
          clear hz hq
          go_wp2
          go_roundw
          case rel => exact ⟨1, 1, rfl, by omega, rfl, HCH.out.setCell (.inl rfl) _, put_step HRW.out (q := 0) (by omega) (congrArg (Value.int .u8) (by rw [byteAt_int v 0 1 rfl]; simp))⟩
          case measure => simp [intOf]
        · obtain rfl : q = 1 := by omega
          obtain ⟨u, hc⟩ := put_cell HRW.out (q := 1) (by omega)
          have hf := HRW.out.frozen (k + 1)
          have j0 : (0 : Int) ≤ (k : Int) + 1 := by omega
          have j1 : (k : Int) + 1 < (r.bytes.length : Int) := by omega
          have j2 : IntKind.i64.wrap ((k : Int) + 1) = (k : Int) + 1 := IntWalk.i64_in _ (by omega)
          have j3 : ((k : Int) + 1).toNat = k + 1 := by omega
          clear hz hq
          go_wp2
          go_roundw
          case rel => exact ⟨2, 2, rfl, by omega, rfl, HCH.out.setCell (.inl rfl) _, put_step HRW.out (q := 1) (by omega) (congrArg (Value.int .u8) (by rw [byteAt_int v 1 256 rfl]; simp))⟩
          case measure => simp [intOf]
        · obtain rfl : q = 2 := by omega
          obtain ⟨u, hc⟩ := put_cell HRW.out (q := 2) (by omega)
          have hf := HRW.out.frozen (k + 2)
          have j0 : (0 : Int) ≤ (k : Int) + 2 := by omega
          have j1 : (k : Int) + 2 < (r.bytes.length : Int) := by omega
          have j2 : IntKind.i64.wrap ((k : Int) + 2) = (k : Int) + 2 := IntWalk.i64_in _ (by omega)
          have j3 : ((k : Int) + 2).toNat = k + 2 := by omega
          clear hz hq
          go_wp2
          go_roundw
          case rel => exact ⟨3, 3, rfl, by omega, rfl, HCH.out.setCell (.inl rfl) _, put_step HRW.out (q := 2) (by omega) (congrArg (Value.int .u8) (by rw [byteAt_int v 2 65536 rfl]; simp))⟩
          case measure => simp [intOf]
        · obtain rfl : q = 3 := by omega
          obtain ⟨u, hc⟩ := put_cell HRW.out (q := 3) (by omega)
          have hf := HRW.out.frozen (k + 3)
          have j0 : (0 : Int) ≤ (k : Int) + 3 := by omega
          have j1 : (k : Int) + 3 < (r.bytes.length : Int) := by omega
          have j2 : IntKind.i64.wrap ((k : Int) + 3) = (k : Int) + 3 := IntWalk.i64_in _ (by omega)
          have j3 : ((k : Int) + 3).toNat = k + 3 := by omega
          clear hz hq
          go_wp2
          go_roundw
          case rel => exact ⟨4, 4, rfl, by omega, rfl, HCH.out.setCell (.inl rfl) _, put_step HRW.out (q := 3) (by omega) (congrArg (Value.int .u8) (by rw [byteAt_int v 3 16777216 rfl]; simp))⟩
          case measure => simp [intOf]
        · obtain rfl : q = 4 := by omega
          obtain ⟨u, hc⟩ := put_cell HRW.out (q := 4) (by omega)
          have hf := HRW.out.frozen (k + 4)
          have j0 : (0 : Int) ≤ (k : Int) + 4 := by omega
          have j1 : (k : Int) + 4 < (r.bytes.length : Int) := by omega
          have j2 : IntKind.i64.wrap ((k : Int) + 4) = (k : Int) + 4 := IntWalk.i64_in _ (by omega)
          have j3 : ((k : Int) + 4).toNat = k + 4 := by omega
          clear hz hq
          go_wp2
          go_roundw
          case rel => exact ⟨5, 5, rfl, by omega, rfl, HCH.out.setCell (.inl rfl) _, put_step HRW.out (q := 4) (by omega) (congrArg (Value.int .u8) (by rw [byteAt_int v 4 4294967296 rfl]; simp))⟩
          case measure => simp [intOf]
        · obtain rfl : q = 5 := by omega
          obtain ⟨u, hc⟩ := put_cell HRW.out (q := 5) (by omega)
          have hf := HRW.out.frozen (k + 5)
          have j0 : (0 : Int) ≤ (k : Int) + 5 := by omega
          have j1 : (k : Int) + 5 < (r.bytes.length : Int) := by omega
          have j2 : IntKind.i64.wrap ((k : Int) + 5) = (k : Int) + 5 := IntWalk.i64_in _ (by omega)
          have j3 : ((k : Int) + 5).toNat = k + 5 := by omega
          clear hz hq
          go_wp2
          go_roundw
          case rel => exact ⟨6, 6, rfl, by omega, rfl, HCH.out.setCell (.inl rfl) _, put_step HRW.out (q := 5) (by omega) (congrArg (Value.int .u8) (by rw [byteAt_int v 5 1099511627776 rfl]; simp))⟩
          case measure => simp [intOf]
        · obtain rfl : q = 6 := by omega
          obtain ⟨u, hc⟩ := put_cell HRW.out (q := 6) (by omega)
          have hf := HRW.out.frozen (k + 6)
          have j0 : (0 : Int) ≤ (k : Int) + 6 := by omega
          have j1 : (k : Int) + 6 < (r.bytes.length : Int) := by omega
          have j2 : IntKind.i64.wrap ((k : Int) + 6) = (k : Int) + 6 := IntWalk.i64_in _ (by omega)
          have j3 : ((k : Int) + 6).toNat = k + 6 := by omega
          clear hz hq
          go_wp2
          go_roundw
          case rel => exact ⟨7, 7, rfl, by omega, rfl, HCH.out.setCell (.inl rfl) _, put_step HRW.out (q := 6) (by omega) (congrArg (Value.int .u8) (by rw [byteAt_int v 6 281474976710656 rfl]; simp))⟩
          case measure => simp [intOf]
        · obtain rfl : q = 7 := by omega
          obtain ⟨u, hc⟩ := put_cell HRW.out (q := 7) (by omega)
          have hf := HRW.out.frozen (k + 7)
          have j0 : (0 : Int) ≤ (k : Int) + 7 := by omega
          have j1 : (k : Int) + 7 < (r.bytes.length : Int) := by omega
          have j2 : IntKind.i64.wrap ((k : Int) + 7) = (k : Int) + 7 := IntWalk.i64_in _ (by omega)
          have j3 : ((k : Int) + 7).toNat = k + 7 := by omega
          clear hz hq
          go_wp2
          go_roundw
          case rel => exact ⟨8, 8, rfl, by omega, rfl, HCH.out.setCell (.inl rfl) _, put_step HRW.out (q := 7) (by omega) (congrArg (Value.int .u8) (by rw [byteAt_int v 7 72057594037927936 rfl]; omega))⟩
          case measure => simp [intOf]
        · obtain rfl : q = 8 := by omega
          clear hz hq
          have hmem := (HM.out.keep (SameOn.of_below hb1 HFF.out)).put HE1.out HRI.out HCH.out HRW.out (putTo_length _ _ _ _)
          have hchg : Chg F w wr := (Chg.of_below hb1).trans' HCH.out (fun q _ hq => by rw [hq]; exact hFb)
          have HMEM := Lib.hid hmem
          have HCHG := Lib.hid hchg
          clear hmem hchg
          go_wp2
          go_ret
          exact .inr ⟨_, HL.out, rfl, HMEM.out, HCHG.out⟩
end Go.Proofs.Ytcciaihghhleoaa
