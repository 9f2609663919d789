/- The stepper's load, store, pop, jump; Address. -/
import Derived.Test.YtmanhikpccnfaaaGreatStepB
import Derived.Test.YtmanhikpccnfaaaGreatSays
namespace Go.Proofs.YtmanhikpccnfaaaGreat
open Go.RowKit

variable {w : World} {base b : Nat} {x : Stp} {evs : List Ev} {F : Nat → Prop} {rs : List Reg}

/-- Blocks of F, and what was made from base on. -/
def Over (F : Nat → Prop) (base : Nat) : Nat → Prop := fun k => F k ∨ base ≤ k
theorem Over.below {w w' : World} (h : Below base w w') : Chg (Over F base) w w' := ⟨h.os, h.tape, h.output, h.size, fun k _ hn => h.block k (by rcases Nat.lt_or_ge k base with h' | h'; exact h'; exact absurd (.inr h') hn)⟩

set_option maxRecDepth 100000 in
set_option maxHeartbeats 400000 in
theorem load_any (h : Run w base b x evs) (hm : MemAt w F x.m rs) (hF : ∀ k, F k → k < base) (at_ : Nat) (hat : at_ < 18446744073709551616) (hf : evs.length ≤ 90) :
    Calls Tryz.prog 67 #[.pointer (some ⟨b, 0, none⟩), .int .u64 at_] w fun e w' => e = .returned (.int .u64 ((loadVE (loadF rs at_)).1 : Nat)) ∧ Below base w w' ∧ ∃ v, Run w' base b { x with e := (loadVE (loadF rs at_)).2, l := v } (evs ++ [⟨2, at_⟩]) := by
  have hl := Load_any x.m w F rs at_ hat hm (fun k hk => Nat.lt_of_lt_of_le (hF k hk) h.base_le)
  rw [loadOut_eq] at hl
  generalize (loadVE (loadF rs at_)).1 = v at *
  generalize (loadVE (loadF rs at_)).2 = ec at *
  have HL := Lib.hid hl
  have H := Lib.hid h
  obtain ⟨bm, hp⟩ : ∃ bm, x.m = .pointer (some ⟨bm, 0, none⟩) := by obtain ⟨bm, v, h, _⟩ := hm; exact ⟨bm, h⟩
  obtain ⟨_, _, _, _, _, _, _, _, _, _, _, _, _, c29, _, c31⟩ := h.cells
  have hbl := h.lt
  have HFEW := Lib.hid hf
  rw [hp] at c29 HL
  clear h hm hl hf hp
  go_enter Tryz.func67, Tryz.ntmps67
  go_wp2_with fail
  refine HL.out.mono ?_
  rintro e w1 ⟨rfl, hb1⟩
  have c31' := (hb1.cell (p := ⟨b, 31, none⟩) hbl).trans c31
  have H1 := Lib.hid (H.out.next hb1)
  have f31 := H1.out.frozen 31
  have HB1 := Lib.hid (hb1.mono H.out.base_le)
  clear hb1 c29 c31
  go_wp2_with fail
  refine (see_any (H1.out.setE ec) 2 at_ HFEW.out).mono ?_
  rintro e w2 ⟨rfl, hb2, v2, hr2⟩
  have HR2 := Lib.hid hr2
  have HB2 := Lib.hid ((HB1.out.setCell H.out.le _).trans hb2)
  clear hr2 hb2 c31' f31
  go_wp2
  go_ret
  exact ⟨rfl, HB2.out, v2, HR2.out⟩

set_option maxRecDepth 100000 in
set_option maxHeartbeats 400000 in
theorem store_any (h : Run w base b x evs) (hm : MemAt w F x.m rs) (hF : ∀ k, F k → k < base) (at_ v : Nat) (hat : at_ < 18446744073709551616) (hv : v < 18446744073709551616) (hf : evs.length ≤ 90) :
    Calls Tryz.prog 68 #[.pointer (some ⟨b, 0, none⟩), .int .u64 at_, .int .u64 v] w fun e w' => ∃ g rs2 vl, e = .returned (.tuple #[]) ∧ StoreSays rs at_ v g rs2 ∧ MemAt w' F x.m rs2 ∧ Chg (Over F base) w w' ∧ Run w' base b { x with e := g, l := vl } (evs ++ [⟨3, at_⟩]) := by
  have hl := Store_says x.m w F rs at_ v hat hv hm (fun k hk => Nat.lt_of_lt_of_le (hF k hk) h.base_le)
  have HL := Lib.hid hl
  have H := Lib.hid h
  obtain ⟨bm, hp⟩ : ∃ bm, x.m = .pointer (some ⟨bm, 0, none⟩) := by obtain ⟨bm, v, h, _⟩ := hm; exact ⟨bm, h⟩
  obtain ⟨_, _, _, _, _, _, _, _, _, _, _, _, _, c29, _, _⟩ := h.cells
  have hbl := h.lt
  have HFEW := Lib.hid hf
  have HFB := Lib.hid hF
  rw [hp] at c29 HL
  have HP := Lib.hid hp
  clear h hm hl hf hp hF
  go_enter Tryz.func68, Tryz.ntmps68
  go_wp2_with fail
  refine HL.out.mono ?_
  rintro e w1 ⟨g, rs2, rfl, hsay, hm2, hc⟩
  have H1 := Lib.hid (H.out.chg hc HFB.out)
  obtain ⟨_, _, _, _, _, _, _, _, _, _, _, _, _, _, _, c31⟩ := H1.out.cells
  have f31 := H1.out.frozen 31
  have HC := Lib.hid (hc.mono (G := Over F base) (fun k _ hk => .inl hk))
  have HS := Lib.hid hsay
  have HM := Lib.hid hm2
  clear hc hsay hm2 c29
  go_wp2_with fail
  refine (see_any (H1.out.setE g) 3 at_ HFEW.out).mono ?_
  rintro e w2 ⟨rfl, hb2, v2, hr2⟩
  have hb3 := ((Below.refl base w1).setCell H.out.le _).trans hb2
  have HR2 := Lib.hid hr2
  have HB2 := Lib.hid (HC.out.trans (Over.below (F := F) hb3))
  have HM2 := Lib.hid (HM.out.keep (SameOn.of_below hb3 HFB.out))
  clear hr2 hb2 hb3 c31 f31
  go_wp2
  go_end0
  exact ⟨g, rs2, v2, rfl, HS.out, by rw [HP.out]; exact HM2.out, HB2.out, HR2.out⟩
end Go.Proofs.YtmanhikpccnfaaaGreat
