/- keysmithlaw04.MemoryNames: the walk. -/
import Derived.Test.YtcciaihghhleoaaLit
namespace Go.Proofs.Ytcciaihghhleoaa
open Go.RowKit

/-- A memory, and what was before it was made. -/
structure One (w0 w : World) (m : Value) (rs : List Reg) (s e : Nat) : Prop where
  mm : MemAt w (seg s e) m rs
  he : e ≤ w.heap.size
  hs : w0.heap.size ≤ s
  below : Below w0.heap.size w0 w
theorem One.lt {w0 w : World} {m : Value} {rs : List Reg} {s e : Nat} (h : One w0 w m rs s e) : ∀ k, seg s e k → k < w.heap.size := fun _ hk => Nat.lt_of_lt_of_le hk.2 h.he
theorem One.next {w0 w w' : World} {m : Value} {rs : List Reg} {s e : Nat} (h : One w0 w m rs s e) (hb : Below w.heap.size w w') : One w0 w' m rs s e :=
  ⟨h.mm.keep (SameOn.of_below hb h.lt), Nat.le_trans h.he hb.size, h.hs, h.below.trans (hb.mono h.below.size)⟩
theorem One.far {w0 w w' : World} {m : Value} {rs : List Reg} {s e s2 e2 : Nat} (h : One w0 w m rs s e) (hb : Chg (seg s2 e2) w w') (h2 : e ≤ s2) (h3 : w0.heap.size ≤ s2) : One w0 w' m rs s e :=
  ⟨h.mm.keep (hb.same fun k hk => ⟨h.lt k hk, fun h' => by have := hk.2; have := h'.1; omega⟩), Nat.le_trans h.he hb.size, h.hs, h.below.trans (hb.below (fun _ hk h' => by have := h'.1; omega) h.below.size)⟩
theorem One.store {w0 w w' : World} {m : Value} {rs rs' : List Reg} {s e : Nat} (h : One w0 w m rs s e) (hb : Chg (seg s e) w w') (hm : MemAt w' (seg s e) m rs') : One w0 w' m rs' s e :=
  ⟨hm, Nat.le_trans h.he hb.size, h.hs, h.below.trans (hb.below (fun _ hk h' => by have := h'.1; have := h.hs; omega) h.below.size)⟩

def oMem : List Reg := [⟨18446744073709551608, List.replicate 8 0, true⟩]
def oMem2 : List Reg := oMem.set 0 ⟨18446744073709551608, putTo (List.replicate 8 0) 0 7 8, true⟩
def namesMem : List Reg := ofMem.set 0 ⟨100, putTo (List.replicate 16 0) 1 578437695752307201 8, true⟩
def namesMem2 : List Reg := namesMem.set 0 ⟨100, putTo (putTo (List.replicate 16 0) 1 578437695752307201 8) 0 0 8, true⟩
theorem ns0 : storeF oMem 18446744073709551608 7 = some oMem2 := by rfl
theorem ns1 : storeF ofMem 200 1 = none := by rfl
theorem nl1 : loadF ofMem 201 = some 0 := by decide
theorem nl2 : loadF ofMem 202 = none := by decide
theorem ns2 : storeF ofMem 101 578437695752307201 = some namesMem := by rfl
theorem nb1 : bytesF namesMem 101 3 = some [1, 2, 3] := by decide
theorem nb3 : bytesF namesMem 116 0 = none := by decide
theorem ns3 : storeF namesMem 100 0 = some namesMem2 := by rfl
theorem nl3 : loadF namesMem 101 = some 578437695752307201 := by decide

set_option maxRecDepth 100000 in
set_option maxHeartbeats 3200000 in
theorem names_walk (w : World) : Calls Try.prog 6 #[] w fun e w' => e = .returned (.bool true) ∧ Below w.heap.size w w' := by
  have m3 : ∀ w, (Instr.makeSlice 34 (.int .i64 3) (.int .i64 3)).run Try.prog w = .ok (.slice (some ⟨w.heap.size, 0, none⟩) 3 3) (w.alloc (.cells (zeros 3) 5)) := makeB 3 (by decide)
  have m5 : ∀ w, (Instr.makeSlice 34 (.int .i64 5) (.int .i64 5)).run Try.prog w = .ok (.slice (some ⟨w.heap.size, 0, none⟩) 5 5) (w.alloc (.cells (zeros 5) 5)) := makeB 5 (by decide)
  have m8 : ∀ w, (Instr.makeSlice 34 (.int .i64 8) (.int .i64 8)).run Try.prog w = .ok (.slice (some ⟨w.heap.size, 0, none⟩) 8 8) (w.alloc (.cells (zeros 8) 5)) := makeB 8 (by decide)
  have mg : ∀ w, (Instr.makeSlice 34 (.int .i64 1048577) (.int .i64 1048577)).run Try.prog w = .ok (.slice (some ⟨w.heap.size, 0, none⟩) 1048577 1048577) (w.alloc (.cells (zeros 1048577) 5)) := makeB 1048577 (by decide)
  have mr := make9R
  go_enter Try.func6, Try.ntmps6
  go_wp2_with fail
  refine (lives_any _).mono ?_
  rintro e w1 ⟨rfl, hb1⟩
  have HB1 := Lib.hid hb1
  clear hb1
  go_wp2_with fail
  refine (of16 w1).mono ?_
  rintro e w2 ⟨p, rfl, hm, hb2⟩
  obtain ⟨bm, rfl⟩ : ∃ bm, p = .pointer (some ⟨bm, 0, none⟩) := by obtain ⟨bm, v, h, _⟩ := hm; exact ⟨bm, h⟩
  have HO := Lib.hid (⟨hm, Nat.le_refl _, HB1.out.size, HB1.out.trans (hb2.mono HB1.out.size)⟩ : One w w2 (.pointer (some ⟨bm, 0, none⟩)) ofMem w1.heap.size w2.heap.size)
  clear hm hb2 HB1
  go_wp2_with fail
  refine names1 w2 _ ?_
  intro w3 hb
  have HO3 := Lib.hid (HO.out.next hb)
  clear hb HO
  go_wp2
  go_region_with ((go_at_call 11; (first | refine names2 w3 _ _ _ _ _ (.inl ⟨rfl, rfl⟩) rfl rfl ?_ | refine names2 w3 _ _ _ _ _ (.inr ⟨rfl, rfl⟩) rfl rfl ?_); intro w4 hb; have HO4 := Lib.hid (HO3.out.next hb); clear hb HO3))
  all_goals
    go_wp2_with fail
    refine names3 w4 _ 18446744073709551614 3 false 2 (by decide) (by decide) check3 (by decide) ?_
    intro w5 hb
    have HO5 := Lib.hid (HO4.out.next hb)
    clear hb HO4
    go_wp2_with fail
    refine names4 w5 _ ?_
    intro w6 hb
    have HO6 := Lib.hid (HO5.out.next hb)
    clear hb HO5
    go_wp2_with fail
    refine names3 w6 _ 0 1048577 false 3 (by decide) (by decide) check5 (by decide) ?_
    intro w7 hb
    have HO7 := Lib.hid (HO6.out.next hb)
    clear hb HO6 mg m3 m5 mr
    go_wp2_with fail
    refine names6 w7 _ ?_
    intro p2 w8 hm hb
    obtain ⟨b2, rfl⟩ : ∃ bm, p2 = .pointer (some ⟨bm, 0, none⟩) := by obtain ⟨bm, v, h, _⟩ := hm; exact ⟨bm, h⟩
    have HO8 := Lib.hid (HO7.out.next hb)
    have HGE := Lib.hid (And.intro HO7.out.he HO7.out.below.size)
    have HS0 := Lib.hid (Store_some ns0 (by decide) (by decide) hm (fun k hk => hk.2))
    clear hb hm HO7 m8
    go_wp2_with fail
    refine HS0.out.mono ?_
    rintro e w9 ⟨rfl, hm9, hc⟩
    clear hm9
    have HO9 := Lib.hid (HO8.out.far hc HGE.out.1 HGE.out.2)
    clear hc HO8 HGE HS0
    go_wp2_with fail
    refine (Store_none ns1 (by decide) (by decide) HO9.out.mm HO9.out.lt).mono ?_
    rintro e w10 ⟨rfl, hb⟩
    have HO10 := Lib.hid (HO9.out.next hb)
    clear hb HO9
    have hl := Load_any _ w10 _ _ 201 (by decide) HO10.out.mm HO10.out.lt
    rw [nl1] at hl
    have HLD := Lib.hid hl
    clear hl
    go_wp2_with fail
    refine HLD.out.mono ?_
    rintro e w11 ⟨rfl, hb⟩
    have HO11 := Lib.hid (HO10.out.next hb)
    clear hb HO10 HLD
    unfold loadOut
    have hl := Load_any _ w11 _ _ 202 (by decide) HO11.out.mm HO11.out.lt
    rw [nl2] at hl
    have HLD := Lib.hid hl
    clear hl
    go_wp2_with fail
    refine HLD.out.mono ?_
    rintro e w12 ⟨rfl, hb⟩
    have HO12 := Lib.hid (HO11.out.next hb)
    clear hb HO11 HLD
    unfold loadOut
    go_wp2_with fail
    refine (Store_some ns2 (by decide) (by decide) HO12.out.mm HO12.out.lt).mono ?_
    rintro e w13 ⟨rfl, hm, hc⟩
    have HO13 := Lib.hid (HO12.out.store hc hm)
    clear hc hm HO12
    have hl := Bytes_any _ w13 _ _ 101 3 (by decide) (by decide) HO13.out.mm HO13.out.lt
    rw [nb1] at hl
    have HLD := Lib.hid hl
    clear hl
    go_wp2_with fail
    refine HLD.out.mono ?_
    rintro e w14 ⟨rfl, hb⟩
    have HO14 := Lib.hid (HO13.out.next hb)
    clear hb HO13 HLD
    unfold bytesOut strV
    go_wp2_with fail
    refine (Bytes_neg bm w14 101 (-1) (by decide)).mono ?_
    rintro e w15 ⟨rfl, rfl⟩
    unfold strV
    have hl := Bytes_any _ w14 _ _ 116 0 (by decide) (by decide) HO14.out.mm HO14.out.lt
    rw [nb3] at hl
    have HLD := Lib.hid hl
    clear hl
    go_wp2_with fail
    refine HLD.out.mono ?_
    rintro e w15 ⟨rfl, hb⟩
    have HO15 := Lib.hid (HO14.out.next hb)
    clear hb HO14 HLD
    unfold bytesOut strV
    go_wp2_with fail
    refine (MClone_any _ w15 _ _ HO15.out.mm HO15.out.lt).mono ?_
    rintro e w16 ⟨p3, rfl, hm, hb⟩
    obtain ⟨b3, rfl⟩ : ∃ bm, p3 = .pointer (some ⟨bm, 0, none⟩) := by obtain ⟨bm, v, h, _⟩ := hm; exact ⟨bm, h⟩
    have HO16 := Lib.hid (HO15.out.next hb)
    have HGE := Lib.hid (And.intro HO15.out.he HO15.out.below.size)
    have HS0 := Lib.hid (Store_some ns3 (by decide) (by decide) hm (fun k hk => hk.2))
    clear hb hm HO15
    go_wp2_with fail
    refine HS0.out.mono ?_
    rintro e w17 ⟨rfl, hm9, hc⟩
    clear hm9
    have HO17 := Lib.hid (HO16.out.far hc HGE.out.1 HGE.out.2)
    clear hc HO16 HGE HS0
    have hl := Load_any _ w17 _ _ 101 (by decide) HO17.out.mm HO17.out.lt
    rw [nl3] at hl
    have HLD := Lib.hid hl
    clear hl
    go_wp2_with fail
    refine HLD.out.mono ?_
    rintro e w18 ⟨rfl, hb⟩
    have HO18 := Lib.hid (HO17.out.next hb)
    clear hb HO17 HLD
    unfold loadOut
    go_wp2_with fail
    refine (Regions_any _ w18 _ _ HO18.out.mm HO18.out.lt).mono ?_
    rintro e w19 ⟨v, rfl, ho, hb⟩
    have hr := ho.at_ HO18.out.mm.good.base
    obtain ⟨A, c, rfl, _⟩ := hr.form
    obtain ⟨g, o, A1, c1, rfl, hF1, d0, _, _, _, _, _⟩ := hr.at_ (k := 0) (r := namesMem[0]) rfl
    obtain ⟨g', o', A2, c2, hgg, _, f0, _, _, _, _, _⟩ := hr.at_ (k := 1) (r := namesMem[1]) rfl
    cases hgg
    have hgl : g < w19.heap.size := hF1.2
    have d1 : w19.cell? ⟨g, o, none⟩ = some (.int .u64 100) := by
      have h := d0
      rw [Nat.zero_mul, Nat.add_zero] at h
      exact h
    have f1 : w19.cell? ⟨g, o + 3, none⟩ = some (.int .u64 200) := by
      have h := f0
      rw [Nat.one_mul] at h
      exact h
    clear d0 f0
    have HO19 := Lib.hid (HO18.out.next hb)
    clear hb HO18 ho hr hF1
    have hln : (namesMem.length : Nat) = 2 := rfl
    rw [hln]
    clear hln
    go_wp2
    go_ret
    exact ⟨rfl, HO19.out.below⟩
end Go.Proofs.Ytcciaihghhleoaa
