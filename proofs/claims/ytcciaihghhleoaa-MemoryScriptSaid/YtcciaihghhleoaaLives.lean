/- keysmithlaw04.of (of 16), lives. -/
import Derived.Test.YtcciaihghhleoaaMem
namespace Go.Proofs.Ytcciaihghhleoaa
open Go.RowKit

/-- So many noughts. -/
def zeros (n : Nat) : Array Value := ((List.replicate n (0 : UInt8)).map byteV).toArray

theorem make9 (w : World) : (Instr.makeSlice 34 (.int .i64 9) (.int .i64 9)).run Try.prog w = .ok (.slice (some ⟨w.heap.size, 0, none⟩) 9 9) (w.alloc (.cells (zeros 9) 5)) := by kernel_rfl
theorem make16 (w : World) : (Instr.makeSlice 34 (.int .i64 16) (.int .i64 16)).run Try.prog w = .ok (.slice (some ⟨w.heap.size, 0, none⟩) 16 16) (w.alloc (.cells (zeros 16) 5)) := by kernel_rfl

theorem zeros_at {w : World} {F : Nat → Prop} {b n : Nat} (h : w.heap[b]? = some (.cells (zeros n) 5 (0, 0))) (hF : F b) : BytesAt w F (.slice (some ⟨b, 0, none⟩) n n) (List.replicate n 0) := by
  refine ⟨some ⟨b, 0, none⟩, n, by simp, by simp, fun r hr => by obtain ⟨x, _, rfl⟩ := List.mem_map.1 hr; rfl, fun _ => ⟨b, 0, rfl, hF, fun i j r u hr hu => ?_⟩⟩
  rw [List.getElem?_map] at hr
  cases hx : (List.replicate n (0 : UInt8))[i]? with
  | none => rw [hx] at hr; cases hr
  | some x =>
    rw [hx] at hr
    cases hr
    cases j with
    | succ j => simp at hu
    | zero =>
      simp at hu
      subst hu
      simp only [World.cell?, h, zeros]
      have hx' : x = 0 := by have := List.mem_of_getElem? hx; simp at this; exact this.2
      have hi : i < n := by have := (List.getElem?_eq_some_iff.1 hx).1; simpa using this
      subst hx'
      simp [hi]

def ofList : List Reg := [⟨200, List.replicate 9 0, false⟩, ⟨100, List.replicate 16 0, true⟩]
def ofMem : List Reg := [⟨100, List.replicate 16 0, true⟩, ⟨200, List.replicate 9 0, false⟩]

theorem ofList_check : checkF ofList = 0 := by decide
theorem ofList_sort : sortBy Reg.base ofList = ofMem := by rfl

def ofCells (b1 b2 : Nat) : Array Value := #[.int .u64 200, .slice (some ⟨b1, 0, none⟩) 9 9, .bool false, .int .u64 100, .slice (some ⟨b2, 0, none⟩) 16 16, .bool true]

theorem ofList_at {w : World} {F : Nat → Prop} {b1 b2 b3 : Nat} (h1 : w.heap[b1]? = some (.cells (zeros 9) 5 (0, 0))) (h2 : w.heap[b2]? = some (.cells (zeros 16) 5 (0, 0)))
    (h3 : w.heap[b3]? = some (.cells (ofCells b1 b2) 36 (0, 0))) (f1 : F b1) (f2 : F b2) (f3 : F b3) : RegsAt w F (.slice (some ⟨b3, 0, none⟩) 2 2) ofList := by
  refine ⟨[(⟨200, List.replicate 9 0, false⟩, ⟨200, some ⟨b1, 0, none⟩, 9, 9, false⟩), (⟨100, List.replicate 16 0, true⟩, ⟨100, some ⟨b2, 0, none⟩, 16, 16, true⟩)], rfl, ⟨_, 2, rfl, by simp, by simp [entRow], fun _ => ⟨b3, 0, rfl, f3, fun i j r u hr hu => ?_⟩⟩, ?_⟩
  · have hc : ∀ o, w.cell? ⟨b3, o, none⟩ = (ofCells b1 b2)[o]? := fun o => by simp only [World.cell?, h3]; simp
    rw [hc]
    match i, j with
    | 0, 0 => simp [entRow] at hr; subst hr; simp at hu; subst hu; rfl
    | 0, 1 => simp [entRow] at hr; subst hr; simp at hu; subst hu; rfl
    | 0, 2 => simp [entRow] at hr; subst hr; simp at hu; subst hu; rfl
    | 0, j + 3 => simp [entRow] at hr; subst hr; simp at hu
    | 1, 0 => simp [entRow] at hr; subst hr; simp at hu; subst hu; rfl
    | 1, 1 => simp [entRow] at hr; subst hr; simp at hu; subst hu; rfl
    | 1, 2 => simp [entRow] at hr; subst hr; simp at hu; subst hu; rfl
    | 1, j + 3 => simp [entRow] at hr; subst hr; simp at hu
    | i + 2, _ => simp at hr
  · intro x hx
    simp only [List.mem_cons, List.not_mem_nil, or_false] at hx
    rcases hx with rfl | rfl
    · exact ⟨rfl, rfl, rfl, zeros_at h1 f1, by show 200 < _; decide, by simp⟩
    · exact ⟨rfl, rfl, rfl, zeros_at h2 f2, by show 100 < _; decide, by simp⟩

theorem alloc3 (w : World) (a b c : Obj) : (((w.alloc a).alloc b).alloc c).drew.heap[w.heap.size]? = some a ∧ (((w.alloc a).alloc b).alloc c).drew.heap[w.heap.size + 1]? = some b ∧ (((w.alloc a).alloc b).alloc c).drew.heap[w.heap.size + 1 + 1]? = some c := by
  have z1 : (w.alloc a).heap.size = w.heap.size + 1 := by simp
  have z2 : ((w.alloc a).alloc b).heap.size = w.heap.size + 1 + 1 := by simp
  refine ⟨(Below.heap_alloc _ c _ (by omega)).trans ((Below.heap_alloc _ b _ (by omega)).trans (heap_alloc_new w a)), (Below.heap_alloc _ c _ (by omega)).trans (by rw [← z1]; exact heap_alloc_new _ b), by rw [← z2]; exact heap_alloc_new _ c⟩

theorem below3 (w : World) (a b c : Obj) : Below w.heap.size w (((w.alloc a).alloc b).alloc c).drew := ((((Below.refl _ _).alloc (Nat.le_refl _) a).alloc (by simp) b).alloc (by simp; omega) c).drew

theorem ofCall {W : World} {b1 b2 b3 : Nat} (h1 : W.heap[b1]? = some (.cells (zeros 9) 5 (0, 0))) (h2 : W.heap[b2]? = some (.cells (zeros 16) 5 (0, 0)))
    (h3 : W.heap[b3]? = some (.cells (ofCells b1 b2) 36 (0, 0))) :
    Calls Try.prog 11 #[.slice (some ⟨b3, 0, none⟩) 2 2] W fun e w' => ∃ p, e = .returned (.tuple #[p, .int .i64 0]) ∧ MemAt w' (seg W.heap.size w'.heap.size) p ofMem ∧ Below W.heap.size W w' := by
  refine (New_any _ W (fun k => k < W.heap.size) ofList (by decide) (ofList_at h1 h2 h3 (lt_of_block h1) (lt_of_block h2) (lt_of_block h3)) (fun _ h => h)).mono ?_
  rintro e w' ⟨hb, ⟨h0, _⟩ | ⟨_, p, rfl, hm⟩⟩
  · exact absurd ofList_check h0
  · rw [ofList_sort] at hm
    exact ⟨p, rfl, hm, hb⟩

theorem MemAt.mono {w : World} {F G : Nat → Prop} {p : Value} {rs : List Reg} (h : MemAt w F p rs) (hk : ∀ k, F k → G k) : MemAt w G p rs := by
  obtain ⟨bm, v, h1, h2, h3, h4, h5⟩ := h
  exact ⟨bm, v, h1, hk _ h2, h3, h4.mono hk, h5⟩

theorem of_end {w W w1 : World} {p : Value} (hb : Below w.heap.size w W) (hm : MemAt w1 (seg W.heap.size w1.heap.size) p ofMem) (hb1 : Below W.heap.size W w1) :
    MemAt w1 (seg w.heap.size w1.heap.size) p ofMem ∧ Below w.heap.size w w1 :=
  ⟨hm.mono (fun _ hk => ⟨Nat.le_trans hb.size hk.1, hk.2⟩), hb.trans (hb1.mono hb.size)⟩

set_option maxRecDepth 100000 in
set_option maxHeartbeats 800000 in
theorem of16 (w : World) : Calls Try.prog 19 #[.int .i64 16] w fun e w' => ∃ p, e = .returned p ∧ MemAt w' (seg w.heap.size w'.heap.size) p ofMem ∧ Below w.heap.size w w' := by
  have h9 := make9
  have h16 := make16
  have c1 : ∀ K : Ending → World → Prop, (∀ p w1, MemAt w1 (seg w.heap.size w1.heap.size) p ofMem → Below w.heap.size w w1 → K (.returned (.tuple #[p, .int .i64 0])) w1) →
      Calls Try.prog 11 #[.slice (some ⟨w.heap.size + 1 + 1, 0, none⟩) 2 2] (((w.alloc (.cells (zeros 9) 5)).alloc (.cells (zeros 16) 5)).alloc (.cells (ofCells w.heap.size (w.heap.size + 1)) 36)).drew K := fun K hK => by
    obtain ⟨a1, a2, a3⟩ := alloc3 w (.cells (zeros 9) 5) (.cells (zeros 16) 5) (.cells (ofCells w.heap.size (w.heap.size + 1)) 36)
    refine (ofCall a1 a2 a3).mono ?_
    rintro e w1 ⟨p, rfl, hm, hb⟩
    obtain ⟨q1, q2⟩ := of_end (below3 _ _ _ _) hm hb
    exact hK p w1 q1 q2
  have c2 : ∀ K : Ending → World → Prop, (∀ p w1, MemAt w1 (seg w.heap.size w1.heap.size) p ofMem → Below w.heap.size w w1 → K (.returned (.tuple #[p, .int .i64 0])) w1) →
      Calls Try.prog 11 #[.slice (some ⟨w.heap.size + 1 + 1, 0, none⟩) 2 2] (((w.alloc (.cells (zeros 16) 5)).alloc (.cells (zeros 9) 5)).alloc (.cells (ofCells (w.heap.size + 1) w.heap.size) 36)).drew K := fun K hK => by
    obtain ⟨a1, a2, a3⟩ := alloc3 w (.cells (zeros 16) 5) (.cells (zeros 9) 5) (.cells (ofCells (w.heap.size + 1) w.heap.size) 36)
    refine (ofCall a2 a1 a3).mono ?_
    rintro e w1 ⟨p, rfl, hm, hb⟩
    obtain ⟨q1, q2⟩ := of_end (below3 _ _ _ _) hm hb
    exact hK p w1 q1 q2
  have C1 := Lib.hid c1
  have C2 := Lib.hid c2
  clear c1 c2
  go_enter Try.func19, Try.ntmps19
  go_wp2
  go_region_with ((go_at_call 11; (first | refine C1.out _ ?_ | refine C2.out _ ?_); intro p w1 hm hb; have HM := Lib.hid hm; have HB := Lib.hid hb; clear hm hb))
  all_goals go_wp2
  all_goals go_ret
  all_goals exact ⟨_, rfl, HM.out, HB.out⟩
theorem Store_some {p : Value} {w : World} {F : Nat → Prop} {rs rs' : List Reg} {at_ v : Nat} (h : storeF rs at_ v = some rs') (hat : at_ < 18446744073709551616) (hv : v < 18446744073709551616) (hm : MemAt w F p rs) (hF : ∀ k, F k → k < w.heap.size) :
    Calls Try.prog 13 #[p, .int .u64 at_, .int .u64 v] w fun e w' => e = .returned (.int .i64 0) ∧ MemAt w' F p rs' ∧ Chg F w w' := by
  refine (Store_any p w F rs at_ v hat hv hm hF).mono ?_
  rintro e w' (⟨h0, _⟩ | ⟨rs2, h0, he, h1, h2⟩)
  · rw [h] at h0; cases h0
  · rw [h] at h0; cases h0; exact ⟨he, h1, h2⟩
theorem Store_none {p : Value} {w : World} {F : Nat → Prop} {rs : List Reg} {at_ v : Nat} (h : storeF rs at_ v = none) (hat : at_ < 18446744073709551616) (hv : v < 18446744073709551616) (hm : MemAt w F p rs) (hF : ∀ k, F k → k < w.heap.size) :
    Calls Try.prog 13 #[p, .int .u64 at_, .int .u64 v] w fun e w' => e = .returned (.int .i64 11) ∧ Below w.heap.size w w' := by
  refine (Store_any p w F rs at_ v hat hv hm hF).mono ?_
  rintro e w' (⟨_, he, h1⟩ | ⟨rs2, h0, _⟩)
  · exact ⟨he, h1⟩
  · rw [h] at h0; cases h0

def livesMem : List Reg := ofMem.set 0 ⟨100, putTo (List.replicate 16 0) 4 1099511627781 8, true⟩
theorem lives_store : storeF ofMem 104 1099511627781 = some livesMem := by rfl
theorem lives_store2 : storeF livesMem 109 1 = none := by rfl
theorem lives_load : loadF livesMem 104 = some 1099511627781 := by decide

set_option maxRecDepth 100000 in
set_option maxHeartbeats 800000 in
theorem lives_any (w : World) : Calls Try.prog 9 #[] w fun e w' => e = .returned (.bool true) ∧ Below w.heap.size w w' := by
  have HO := Lib.hid (of16 w)
  go_enter Try.func9, Try.ntmps9
  go_wp2_with fail
  refine HO.out.mono ?_
  rintro e w1 ⟨p, rfl, hm1, hb1⟩
  obtain ⟨bm, rfl⟩ : ∃ bm, p = .pointer (some ⟨bm, 0, none⟩) := by obtain ⟨bm, v, h, _⟩ := hm1; exact ⟨bm, h⟩
  have H1 := Lib.hid (Store_some lives_store (by decide) (by decide) hm1 (fun _ h => h.2))
  have HB1 := Lib.hid hb1
  clear hm1 hb1 HO
  go_wp2_with fail
  refine H1.out.mono ?_
  rintro e w2 ⟨rfl, hm2, hc2⟩
  have hlt2 : ∀ k, seg w.heap.size w1.heap.size k → k < w2.heap.size := fun k hk => by have := hc2.size; have := hk.2; omega
  have H2 := Lib.hid (Store_none lives_store2 (by decide) (by decide) hm2 hlt2)
  have HM2 := Lib.hid hm2
  have HC2 := Lib.hid hc2
  have HL2 := Lib.hid hlt2
  clear hm2 hc2 H1 hlt2
  go_wp2_with fail
  refine H2.out.mono ?_
  rintro e w3 ⟨rfl, hb3⟩
  have hm3 := HM2.out.keep (SameOn.of_below hb3 HL2.out)
  have hl := Load_any _ w3 _ livesMem 104 (by decide) hm3 (fun k hk => Nat.lt_of_lt_of_le (HL2.out k hk) hb3.size)
  rw [lives_load] at hl
  have H3 := Lib.hid hl
  have HB3 := Lib.hid hb3
  clear hm3 hb3 H2 hl
  go_wp2_with fail
  refine H3.out.mono ?_
  rintro e w4 ⟨rfl, hb4⟩
  have hall : Below w.heap.size w w4 := by
    have h2 : Below w.heap.size w1 w2 := HC2.out.below (fun k hk hs => by have := hs.1; omega) HB1.out.size
    exact ((HB1.out.trans h2).trans (HB3.out.mono (Nat.le_trans HB1.out.size h2.size))).trans (hb4.mono (Nat.le_trans HB1.out.size (Nat.le_trans h2.size HB3.out.size)))
  have HALL := Lib.hid hall
  clear hall hb4 H3
  unfold loadOut
  go_wp2
  go_ret
  exact ⟨rfl, HALL.out⟩
end Go.Proofs.Ytcciaihghhleoaa
