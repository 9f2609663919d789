/- package keysmithref05: rising; keysmithlaw08.in. -/
import Derived.Test.YtmanhikpccnfaaaGreatRef05b
import Derived.Test.YtmanhikpccnfaaaGreatEvs
import Derived.Maps.AppendAt
import Derived.Outline
namespace Go.Proofs.YtmanhikpccnfaaaGreat
open Go.RowKit

theorem infoI64 : (Tryz.prog.info? 3).map (fun i => (i.zero, i.size, i.bytes)) = some (some (.int .i64 0), 1, 8) := by kernel_rfl

/-- A slice of numbers. -/
def IntsAt (w : World) (F : Nat → Prop) (v : Value) (l : List Nat) : Prop := Rows w F 1 v (l.map fun n => [Value.int .i64 (n : Nat)])
theorem IntsAt.keep {w w' : World} {F : Nat → Prop} {v : Value} {l : List Nat} (h : IntsAt w F v l) (hk : SameOn F w w') : IntsAt w' F v l := Rows.keep h hk
theorem IntsAt.form {w : World} {F : Nat → Prop} {v : Value} {l : List Nat} (h : IntsAt w F v l) : ∃ A c, v = .slice A l.length c ∧ l.length ≤ c := by
  obtain ⟨A, c, rfl, hc, _, _⟩ := h
  rw [List.length_map] at hc ⊢
  exact ⟨A, c, rfl, hc⟩
theorem IntsAt.at_ {w : World} {F : Nat → Prop} {A : Option Addr} {n c : Nat} {l : List Nat} (h : IntsAt w F (.slice A n c) l) {k : Nat} {x : Nat} (hk : l[k]? = some x) :
    ∃ b o, A = some ⟨b, o, none⟩ ∧ F b ∧ w.cell? ⟨b, o + k, none⟩ = some (.int .i64 x) := by
  obtain ⟨A', c', hv, hc, hl, hne⟩ := h
  cases hv
  have h1 : (l.map fun n => [Value.int .i64 (n : Nat)])[k]? = some [Value.int .i64 (x : Nat)] := by rw [List.getElem?_map, hk]; rfl
  obtain ⟨b, o, rfl, hF, hat⟩ := hne (fun e => by rw [e] at h1; cases h1)
  have := hat k 0 _ _ h1 rfl
  exact ⟨b, o, rfl, hF, by simpa using this⟩
def intRow (l : List Nat) : List Value := (l.map fun n => [Value.int .i64 (n : Nat)]).flatten
theorem intRow_snoc (l : List Nat) (x : Nat) : intRow (l ++ [x]) = intRow l ++ [Value.int .i64 (x : Nat)] := by simp [intRow]
theorem ints_own {w : World} {base : Nat} {v : Value} {l : List Nat} (h : w.ownsRow base 3 1 v l.length (intRow l)) : IntsAt w (fun k => base ≤ k ∧ k < w.heap.size) v l := by
  have hsz : ∀ r ∈ (l.map fun n => [Value.int .i64 (n : Nat)]), r.length = 1 := by intro r hr; obtain ⟨x, _, rfl⟩ := List.mem_map.1 hr; rfl
  rcases Nat.eq_zero_or_pos l.length with h0 | hpos
  · obtain rfl := List.eq_nil_of_length_eq_zero h0
    rcases h.2 with ⟨rfl, _⟩ | ⟨g, cap, cur, rfl, _, _, hnc, _⟩
    · exact ⟨none, 0, rfl, by simp, by simp, fun h => absurd rfl h⟩
    · exact ⟨_, cap, rfl, by simp, by simp, fun h => absurd rfl h⟩
  · obtain ⟨g, cap, rfl, hg, hnc, hrow⟩ := rowsBlk_of_own h hsz hpos
    refine ⟨_, cap, by simp, by simpa using hnc, hsz, fun _ => ⟨g, 0, rfl, ⟨hg, hrow.lt⟩, fun i j r u hr hu => ?_⟩⟩
    rw [Nat.zero_add]
    exact hrow.cell hr hu

/-- The numbers at which it is true. -/
def risingF (L : List Bool) : List Nat := (List.range 16).filter fun k => L.getD k false
def upTo (L : List Bool) (k : Nat) : List Nat := (List.range k).filter fun k => L.getD k false
theorem upTo_yes {L : List Bool} {k : Nat} (h : L.getD k false = true) : upTo L (k + 1) = upTo L k ++ [k] := by
  unfold upTo
  rw [List.range_succ, List.filter_append]
  simp only [List.filter_cons, h, if_true, List.filter_nil]
theorem upTo_no {L : List Bool} {k : Nat} (h : L.getD k false = false) : upTo L (k + 1) = upTo L k := by
  unfold upTo
  rw [List.range_succ, List.filter_append]
  simp only [List.filter_cons, h, List.filter_nil, Bool.false_eq_true, if_false, List.append_nil]
theorem upTo_few (L : List Bool) (k : Nat) : (upTo L k).length ≤ k := Nat.le_trans (List.length_filter_le _ _) (by simp)
theorem rising_mem {L : List Bool} {k : Nat} (h : k < 16) : (risingF L).contains k = L.getD k false := by
  rw [Bool.eq_iff_iff, List.contains_iff_mem, risingF, List.mem_filter, List.mem_range]
  exact ⟨fun h => h.2, fun h' => ⟨h, h'⟩⟩

set_option maxRecDepth 100000 in
set_option maxHeartbeats 1600000 in
theorem rising_any (L : List Bool) (hL : L.length = 16) (w : World) :
    Calls Tryz.prog 40 #[.agg (L.map Value.bool).toArray] w fun e w' => ∃ v, e = .returned v ∧ IntsAt w' (fun k => w.heap.size ≤ k ∧ k < w'.heap.size) v (risingF L) ∧ Below w.heap.size w w' := by
  obtain ⟨i0, hi0, hz0, hz1, hz2⟩ := info_parts infoI64
  obtain ⟨W1, hW1, hb1, hs1, hn1, _⟩ := boxed w (L.map Value.bool).toArray 80
  have HW1 := Lib.hid hW1
  have HB1 := Lib.hid hb1
  have HN1 := Lib.hid hn1
  have m1 : w.heap.size < W1.heap.size := by omega
  have HL := Lib.hid hL
  generalize hcs : (L.map Value.bool).toArray = cs at *
  have HCS := Lib.hid hcs
  clear hW1 hb1 hs1 hn1 hL hcs
  go_enter Tryz.func40, Tryz.ntmps40
  go_wp2_with fail
  rw [← HW1.out]
  go_loopw [3, 4] (fun sl i wr => ∃ k : Nat, k ≤ 16 ∧ i = .int .i64 k ∧ Below W1.heap.size W1 wr ∧ wr.ownsRow W1.heap.size 3 1 sl (upTo L k).length (intRow (upTo L k))) (fun _ i _ => 16 - (intOf i).toNat)
  case atStart => exact ⟨0, by omega, rfl, Below.refl _ _, ⟨rfl, .inl ⟨rfl, rfl⟩⟩⟩
  case round =>
    obtain ⟨k, hk, rfl, hbl, hown⟩ := hrel
    have HBL := Lib.hid hbl
    have HOWN := Lib.hid hown
    clear hbl hown
    by_cases hlt : k < 16
    · have cb : wr.cell? ⟨w.heap.size, k, none⟩ = some (.bool (L.getD k false)) := by
        rw [HBL.out.cell (p := ⟨w.heap.size, k, none⟩) m1, HN1.out, ← HCS.out]
        have hkl : k < L.length := by rw [HL.out]; exact hlt
        simp [hkl]
      have i0' : (0 : Int) ≤ (k : Int) := by omega
      have i1' : (k : Int) < 16 := by omega
      cases hb : L.getD k false with
      | false =>
        rw [hb] at cb
        have HU := Lib.hid (upTo_no hb)
        clear hb
        go_wp2
        go_roundw
        case rel => exact ⟨k + 1, by omega, by go_num, HBL.out, by rw [HU.out]; exact HOWN.out⟩
        case measure => simp [intOf]; omega
      | true =>
        rw [hb] at cb
        have HU := Lib.hid (upTo_yes hb)
        have hfew := upTo_few L k
        obtain ⟨A3, c3, rfl⟩ : ∃ A c, u3 = .slice A (upTo L k).length c := by
          rcases HOWN.out.2 with ⟨h1, h2⟩ | ⟨g', cap', cur, hv, _⟩
          · exact ⟨none, 0, by rw [h1, h2]⟩
          · exact ⟨_, _, hv⟩
        generalize hn : (upTo L k).length = n at *
        have HNN := Lib.hid hn
        have hsz1 := HBL.out.size
        clear hb hn
        go_wp2_with ((at_builtin; refine wpList_append_own_at _ rfl _ _ 52 rfl W1.heap.size 3 i0 (.int .i64 0) 1 8 Tryz.underlying52 hi0 hz0 hz1 hz2 rfl (by decide) _ n _ rfl (HOWN.out.alloc _) ⟨wr.heap.size, 0, none⟩ 1 1 [.int .i64 k] rfl (by simp) (World.news_of_block (cs := #[.int .i64 k]) (t := 3) (fr := (0, 0)) (heap_alloc_new wr _)) (by simp [Value.oneCell']) (by unfold maxLen; omega) (by omega) (by simp; omega) ?_); intro v w1 hown hg _ _; have HO := Lib.hid hown; have HG := Lib.hid hg; clear hown hg)
        go_roundw
        case rel => exact ⟨k + 1, by omega, by go_num, ((HBL.out.trans ((Below.refl wr.heap.size wr).alloc (Nat.le_refl _) _ |>.mono HBL.out.size)).grown HG.out (by simp; omega) (fun k hk => (own_lt HOWN.out k hk).2)), by rw [HU.out, List.length_append, HNN.out, intRow_snoc]; exact HO.out⟩
        case measure => simp [intOf]; omega
    · obtain rfl : k = 16 := by omega
      have HI := Lib.hid (ints_own HOWN.out)
      go_wp2
      go_ret
      exact ⟨_, rfl, HI.out.mono fun k hk => ⟨by have := HB1.out.size; omega, hk.2⟩, HB1.out.trans (HBL.out.mono (by omega))⟩

/-- Is a number among some? -/
def inF (l : List Nat) (n : Nat) : Bool := l.contains n
theorem inF_rising {L : List Bool} {k : Nat} (h : k < 16) : inF (risingF L) k = L.getD k false := rising_mem h
set_option maxHeartbeats 800000 in
theorem in_any (l : List Nat) (v : Value) (n : Nat) (w : World) (F : Nat → Prop) (hl : IntsAt w F v l) (hF : ∀ k, F k → k < w.heap.size) (h : l.length ≤ 1000) :
    Calls Tryz.prog 19 #[v, .int .i64 n] w fun e w' => e = .returned (.bool (inF l n)) ∧ w = w' := by
  obtain ⟨A, c, rfl, _⟩ := hl.form
  have HL := Lib.hid hl
  have HF := Lib.hid hF
  clear hl hF
  generalize hln : l.length = m at *
  have HM := Lib.hid hln
  clear hln
  go_enter Tryz.func19, Tryz.ntmps19
  go_wp2
  go_loop [5] (fun i => ∃ k : Nat, k ≤ m ∧ i = .int .i64 k ∧ ∀ (j x : Nat), j < k → l[j]? = some x → x ≠ n) (fun i => m - (intOf i).toNat)
  case atStart => exact ⟨0, Nat.zero_le _, rfl, fun j x hj => absurd hj (by omega)⟩
  case round =>
    obtain ⟨k, hk, rfl, hall⟩ := hrel
    have HALL := Lib.hid hall
    clear hall
    by_cases hlt : k < m
    · obtain ⟨x, hx⟩ : ∃ x, l[k]? = some x := ⟨_, List.getElem?_eq_getElem (by have := HM.out; omega)⟩
      obtain ⟨b, o, rfl, hFb, hc⟩ := HL.out.at_ hx
      have hbl := HF.out b hFb
      have i0 : (0 : Int) ≤ (k : Int) := by omega
      have i1 : (k : Int) < (m : Int) := by omega
      have HX := Lib.hid hx
      clear hx hFb
      by_cases hn : x = n
      · have e1 : ((x : Int) == (n : Int)) = true := by simp; omega
        have e2 : (x == n) = true := by simpa using hn
        have hy : inF l n = true := by unfold inF; rw [List.contains_iff_mem]; exact hn ▸ List.mem_of_getElem? HX.out
        have HY := Lib.hid hy
        clear hy hn
        go_wp2
        go_ret
        exact ⟨ret_bool HY.out.symm, rfl⟩
      · have e1 : ((x : Int) == (n : Int)) = false := by simp; omega
        have e2 : (x == n) = false := by simpa using hn
        have HC := Lib.hid hn
        clear hn
        go_wp2
        go_round
        case rel => exact ⟨k + 1, by omega, by go_num, fun j y hj hy => by
          rcases Nat.lt_or_ge j k with h | h
          · exact HALL.out j y h hy
          · obtain rfl : j = k := by omega
            have h1 := HX.out
            rw [h1] at hy
            cases hy
            exact HC.out⟩
        case measure => simp [intOf]; omega
    · have hn : inF l n = false := by
        unfold inF
        rw [Bool.eq_false_iff]
        intro h
        rw [List.contains_iff_mem] at h
        obtain ⟨j, hj⟩ := List.mem_iff_getElem?.1 h
        exact HALL.out j n (by have := (List.getElem?_eq_some_iff.1 hj).1; have := HM.out; omega) hj rfl
      have HN := Lib.hid hn
      clear hn
      go_wp2
      go_ret
      exact ⟨ret_bool HN.out.symm, rfl⟩
end Go.Proofs.YtmanhikpccnfaaaGreat
