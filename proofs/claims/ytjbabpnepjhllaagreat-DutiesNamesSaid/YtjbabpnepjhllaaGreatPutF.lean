/- Facts put into a set: put, of. -/
import Derived.Test.YtjbabpnepjhllaaGreatSortedF
namespace Go.Proofs.YtjbabpnepjhllaaGreat
open Go.RowKit Go.Maps

theorem puts_next {l fs : List Fct} {k : Nat} {x : Fct} (h : fs[k]? = some x) : putsF l (fs.take (k + 1)) = putF (putsF l (fs.take k)) x := by
  unfold putsF
  rw [List.take_add_one, h, Option.toList_some, List.foldl_append]
  rfl
set_option maxRecDepth 100000 in
set_option maxHeartbeats 4000000 in
/-- put. -/
theorem put_any {b N : Nat} {l fs : List Fct} {A : Option Addr} {n c : Nat} (w : World) (F : Nat → Prop) (h : SetAt w b N l) (hf : FactsAt w F (.slice A n c) fs) (hFb : ∀ k, F k → k < w.heap.size ∧ k ≠ b) (hok : ∀ f ∈ fs, FctOk f) (hN : N + n ≤ 100000) :
    Calls Tryz.prog 53 #[.map (some b), .slice A n c] w fun e w' => e = .returned (.tuple #[]) ∧ SetAt w' b (N + n) (putsF l fs) ∧ Chg (fun k => k = b) w w' := by
  have hn := (rows_len hf).1
  have HF := Lib.hid hf
  have HB := Lib.hid hFb
  have HK := Lib.hid hok
  have HL := Lib.hid hn
  have HM := Lib.hid hN
  have HS := Lib.hid h
  clear hf hFb hok hn hN h
  go_enter Tryz.func53, Tryz.ntmps53
  go_wp2
  go_loopw [8] (fun j wr => ∃ k : Nat, k ≤ n ∧ j = .int .i64 k ∧ SetAt wr b (N + k) (putsF l (fs.take k)) ∧ Chg (fun k => k = b) w wr) (fun j _ => n - (intOf j).toNat)
  case atStart => exact ⟨0, by omega, rfl, HS.out, Chg.refl _ _⟩
  case round =>
    obtain ⟨k, hk, rfl, hset, hch⟩ := hrel
    have HCH := Lib.hid hch
    by_cases hlt : k < n
    · have d1 : decide (k < n) = true := decide_eq_true hlt
      obtain ⟨x, hx⟩ : ∃ s, fs[k]? = some s := ⟨_, List.getElem?_eq_getElem (by have := HL.out; omega)⟩
      obtain ⟨g, o, rfl, hg, c0, c1, c2⟩ := FactsAt.at_ (HF.out.keep (hch.same fun k hk => HB.out k hk)) hx
      have HX := Lib.hid (HK.out x (List.mem_of_getElem? hx))
      have HKEY := Lib.hid (show keyOf Tryz.prog 45 (.agg #[.int .i64 x.kind, .int .i64 x.a, .int .i64 x.b]) = some (keyL x) from keyOf_mk HX.out)
      obtain ⟨D, hown, hD⟩ := hset
      have HD := Lib.hid hD
      have HP := Lib.hid (puts_next (l := l) hx)
      have i0 : (0 : Int) ≤ (k : Int) := by omega
      have i1 : (k : Int) < (n : Int) := by omega
      have l0 : g < wr.heap.size := by have := (HB.out g hg).1; have := HCH.out.size; omega
      have n5 : n ≤ 100000 := by have := HM.out; omega
      clear hx hg hch hD
      by_cases h2 : x.kind = 2
      · have d2 : (x.kind != 2) = false := by simpa using h2
        by_cases h3 : x.a = x.b
        · have d3 : (x.a != x.b) = false := by simpa using h3
          have HE := Lib.hid (show putsF l (fs.take k) = putsF l (fs.take (k + 1)) by rw [HP.out]; unfold putF mayF; rw [h2, h3]; simp)
          have HO := Lib.hid (hown.alloc (.cells #[.int .i64 x.kind, .int .i64 x.a, .int .i64 x.b] 45))
          clear h2 h3 hown
          go_wp2
          go_roundw
          case rel => exact ⟨k + 1, hlt, by go_num, SetAt.of (HO.out.mono (by omega)) HD.out HE.out, HCH.out.alloc _⟩
          case measure => simp [intOf]; omega
        · have d3 : (x.a != x.b) = true := by simpa using h3
          have HE := Lib.hid (show insF x (putsF l (fs.take k)) = putsF l (fs.take (k + 1)) by rw [HP.out]; unfold putF mayF; rw [show (x.a == x.b) = false by simpa using h3]; simp)
          clear h2 h3
          go_wp2_with (first
            | (at_mapUpdate; refine wpList_mapUpdate_in _ rfl _ _ _ 85 rfl 45 106 keyedF Tryz.underlying85 (unitElem (H := Unit)) b (N + k) D rfl (hown.alloc _) (by have := HM.out; unfold maxLen; omega) _ _ _ rfl rfl HKEY.out _ [] unitElem_mk ?_; intro w1 hown1 hturn1
               have HO := Lib.hid hown1
               have HT := Lib.hid hturn1
               clear hown1 hturn1)
            | go_in)
          go_roundw
          case rel => exact ⟨k + 1, hlt, by go_num, SetAt.of HO.out (HD.out.put HX.out) HE.out, HCH.out.trans' (.of_below ((Below.refl _ _).alloc (Nat.le_refl _) _)) (fun _ _ h => h) |>.trans ⟨HT.out.grown.os, HT.out.grown.tape, HT.out.grown.output, HT.out.grown.size, fun j hj hne => HT.out.grown.block j hj (fun e => hne (by cases e; rfl))⟩⟩
          case measure => simp [intOf]; omega
      · have d2 : (x.kind != 2) = true := by simpa using h2
        have HE := Lib.hid (show insF x (putsF l (fs.take k)) = putsF l (fs.take (k + 1)) by rw [HP.out]; unfold putF mayF; rw [show (x.kind == 2) = false by simpa using h2]; simp)
        clear h2
        go_wp2_with (first
          | (at_mapUpdate; refine wpList_mapUpdate_in _ rfl _ _ _ 85 rfl 45 106 keyedF Tryz.underlying85 (unitElem (H := Unit)) b (N + k) D rfl (hown.alloc _) (by have := HM.out; unfold maxLen; omega) _ _ _ rfl rfl HKEY.out _ [] unitElem_mk ?_; intro w1 hown1 hturn1
             have HO := Lib.hid hown1
             have HT := Lib.hid hturn1
             clear hown1 hturn1)
          | go_in)
        go_roundw
        case rel => exact ⟨k + 1, hlt, by go_num, SetAt.of HO.out (HD.out.put HX.out) HE.out, HCH.out.trans' (.of_below ((Below.refl _ _).alloc (Nat.le_refl _) _)) (fun _ _ h => h) |>.trans ⟨HT.out.grown.os, HT.out.grown.tape, HT.out.grown.output, HT.out.grown.size, fun j hj hne => HT.out.grown.block j hj (fun e => hne (by cases e; rfl))⟩⟩
        case measure => simp [intOf]; omega
    · have d1 : decide (k < n) = false := decide_eq_false hlt
      have HE := Lib.hid (show SetAt wr b (N + n) (putsF l fs) by have e : k = n := by omega
                                                                  subst e; rw [List.take_of_length_le (by have := HL.out; omega)] at hset; exact hset)
      clear hset hch
      go_wp2
      go_end0
      exact ⟨rfl, HE.out, HCH.out⟩

set_option maxHeartbeats 1000000 in
/-- of. -/
theorem of_any {fs : List Fct} {A : Option Addr} {n c : Nat} (w : World) (F : Nat → Prop) (hf : FactsAt w F (.slice A n c) fs) (hFb : ∀ k, F k → k < w.heap.size) (hok : ∀ f ∈ fs, FctOk f) (hN : n ≤ 100000) :
    Calls Tryz.prog 51 #[.slice A n c] w fun e w' => e = .returned (.map (some w.heap.size)) ∧ SetAt w' w.heap.size n (sortF fs) ∧ Below w.heap.size w w' := by
  obtain ⟨W, hW⟩ : ∃ W, W = w.alloc (.map #[] 0) := ⟨_, rfl⟩
  have hb : Below w.heap.size w W := by rw [hW]; exact (Below.refl _ _).alloc (Nat.le_refl _) _
  have hz : W.heap.size = w.heap.size + 1 := by rw [hW]; simp
  have HP := Lib.hid (put_any (N := 0) (l := []) W F (by rw [hW]; exact SetAt.made w) (Rows.keep hf (SameOn.of_below hb hFb)) (fun k hk => by have := hFb k hk; omega) hok (by omega))
  have HB := Lib.hid hb
  have HW := Lib.hid hW
  clear hf hFb hok hN hz hb hW
  go_enter Tryz.func51, Tryz.ntmps51
  have hmm := @run_makeMap Tryz.prog
  go_upto_region 2 with fail
  rw [← HW.out]
  go_wp2_with ((with_reducible refine (HP.out).mono ?_); rintro e w1 ⟨rfl, hs, hch⟩
               have HS := Lib.hid hs
               have HC := Lib.hid hch
               clear hs hch)
  go_ret
  exact ⟨rfl, by have := HS.out; rwa [Nat.zero_add] at this, HB.out.trans (HC.out.below (fun k hk => by omega) HB.out.size)⟩
end Go.Proofs.YtjbabpnepjhllaaGreat
