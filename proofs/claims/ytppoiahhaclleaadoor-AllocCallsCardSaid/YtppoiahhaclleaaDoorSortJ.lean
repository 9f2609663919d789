/- The insertion sort whole; slices.SortStableFunc of fewer than 20. -/
import Derived.Test.YtppoiahhaclleaaDoorSortI
namespace Go.Proofs.YtppoiahhaclleaaDoor
open Go.RowKit

theorem siftF_perm {key : Int → Int} {a : Nat} {l : List Int} {j : Nat} (h : j < l.length) : (siftF key a l j).Perm l := by
  induction j generalizing l with
  | zero => exact List.Perm.refl _
  | succ j ih =>
    rw [siftF]
    split
    · exact (ih (by rw [swapL_len]; omega)).trans (swapL_perm h (by omega))
    · exact List.Perm.refl _
theorem siftF_len {key : Int → Int} {a : Nat} {l : List Int} {j : Nat} : (siftF key a l j).length = l.length := by
  induction j generalizing l with
  | zero => rfl
  | succ j ih =>
    rw [siftF]
    split
    · rw [ih, swapL_len]
    · rfl
theorem insF_len {key : Int → Int} {a m i : Nat} {l : List Int} : (insF key a m i l).length = l.length := by
  induction m generalizing i l with
  | zero => rfl
  | succ m ih => rw [insF, ih, siftF_len]
theorem insF_perm {key : Int → Int} {a m i : Nat} {l : List Int} (h : i + m ≤ l.length) : (insF key a m i l).Perm l := by
  induction m generalizing i l with
  | zero => exact List.Perm.refl _
  | succ m ih => rw [insF]; exact (ih (by rw [siftF_len]; omega)).trans (siftF_perm (by omega))
set_option maxRecDepth 100000 in
set_option maxHeartbeats 4000000 in
theorem isort_any {g n c gb gs m a b : Nat} {sp : List (Int × Int)} {l : List Int} {rest : List Value} (w : World) (hr : OrdAt w g l rest) (hl : l.length = n) (hk : KeysAt w gb gs m sp) (hm : m ≤ 1000) (hn : n ≤ 1000) (hmem : ∀ x ∈ l, 0 ≤ x ∧ x < (m : Int)) (hg : gb ≠ g ∧ gs ≠ g) (hab : a ≤ b) (hbn : b ≤ n) :
    Calls Tryd.prog 72 #[.slice (some ⟨g, 0, none⟩) n c, .int .i64 a, .int .i64 b, .func (.func 35) #[] #[.pointer (some ⟨gb, 0, none⟩)]] w fun e w' => e = .returned (.tuple #[]) ∧ OrdAt w' g (insF (keyF sp) a (b - (a + 1)) (a + 1) l) rest ∧ Chg (fun k => k = g) w w' := by
  have HI := Lib.hid hr
  have HL := Lib.hid hl
  have HK := Lib.hid hk
  have HM := Lib.hid hmem
  have HG := Lib.hid hg
  clear hr hl hk hmem hg
  go_enter Tryd.func72, Tryd.ntmps72
  go_wp2
  go_loopw [8] (fun vi wr => ∃ (i : Nat) (li : List Int), vi = .int .i64 i ∧ a < i ∧ i ≤ b + 1 ∧ Hid (li.length = n ∧ OrdAt wr g li rest ∧ Chg (fun k => k = g) w wr ∧ (∀ x ∈ li, 0 ≤ x ∧ x < (m : Int)) ∧ insF (keyF sp) a (b - i) i li = insF (keyF sp) a (b - (a + 1)) (a + 1) l)) (fun vi _ => b + 1 - (intOf vi).toNat)
  case atStart => exact ⟨a + 1, l, by first | rfl | go_num, by omega, by omega, Lib.hid ⟨HL.out, HI.out, Chg.refl _ _, HM.out, rfl⟩⟩
  case round =>
    clear HI HM
    obtain ⟨i, li, rfl, hai, hib, HJ⟩ := hrel
    by_cases hlt : i < b
    · have hltz : (i : Int) < (b : Int) := by omega
      have HLT := Lib.hid hlt
      have HAI := Lib.hid hai
      have HIB := Lib.hid hib
      clear hib
      go_wp2
      refine wp_code (c := partL Tryd.f72 2) (by kernel_rfl) ?_
      refine isort_l2 (l := li) (rest := rest) (m := m) (gb := gb) (gs := gs) (sp := sp) _ _ HJ.out.2.1 HJ.out.1 (KeysAt.chg HK.out HJ.out.2.2.1 HG.out.1 HG.out.2) hm hn HJ.out.2.2.2.1 HG.out (Nat.le_of_lt hai) (by omega) ?_
      intro v9 v18 v19 v20 v21 v22 v23 v24 v25 v26 v27 v28 v29 v30 v31 v32 v33 v34 v35 v36 v37 v38 v39 v40 v41 v42 v43 v44 v45 v46 v47 v48 v49 v50 v51 v52 w2 h2
      have H2 := Lib.hid h2
      clear h2
      go_wp2
      go_roundw
      case rel => exact ⟨i + 1, siftF (keyF sp) a li i, by first | rfl | go_num, by omega, by have := HLT.out; omega, Lib.hid ⟨by rw [siftF_len]; exact HJ.out.1, H2.out.1, HJ.out.2.2.1.trans H2.out.2, fun z hz => HJ.out.2.2.2.1 z ((siftF_perm (by have := HJ.out.1; omega)).mem_iff.1 hz), by
        rw [← HJ.out.2.2.2.2, show b - i = (b - (i + 1)) + 1 by omega, insF]⟩⟩
      case measure => simp [intOf]; omega
    · have hltz : ¬ (i : Int) < (b : Int) := by omega
      have HLT := Lib.hid hlt
      clear hlt
      go_wp2
      refine bodyPost_end (v := .tuple #[]) (results_none rfl _ _ _) rfl ?_
      exact ⟨rfl, by rw [← HJ.out.2.2.2.2, show b - i = 0 by have := HLT.out; omega, insF]; exact HJ.out.2.1, HJ.out.2.2.1⟩

set_option maxRecDepth 100000 in
set_option maxHeartbeats 4000000 in
theorem stable_any {g n c gb gs m : Nat} {sp : List (Int × Int)} {l : List Int} {rest : List Value} (w : World) (hr : OrdAt w g l rest) (hl : l.length = n) (hk : KeysAt w gb gs m sp) (hm : m ≤ 1000) (hn : n ≤ 1000) (hmem : ∀ x ∈ l, 0 ≤ x ∧ x < (m : Int)) (hg : gb ≠ g ∧ gs ≠ g) (hn20 : n < 20) :
    Calls Tryd.prog 53 #[.slice (some ⟨g, 0, none⟩) n c, .int .i64 n, .func (.func 35) #[] #[.pointer (some ⟨gb, 0, none⟩)]] w fun e w' => e = .returned (.tuple #[]) ∧ OrdAt w' g (insF (keyF sp) 0 (n - 1) 1 l) rest ∧ Chg (fun k => k = g) w w' := by
  have HS := fun w_ h_ k_ => isort_any (g := g) (n := n) (c := c) (gb := gb) (gs := gs) (m := m) (a := 0) (b := n) (sp := sp) (l := l) (rest := rest) w_ h_ hl k_ hm hn hmem hg (Nat.zero_le _) (Nat.le_refl _)
  have HC := Lib.hid (show Calls Tryd.prog 72 #[.slice (some ⟨g, 0, none⟩) n c, .int .i64 0, .int .i64 n, .func (.func 35) #[] #[.pointer (some ⟨gb, 0, none⟩)]] w (fun e w' => e = .returned (.tuple #[]) ∧ OrdAt w' g (insF (keyF sp) 0 (n - 1) 1 l) rest ∧ Chg (fun k => k = g) w w') from HS w hr hk)
  have q1 : ¬ (20 : Int) ≤ (n : Int) := by omega
  have q2 : ¬ (20 : Int) < (n : Int) := by omega
  clear HS hr hl hk hmem hg
  go_enter Tryd.func53, Tryd.ntmps53
  go_wp2
  refine wp_loop_rounds 1 ?_
  rw [rounds_succ]
  go_wp2_with ((with_reducible refine (HC.out).mono ?_); rintro e w1 ⟨rfl, h1, h2⟩; have H2 := Lib.hid (And.intro h1 h2); clear h1 h2)
  refine wp_loop_rounds 1 ?_
  rw [rounds_succ]
  go_wp2
  refine bodyPost_end (v := .tuple #[]) (results_none rfl _ _ _) rfl ?_
  exact ⟨rfl, H2.out⟩
set_option maxRecDepth 100000 in
set_option maxHeartbeats 4000000 in
/-- slices.SortStableFunc, fewer than 20. -/
theorem SortStable_any {g n c gb gs m : Nat} {sp : List (Int × Int)} {l : List Int} {rest : List Value} (w : World) (hr : OrdAt w g l rest) (hl : l.length = n) (hk : KeysAt w gb gs m sp) (hm : m ≤ 1000) (hn : n ≤ 1000) (hmem : ∀ x ∈ l, 0 ≤ x ∧ x < (m : Int)) (hg : gb ≠ g ∧ gs ≠ g) (hn20 : n < 20) :
    Calls Tryd.prog 34 #[.slice (some ⟨g, 0, none⟩) n c, .func (.func 35) #[] #[.pointer (some ⟨gb, 0, none⟩)]] w fun e w' => e = .returned (.tuple #[]) ∧ OrdAt w' g (insF (keyF sp) 0 (n - 1) 1 l) rest ∧ Chg (fun k => k = g) w w' := by
  have HC := Lib.hid (stable_any (c := c) (rest := rest) w hr hl hk hm hn hmem hg hn20)
  clear hr hl hk hmem hg
  go_enter Tryd.func34, Tryd.ntmps34
  go_wp2_with ((with_reducible refine (HC.out).mono ?_); rintro e w1 ⟨rfl, h1, h2⟩; have H2 := Lib.hid (And.intro h1 h2); clear h1 h2)
  refine bodyPost_end (v := .tuple #[]) (results_none rfl _ _ _) rfl ?_
  exact ⟨rfl, H2.out⟩
end Go.Proofs.YtppoiahhaclleaaDoor
