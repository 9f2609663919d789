/- duties.copied. -/
import Derived.Test.YtjbabpnepjhllaaGreatAfterA
namespace Go.Proofs.YtjbabpnepjhllaaGreat
open Go.RowKit

def copy1 (x : Fct) (u t : Int) : Fct := if x.a = u then ⟨x.kind, t, x.b⟩ else ⟨x.kind, x.a, t⟩
theorem copy_next {l : List Fct} {k : Nat} {x : Fct} (u t : Int) (h : l[k]? = some x) : copyF (l.take (k + 1)) u t = copyF (l.take k) u t ++ (if hasF x u && !hasF x t then [copy1 x u t] else []) := by
  unfold copyF
  rw [List.take_add_one, h, Option.toList_some, List.filter_append, List.map_append]
  congr 1
  cases hc : (hasF x u && !hasF x t) <;> simp [hc, copy1]
theorem cellsOf_snoc (l : List Fct) (x : Fct) : cellsOfF (l ++ [x]) = cellsOfF l ++ factRow x := by unfold cellsOfF; simp
theorem grownBy_setCell (W : World) (g k : Nat) (v : Value) : W.grownBy (W.setCell ⟨g, k, none⟩ v) (some g) := ⟨rfl, rfl, rfl, by simp, fun j _ hne => Below.heap_setCell _ _ _ j (fun e => hne (by rw [e]))⟩
/-- What copied's loop keeps. -/
structure CpAt (w : World) (l : List Fct) (v : Value) (wr : World) : Prop where
  own : wr.ownsRow w.heap.size 45 3 v l.length (cellsOfF l)
  below : Below w.heap.size w wr
theorem CpAt.next {w wr w' : World} {l : List Fct} {v : Value} (h : CpAt w l v wr) (hb : Below wr.heap.size wr w') : CpAt w l v w' :=
  ⟨h.own.kept (grownBy_of_below hb) (by cases h : v.ownBlock <;> simp), h.below.trans (hb.mono h.below.size)⟩
set_option maxRecDepth 100000 in
set_option maxHeartbeats 4000000 in
/-- copied. -/
theorem copied_any {l : List Fct} {A : Option Addr} {n c : Nat} (u t : Int) (w : World) (F : Nat → Prop) (hf : FactsAt w F (.slice A n c) l) (hF : ∀ k, F k → k < w.heap.size) (hN : n ≤ 100000) :
    Calls Tryz.prog 111 #[.slice A n c, .int .i64 u, .int .i64 t] w (SortedSays w.heap.size (copyF l u t) w) := by
  have hn := (rows_len hf).1
  have hlen : ∀ k, (copyF (l.take k) u t).length ≤ k := fun k => by
    unfold copyF
    rw [List.length_map]
    exact Nat.le_trans (List.length_filter_le _ _) (by rw [List.length_take]; omega)
  have HF := Lib.hid hf
  have HB := Lib.hid hF
  have HL := Lib.hid hn
  have HE := Lib.hid hlen
  obtain ⟨i0, hi, hz0, hz1, hz2⟩ := info_parts infoFact
  clear hf hF hn hlen
  go_enter Tryz.func111, Tryz.ntmps111
  go_wp2
  go_loopw [6, 11] (fun v j wr => ∃ k : Nat, k ≤ n ∧ j = .int .i64 k ∧ ∃ (m : Nat) (A' : Option Addr) (c' : Nat), v = .slice A' m c' ∧ m = (copyF (l.take k) u t).length ∧ CpAt w (copyF (l.take k) u t) v wr) (fun _ j _ => n - (intOf j).toNat)
  case atStart => exact ⟨0, by omega, rfl, 0, none, 0, rfl, rfl, ⟨World.ownsRow_nil _ _ _ _, Below.refl _ _⟩⟩
  case round =>
    obtain ⟨k, hk, rfl, m, A', c', rfl, hm, hcp⟩ := hrel
    by_cases hlt : k < n
    · have d1 : decide (k < n) = true := decide_eq_true hlt
      obtain ⟨x, hx⟩ : ∃ s, l[k]? = some s := ⟨_, List.getElem?_eq_getElem (by have := HL.out; omega)⟩
      obtain ⟨g, o, rfl, hg, c0, c1, c2⟩ := FactsAt.at_ (HF.out.keep (SameOn.of_below hcp.below HB.out)) hx
      have HN := Lib.hid (copy_next u t hx)
      have HM := Lib.hid (show m ≤ 100000 by have := HE.out k; omega)
      have i2 : (0 : Int) ≤ (k : Int) := by omega
      have i3 : (k : Int) < (n : Int) := by omega
      have HNB := Lib.hid (show ∀ j, some j = (Value.slice A' m c').ownBlock → j < wr.heap.size ∧ w.heap.size ≤ j from fun j e => own_lt hcp.own j e.symm)
      have l0 : g < wr.heap.size := by have := HB.out g hg; have := hcp.below.size; omega
      have HCP := Lib.hid hcp
      clear hx hg hcp
      go_upto_region 4 with (first | go_in)
      obtain ⟨WA, hWA⟩ : ∃ WA, wr.alloc (.cells #[.int .i64 x.kind, .int .i64 x.a, .int .i64 x.b] 45) = WA := ⟨_, rfl⟩
      rw [hWA]
      have hblk : WA.heap[wr.heap.size]? = some (.cells #[.int .i64 x.kind, .int .i64 x.a, .int .i64 x.b] 45 (0, 0)) := by rw [← hWA]; exact heap_alloc_new wr _
      have HCA := Lib.hid (HCP.out.next (show Below wr.heap.size wr WA by rw [← hWA]; exact (Below.refl _ _).alloc (Nat.le_refl _) _))
      have HQW := Lib.hid HCP.out.below.size
      obtain ⟨q, hq⟩ : ∃ q, wr.heap.size = q := ⟨_, rfl⟩
      rw [hq] at hblk HQW ⊢
      have HQE := Lib.hid hq
      have h0 : WA.cell? ⟨q, 0, none⟩ = some (.int .i64 x.kind) := by simp [World.cell?, hblk]
      have h1 : WA.cell? ⟨q, 1, none⟩ = some (.int .i64 x.a) := by simp [World.cell?, hblk]
      have h2 : WA.cell? ⟨q, 2, none⟩ = some (.int .i64 x.b) := by simp [World.cell?, hblk]
      have HQ := Lib.hid (lt_of_block hblk)
      have HBLK := Lib.hid hblk
      have HU := Lib.hid fun W => has_any x u W
      have HT := Lib.hid fun W => has_any x t W
      have HMM := Lib.hid hm
      have n5 : n ≤ 100000 := hN
      clear hWA hq hblk hm l0 c0 c1 c2
      cases hu : hasF x u
      · have HS := Lib.hid (show copyF (l.take (k + 1)) u t = copyF (l.take k) u t by rw [HN.out, hu]; simp)
        rw [hu] at HU
        go_wp2_with (first | ((with_reducible refine (HU.out _).mono ?_); rintro e w1 ⟨rfl, hb1⟩) | go_in)
        go_roundw
        case rel => exact ⟨k + 1, hlt, by go_num, m, A', c', rfl, by rw [HS.out]; exact HMM.out, by rw [HS.out]; exact HCA.out.next hb1⟩
        case measure => simp [intOf]; omega
      · rw [hu] at HU
        cases ht : hasF x t
        rotate_left
        · have HS := Lib.hid (show copyF (l.take (k + 1)) u t = copyF (l.take k) u t by rw [HN.out, hu, ht]; simp)
          rw [ht] at HT
          go_wp2_with (first
            | ((with_reducible refine (HU.out _).mono ?_); rintro e w1 ⟨rfl, hb1⟩
               have g0 := (hb1.cell (p := ⟨q, 0, none⟩) HQ.out).trans h0
               have g1 := (hb1.cell (p := ⟨q, 1, none⟩) HQ.out).trans h1
               have g2 := (hb1.cell (p := ⟨q, 2, none⟩) HQ.out).trans h2)
            | ((with_reducible refine (HT.out _).mono ?_); rintro e w2 ⟨rfl, hb2⟩)
            | go_in)
          go_roundw
          case rel => exact ⟨k + 1, hlt, by go_num, m, A', c', rfl, by rw [HS.out]; exact HMM.out, by rw [HS.out]; exact (HCA.out.next hb1).next hb2⟩
          case measure => simp [intOf]; omega
        · have HS := Lib.hid (show copyF (l.take (k + 1)) u t = copyF (l.take k) u t ++ [copy1 x u t] by rw [HN.out, hu, ht]; simp)
          rw [ht] at HT
          cases hxa : (x.a == u)
          · have HG := Lib.hid (show copy1 x u t = ⟨x.kind, x.a, t⟩ by unfold copy1; rw [if_neg (by simpa using hxa)])
            rw [HG.out] at HS
            go_upto_region 8 with (first
              | ((with_reducible refine (HU.out _).mono ?_); rintro e w1 ⟨rfl, hb1⟩
                 have g0 := (hb1.cell (p := ⟨q, 0, none⟩) HQ.out).trans h0
                 have g1 := (hb1.cell (p := ⟨q, 1, none⟩) HQ.out).trans h1
                 have g2 := (hb1.cell (p := ⟨q, 2, none⟩) HQ.out).trans h2)
              | ((with_reducible refine (HT.out _).mono ?_); rintro e w2 ⟨rfl, hb2⟩
                 have hk2 := ((hb1.trans (hb2.mono hb1.size)).block q HQ.out).trans HBLK.out
                 have k0 : w2.cell? ⟨q, 0, none⟩ = some (.int .i64 x.kind) := by simp [World.cell?, hk2]
                 have k1 : w2.cell? ⟨q, 1, none⟩ = some (.int .i64 x.a) := by simp [World.cell?, hk2]
                 have k2 : w2.cell? ⟨q, 2, none⟩ = some (.int .i64 x.b) := by simp [World.cell?, hk2]
                 have z2 : w2.frozen? ⟨q, 2, none⟩ = false := by simp [World.frozen?, hk2]
                 clear hk2)
              | go_in)
            have HC2 := Lib.hid ((HCA.out.next hb1).next hb2)
            have hown5 : (w2.setCell ⟨q, 2, none⟩ (.int .i64 t)).ownsRow w.heap.size 45 3 (.slice A' m c') m (cellsOfF (copyF (l.take k) u t)) := by
              have h := HC2.out.own
              rw [← HMM.out] at h
              exact h.kept (grownBy_setCell _ _ _ _) (.inr (fun e => by have := HNB.out q e.symm; have := HQE.out; omega))
            have HB5 := Lib.hid (show Below w.heap.size w (w2.setCell ⟨q, 2, none⟩ (.int .i64 t)) from HC2.out.below.grown (grownBy_setCell _ _ _ _) HC2.out.below.size (fun j e => by cases e; exact HQW.out))
            have HS5 := Lib.hid (show (w2.setCell ⟨q, 2, none⟩ (.int .i64 t)).heap.size = w2.heap.size by simp)
            go_wp2_with (first
              | (at_builtin; refine wpList_append_own_at _ rfl _ _ 39 rfl w.heap.size 45 i0 (.agg #[.int .i64 0, .int .i64 0, .int .i64 0]) 3 24 Tryz.underlying39 hi hz0 hz1 hz2 rfl (by decide) (.slice A' m c') m _ rfl (hown5.alloc _) ⟨w2.heap.size, 0, none⟩ 1 1 [Value.int .i64 x.kind, .int .i64 x.a, .int .i64 t] rfl (by rfl) (by have h := cells_new_at (w2.setCell ⟨q, 2, none⟩ (.int .i64 t)) #[Value.int .i64 x.kind, .int .i64 x.a, .int .i64 t] 45; rw [HS5.out] at h; exact h) (by simp [Value.oneCell']) (by have := HM.out; unfold maxLen; omega) (by have := HM.out; omega) (by have := HB5.out.size; rw [HS5.out] at this; simp; omega) ?_; intro v' w6 ho6 hg6 _ _
                 have HO6 := Lib.hid ho6
                 have HG6 := Lib.hid hg6
                 obtain ⟨A6, c6, rfl⟩ := own_form ho6
                 clear ho6 hg6)
              | go_in)
            go_roundw
            case rel => exact ⟨k + 1, hlt, by go_num, m + 1, A6, c6, rfl, by rw [HS.out, List.length_append, ← HMM.out]; rfl, ⟨by have := HO6.out; rw [HS.out, List.length_append, ← HMM.out, cellsOf_snoc]; exact this, (HB5.out.alloc HB5.out.size _).grown HG6.out (by have := HB5.out.size; rw [HS5.out] at this; simp; omega) (fun j e => (HNB.out j e.symm).2)⟩⟩
            case measure => simp [intOf]; omega
          · have HG := Lib.hid (show copy1 x u t = ⟨x.kind, t, x.b⟩ by unfold copy1; rw [if_pos (by simpa using hxa)])
            rw [HG.out] at HS
            go_upto_region 8 with (first
              | ((with_reducible refine (HU.out _).mono ?_); rintro e w1 ⟨rfl, hb1⟩
                 have g0 := (hb1.cell (p := ⟨q, 0, none⟩) HQ.out).trans h0
                 have g1 := (hb1.cell (p := ⟨q, 1, none⟩) HQ.out).trans h1
                 have g2 := (hb1.cell (p := ⟨q, 2, none⟩) HQ.out).trans h2)
              | ((with_reducible refine (HT.out _).mono ?_); rintro e w2 ⟨rfl, hb2⟩
                 have hk2 := ((hb1.trans (hb2.mono hb1.size)).block q HQ.out).trans HBLK.out
                 have k0 : w2.cell? ⟨q, 0, none⟩ = some (.int .i64 x.kind) := by simp [World.cell?, hk2]
                 have k1 : w2.cell? ⟨q, 1, none⟩ = some (.int .i64 x.a) := by simp [World.cell?, hk2]
                 have k2 : w2.cell? ⟨q, 2, none⟩ = some (.int .i64 x.b) := by simp [World.cell?, hk2]
                 have z1 : w2.frozen? ⟨q, 1, none⟩ = false := by simp [World.frozen?, hk2]
                 clear hk2)
              | go_in)
            have HC2 := Lib.hid ((HCA.out.next hb1).next hb2)
            have hown5 : (w2.setCell ⟨q, 1, none⟩ (.int .i64 t)).ownsRow w.heap.size 45 3 (.slice A' m c') m (cellsOfF (copyF (l.take k) u t)) := by
              have h := HC2.out.own
              rw [← HMM.out] at h
              exact h.kept (grownBy_setCell _ _ _ _) (.inr (fun e => by have := HNB.out q e.symm; have := HQE.out; omega))
            have HB5 := Lib.hid (show Below w.heap.size w (w2.setCell ⟨q, 1, none⟩ (.int .i64 t)) from HC2.out.below.grown (grownBy_setCell _ _ _ _) HC2.out.below.size (fun j e => by cases e; exact HQW.out))
            have HS5 := Lib.hid (show (w2.setCell ⟨q, 1, none⟩ (.int .i64 t)).heap.size = w2.heap.size by simp)
            go_wp2_with (first
              | (at_builtin; refine wpList_append_own_at _ rfl _ _ 39 rfl w.heap.size 45 i0 (.agg #[.int .i64 0, .int .i64 0, .int .i64 0]) 3 24 Tryz.underlying39 hi hz0 hz1 hz2 rfl (by decide) (.slice A' m c') m _ rfl (hown5.alloc _) ⟨w2.heap.size, 0, none⟩ 1 1 [Value.int .i64 x.kind, .int .i64 t, .int .i64 x.b] rfl (by rfl) (by have h := cells_new_at (w2.setCell ⟨q, 1, none⟩ (.int .i64 t)) #[Value.int .i64 x.kind, .int .i64 t, .int .i64 x.b] 45; rw [HS5.out] at h; exact h) (by simp [Value.oneCell']) (by have := HM.out; unfold maxLen; omega) (by have := HM.out; omega) (by have := HB5.out.size; rw [HS5.out] at this; simp; omega) ?_; intro v' w6 ho6 hg6 _ _
                 have HO6 := Lib.hid ho6
                 have HG6 := Lib.hid hg6
                 obtain ⟨A6, c6, rfl⟩ := own_form ho6
                 clear ho6 hg6)
              | go_in)
            go_roundw
            case rel => exact ⟨k + 1, hlt, by go_num, m + 1, A6, c6, rfl, by rw [HS.out, List.length_append, ← HMM.out]; rfl, ⟨by have := HO6.out; rw [HS.out, List.length_append, ← HMM.out, cellsOf_snoc]; exact this, (HB5.out.alloc HB5.out.size _).grown HG6.out (by have := HB5.out.size; rw [HS5.out] at this; simp; omega) (fun j e => (HNB.out j e.symm).2)⟩⟩
            case measure => simp [intOf]; omega
    · have d1 : decide (k < n) = false := decide_eq_false hlt
      have e : k = n := by omega
      subst e
      rw [List.take_of_length_le (by have := HL.out; omega)] at hm hcp
      have HCP := Lib.hid hcp
      have HMM := Lib.hid hm
      clear hcp hm
      go_wp2
      go_ret
      exact ⟨_, rfl, HCP.out.own, HCP.out.below⟩
end Go.Proofs.YtjbabpnepjhllaaGreat
