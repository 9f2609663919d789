/- The question that duties.after asks of each fact of its set; copied. -/
import Derived.Test.YtjbabpnepjhllaaGreatDelF
namespace Go.Proofs.YtjbabpnepjhllaaGreat
open Go.RowKit

set_option maxRecDepth 100000 in
set_option maxHeartbeats 4000000 in
theorem after1_any (o : KOp) (f : Fct) (B : Nat) (w : World) (h1 : w.cell? ⟨B, 1, none⟩ = some (.int .i64 o.d)) (h2 : w.cell? ⟨B, 2, none⟩ = some (.int .i64 o.e)) (hB : B < w.heap.size) :
    Calls Tryz.prog 78 #[.agg #[.int .i64 f.kind, .int .i64 f.a, .int .i64 f.b], .agg #[], .pointer (some ⟨B, 0, none⟩)] w fun e w' => e = .returned (.bool (goneF o f)) ∧ Below w.heap.size w w' := by
  have hv : goneF o f = ((decide (0 ≤ o.d) && hasF f o.d) || (decide (0 ≤ o.e) && hasF f o.e)) := rfl
  have HD := Lib.hid fun W => has_any f o.d W
  have HE := Lib.hid fun W => has_any f o.e W
  generalize hasF f o.d = p at HD hv
  generalize hasF f o.e = q at HE hv
  obtain ⟨W, hW⟩ : ∃ W, W = (w.alloc (.cells #[.int .i64 f.kind, .int .i64 f.a, .int .i64 f.b] 45)).alloc (.cells #[] 106) := ⟨_, rfl⟩
  have hb : Below w.heap.size w W := by rw [hW]; exact ((Below.refl _ _).alloc (Nat.le_refl _) _).alloc (by simp) _
  have hz : W.heap.size = w.heap.size + 2 := by rw [hW]; simp
  have hc : ∀ i, W.cell? ⟨w.heap.size, i, none⟩ = #[Value.int .i64 f.kind, .int .i64 f.a, .int .i64 f.b][i]? := fun i => by rw [hW, ((Below.refl _ (w.alloc _)).alloc (Nat.le_refl _) _).cell (p := ⟨w.heap.size, i, none⟩) (by simp), World.cell?_alloc_at _ _ _ _ rfl]
  have hc0 := hc 0
  have hc1 := hc 1
  have hc2 := hc 2
  simp only [List.getElem?_toArray, List.getElem?_cons_zero, List.getElem?_cons_succ] at hc0 hc1 hc2
  have b1 := (hb.cell (p := ⟨B, 1, none⟩) hB).trans h1
  have b2 := (hb.cell (p := ⟨B, 2, none⟩) hB).trans h2
  have HW := Lib.hid hW
  have HB := Lib.hid hb
  have HCE := Lib.hid b2
  have HF0 := Lib.hid hc0
  have HF1 := Lib.hid hc1
  have HF2 := Lib.hid hc2
  have HBL := Lib.hid (show B < W.heap.size by omega)
  have HLW := Lib.hid (show w.heap.size < W.heap.size by omega)
  clear hW hb hc hz h1 h2 hB
  have HEND := Lib.hid (show ∀ w2 : World, Below W.heap.size W w2 → Below w.heap.size w w2 from fun _ h => HB.out.trans (h.mono HB.out.size))
  by_cases d0 : (0 : Int) ≤ o.d
  · have e0 : decide ((0 : Int) ≤ o.d) = true := decide_eq_true d0
    have e0' : decide (o.d ≥ (0 : Int)) = true := decide_eq_true d0
    by_cases d1 : (0 : Int) ≤ o.e
    · have e1 : decide ((0 : Int) ≤ o.e) = true := decide_eq_true d1
      cases p
      · cases q
        · have HV := Lib.hid (show goneF o f = false by rw [hv, e0, e1]; rfl)
          clear hv d0 d1
          go_enter Tryz.func78, Tryz.ntmps78
          go_upto_region 1 with fail
          rw [← HW.out]
          go_wp2_with (first
            | ((with_reducible refine (HD.out _).mono ?_); rintro e w1 ⟨rfl, hb1⟩
               have ce := (hb1.cell (p := ⟨B, 2, none⟩) HBL.out).trans HCE.out
               have f0 := (hb1.cell (p := ⟨w.heap.size, 0, none⟩) HLW.out).trans HF0.out
               have f1 := (hb1.cell (p := ⟨w.heap.size, 1, none⟩) HLW.out).trans HF1.out
               have f2 := (hb1.cell (p := ⟨w.heap.size, 2, none⟩) HLW.out).trans HF2.out)
            | ((with_reducible refine (HE.out _).mono ?_); rintro e w2 ⟨rfl, hb2⟩))
          go_ret
          exact ⟨ret_bool HV.out.symm, HEND.out _ (hb1.trans (hb2.mono hb1.size))⟩
        · have HV := Lib.hid (show goneF o f = true by rw [hv, e0, e1]; rfl)
          clear hv d0 d1
          go_enter Tryz.func78, Tryz.ntmps78
          go_upto_region 1 with fail
          rw [← HW.out]
          go_wp2_with (first
            | ((with_reducible refine (HD.out _).mono ?_); rintro e w1 ⟨rfl, hb1⟩
               have ce := (hb1.cell (p := ⟨B, 2, none⟩) HBL.out).trans HCE.out
               have f0 := (hb1.cell (p := ⟨w.heap.size, 0, none⟩) HLW.out).trans HF0.out
               have f1 := (hb1.cell (p := ⟨w.heap.size, 1, none⟩) HLW.out).trans HF1.out
               have f2 := (hb1.cell (p := ⟨w.heap.size, 2, none⟩) HLW.out).trans HF2.out)
            | ((with_reducible refine (HE.out _).mono ?_); rintro e w2 ⟨rfl, hb2⟩))
          go_ret
          exact ⟨ret_bool HV.out.symm, HEND.out _ (hb1.trans (hb2.mono hb1.size))⟩
      · have HV := Lib.hid (show goneF o f = true by rw [hv, e0]; rfl)
        clear hv d0 d1
        go_enter Tryz.func78, Tryz.ntmps78
        go_upto_region 1 with fail
        rw [← HW.out]
        go_wp2_with (first
          | ((with_reducible refine (HD.out _).mono ?_); rintro e w1 ⟨rfl, hb1⟩
             have ce := (hb1.cell (p := ⟨B, 2, none⟩) HBL.out).trans HCE.out
             have f0 := (hb1.cell (p := ⟨w.heap.size, 0, none⟩) HLW.out).trans HF0.out
             have f1 := (hb1.cell (p := ⟨w.heap.size, 1, none⟩) HLW.out).trans HF1.out
             have f2 := (hb1.cell (p := ⟨w.heap.size, 2, none⟩) HLW.out).trans HF2.out)
          | ((with_reducible refine (HE.out _).mono ?_); rintro e w2 ⟨rfl, hb2⟩))
        go_ret
        exact ⟨ret_bool HV.out.symm, HEND.out _ hb1⟩
    · have e1 : decide ((0 : Int) ≤ o.e) = false := decide_eq_false d1
      cases p
      · have HV := Lib.hid (show goneF o f = false by rw [hv, e0, e1]; rfl)
        clear hv d0 d1
        go_enter Tryz.func78, Tryz.ntmps78
        go_upto_region 1 with fail
        rw [← HW.out]
        go_wp2_with (first
          | ((with_reducible refine (HD.out _).mono ?_); rintro e w1 ⟨rfl, hb1⟩
             have ce := (hb1.cell (p := ⟨B, 2, none⟩) HBL.out).trans HCE.out
             have f0 := (hb1.cell (p := ⟨w.heap.size, 0, none⟩) HLW.out).trans HF0.out
             have f1 := (hb1.cell (p := ⟨w.heap.size, 1, none⟩) HLW.out).trans HF1.out
             have f2 := (hb1.cell (p := ⟨w.heap.size, 2, none⟩) HLW.out).trans HF2.out)
          | ((with_reducible refine (HE.out _).mono ?_); rintro e w2 ⟨rfl, hb2⟩))
        go_ret
        exact ⟨ret_bool HV.out.symm, HEND.out _ hb1⟩
      · have HV := Lib.hid (show goneF o f = true by rw [hv, e0]; rfl)
        clear hv d0 d1
        go_enter Tryz.func78, Tryz.ntmps78
        go_upto_region 1 with fail
        rw [← HW.out]
        go_wp2_with (first
          | ((with_reducible refine (HD.out _).mono ?_); rintro e w1 ⟨rfl, hb1⟩
             have ce := (hb1.cell (p := ⟨B, 2, none⟩) HBL.out).trans HCE.out
             have f0 := (hb1.cell (p := ⟨w.heap.size, 0, none⟩) HLW.out).trans HF0.out
             have f1 := (hb1.cell (p := ⟨w.heap.size, 1, none⟩) HLW.out).trans HF1.out
             have f2 := (hb1.cell (p := ⟨w.heap.size, 2, none⟩) HLW.out).trans HF2.out)
          | ((with_reducible refine (HE.out _).mono ?_); rintro e w2 ⟨rfl, hb2⟩))
        go_ret
        exact ⟨ret_bool HV.out.symm, HEND.out _ hb1⟩
  · have e0 : decide ((0 : Int) ≤ o.d) = false := decide_eq_false d0
    by_cases d1 : (0 : Int) ≤ o.e
    · have e1 : decide ((0 : Int) ≤ o.e) = true := decide_eq_true d1
      cases q
      · have HV := Lib.hid (show goneF o f = false by rw [hv, e0, e1]; rfl)
        clear hv d0 d1
        go_enter Tryz.func78, Tryz.ntmps78
        go_upto_region 1 with fail
        rw [← HW.out]
        go_wp2_with (first
          | ((with_reducible refine (HD.out _).mono ?_); rintro e w1 ⟨rfl, hb1⟩
             have ce := (hb1.cell (p := ⟨B, 2, none⟩) HBL.out).trans HCE.out
             have f0 := (hb1.cell (p := ⟨w.heap.size, 0, none⟩) HLW.out).trans HF0.out
             have f1 := (hb1.cell (p := ⟨w.heap.size, 1, none⟩) HLW.out).trans HF1.out
             have f2 := (hb1.cell (p := ⟨w.heap.size, 2, none⟩) HLW.out).trans HF2.out)
          | ((with_reducible refine (HE.out _).mono ?_); rintro e w2 ⟨rfl, hb2⟩))
        go_ret
        exact ⟨ret_bool HV.out.symm, HEND.out _ hb2⟩
      · have HV := Lib.hid (show goneF o f = true by rw [hv, e0, e1]; rfl)
        clear hv d0 d1
        go_enter Tryz.func78, Tryz.ntmps78
        go_upto_region 1 with fail
        rw [← HW.out]
        go_wp2_with (first
          | ((with_reducible refine (HD.out _).mono ?_); rintro e w1 ⟨rfl, hb1⟩
             have ce := (hb1.cell (p := ⟨B, 2, none⟩) HBL.out).trans HCE.out
             have f0 := (hb1.cell (p := ⟨w.heap.size, 0, none⟩) HLW.out).trans HF0.out
             have f1 := (hb1.cell (p := ⟨w.heap.size, 1, none⟩) HLW.out).trans HF1.out
             have f2 := (hb1.cell (p := ⟨w.heap.size, 2, none⟩) HLW.out).trans HF2.out)
          | ((with_reducible refine (HE.out _).mono ?_); rintro e w2 ⟨rfl, hb2⟩))
        go_ret
        exact ⟨ret_bool HV.out.symm, HEND.out _ hb2⟩
    · have e1 : decide ((0 : Int) ≤ o.e) = false := decide_eq_false d1
      have HV := Lib.hid (show goneF o f = false by rw [hv, e0, e1]; rfl)
      clear hv d0 d1
      go_enter Tryz.func78, Tryz.ntmps78
      go_upto_region 1 with fail
      rw [← HW.out]
      go_wp2_with (first
        | ((with_reducible refine (HD.out _).mono ?_); rintro e w1 ⟨rfl, hb1⟩
           have ce := (hb1.cell (p := ⟨B, 2, none⟩) HBL.out).trans HCE.out
           have f0 := (hb1.cell (p := ⟨w.heap.size, 0, none⟩) HLW.out).trans HF0.out
           have f1 := (hb1.cell (p := ⟨w.heap.size, 1, none⟩) HLW.out).trans HF1.out
           have f2 := (hb1.cell (p := ⟨w.heap.size, 2, none⟩) HLW.out).trans HF2.out)
        | ((with_reducible refine (HE.out _).mono ?_); rintro e w2 ⟨rfl, hb2⟩))
      go_ret
      exact ⟨ret_bool HV.out.symm, HB.out⟩
end Go.Proofs.YtjbabpnepjhllaaGreat
