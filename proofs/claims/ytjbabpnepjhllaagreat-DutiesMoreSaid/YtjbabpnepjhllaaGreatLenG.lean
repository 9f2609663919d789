/- lengths.one. -/
import Derived.Test.YtjbabpnepjhllaaGreatLenF
namespace Go.Proofs.YtjbabpnepjhllaaGreat
open Go.RowKit

theorem partsK_split {n : Nat} {o : KOp} : partsK n o = ([partK n (kHasD o.kind) o.d, partK n (kHasE o.kind) o.e, partK n (kHasA o.kind) o.a, partK n (kHasB o.kind) o.b, partK n (kHasC o.kind) o.c]).all id := by
  unfold partsK; simp
theorem shape_bits {k : Int} (h : 1 ≤ k ∧ k ≤ 16) : (shapeK k = 0 ∨ shapeK k = 1 ∨ shapeK k = 5 ∨ shapeK k = 13 ∨ shapeK k = 19 ∨ shapeK k = 21 ∨ shapeK k = 29) ∧
    bitK (shapeK k) 0 = kHasD k ∧ bitK (shapeK k) 1 = kHasE k ∧ bitK (shapeK k) 2 = kHasA k ∧ bitK (shapeK k) 3 = kHasB k ∧ bitK (shapeK k) 4 = kHasC k := by
  rcases kinds16 h with rfl | rfl | rfl | rfl | rfl | rfl | rfl | rfl | rfl | rfl | rfl | rfl | rfl | rfl | rfl | rfl <;> decide
theorem part_in {n : Nat} {b : Bool} {x : Int} (h : partK n b x = true) : (0 ≤ x ∧ x < n) ∨ (b = false ∧ x = -1) := by
  unfold partK thereK at h
  cases b
  · right; exact ⟨rfl, by simpa using h⟩
  · left; simpa using h
theorem takes_in {n : Nat} {o : KOp} (h : partsK n o = true) : ∀ v ∈ takesK o, 0 ≤ v ∧ v < (n : Int) := by
  unfold partsK at h
  simp only [Bool.and_eq_true] at h
  obtain ⟨hd, he, ha, hb, hc⟩ := h
  intro v hv
  unfold takesK at hv
  rcases List.mem_append.1 hv with hv | hv
  · obtain ⟨h1, h2⟩ := List.mem_filter.1 hv
    simp only [decide_eq_true_eq] at h2
    simp only [List.mem_cons, List.not_mem_nil, or_false] at h1
    rcases h1 with rfl | rfl | rfl
    · have := part_in ha; omega
    · have := part_in hb; omega
    · have := part_in hc; omega
  · split at hv
    · rename_i h14
      rw [h14] at hd he
      have h1 := part_in hd
      have h2 := part_in he
      simp only [show kHasD 14 = true from rfl, show kHasE 14 = true from rfl, Bool.true_eq_false, false_and, or_false] at h1 h2
      simp only [List.mem_cons, List.not_mem_nil, or_false] at hv
      rcases hv with rfl | rfl
      · exact h1
      · exact h2
    · cases hv
theorem alike_in {n : Nat} {o : KOp} (h : partsK n o = true) : ∀ v ∈ alikeK o, 0 ≤ v ∧ v < (n : Int) := by
  unfold partsK at h
  simp only [Bool.and_eq_true] at h
  obtain ⟨hd, he, ha, hb, hc⟩ := h
  have hd := part_in hd
  have he := part_in he
  have ha := part_in ha
  have hb := part_in hb
  have hc := part_in hc
  unfold kHasD at hd
  unfold kHasE at he
  unfold kHasA at ha
  unfold kHasB at hb
  unfold kHasC at hc
  intro v hv
  unfold alikeK at hv
  split at hv
  · rename_i hk; rw [hk] at ha hb; simp at ha hb hv; rcases hv with rfl | rfl <;> assumption
  split at hv
  · rename_i hk; rw [hk] at hd he; simp at hd he hv; rcases hv with rfl | rfl <;> assumption
  split at hv
  · rename_i hk; rw [hk] at hd ha hb; simp at hd ha hb hv; rcases hv with rfl | rfl | rfl <;> assumption
  split at hv
  · rename_i hk; rw [hk] at hd hc; simp at hd hc hv; rcases hv with rfl | rfl <;> assumption
  split at hv
  · rename_i hk; rcases hk with hk | hk | hk <;> (rw [hk] at hd ha hb hc; simp at hd ha hb hc hv; rcases hv with rfl | rfl | rfl | rfl <;> assumption)
  split at hv
  · rename_i hk; rw [hk] at hd ha hc; simp at hd ha hc hv; rcases hv with rfl | rfl | rfl <;> assumption
  · cases hv
theorem all_next {l : List Bool} {k : Nat} {x : Bool} (h : (l.take k).all id = true) (hx : l[k]? = some x) (ht : x = true) : (l.take (k + 1)).all id = true := by
  subst ht
  rw [List.take_add_one, hx]
  simp [h]
theorem all_stop {l : List Bool} {k : Nat} (hx : l[k]? = some false) : l.all id = false := by
  rw [List.all_eq_false]
  exact ⟨false, List.mem_of_getElem? hx, by simp⟩
def prtL (n : Nat) (o : KOp) : List Bool := [partK n (kHasD o.kind) o.d, partK n (kHasE o.kind) o.e, partK n (kHasA o.kind) o.a, partK n (kHasB o.kind) o.b, partK n (kHasC o.kind) o.c]
set_option maxRecDepth 100000 in
set_option maxHeartbeats 8000000 in
theorem one_any (Av : Option Addr) (nv cv : Nat) (vs : List KVar) (o : KOp) (w : World) (F : Nat → Prop) (hv : KVarsAt w F (.slice Av nv cv) vs) (hF : ∀ k, F k → k < w.heap.size) (hok : KOpOk o) (hn : vs.length ≤ 100000) :
    Calls Tryz.prog 63 #[.slice Av nv cv, .agg #[.int .i64 o.kind, .int .i64 o.d, .int .i64 o.e, .int .i64 o.a, .int .i64 o.b, .int .i64 o.c, .int .u64 o.imm]] w fun e w' => e = .returned (.bool (oneK vs o)) ∧ Below w.heap.size w w' := by
  have hnv := (rows_len hv).1
  obtain ⟨W, hW⟩ : ∃ W, W = (w.alloc (.cells #[.slice Av nv cv] 22)).alloc (.cells #[.int .i64 o.kind, .int .i64 o.d, .int .i64 o.e, .int .i64 o.a, .int .i64 o.b, .int .i64 o.c, .int .u64 o.imm] 43) := ⟨_, rfl⟩
  obtain ⟨hvo, hb, hz⟩ := vo_start w F Av nv cv vs o hv hF
  rw [show (w.alloc (.cells #[.slice Av nv cv] 22)).alloc (.cells (kopRow o).toArray 43) = W from hW.symm] at hvo hb hz
  have HW := Lib.hid hW
  have HV := Lib.hid hvo
  have HB := Lib.hid hb
  have HZ := Lib.hid hz
  have HNV := Lib.hid hnv
  have HOK := Lib.hid hok
  clear hW hvo hb hz hv hF hok
  by_cases h17 : o.kind = 17
  · have HX := Lib.hid (show oneK vs o = needK nv o by unfold oneK; rw [if_pos h17, hnv])
    have d17 : (o.kind == 17) = true := by rw [beq_iff_eq]; exact h17
    have HND := Lib.hid (fun w1 => need_any Av nv cv o w1)
    clear hnv h17
    go_enter Tryz.func63, Tryz.ntmps63
    go_upto_region 1 with (first | go_in)
    rw [← HW.out]
    clear HW
    have c0 := HV.out.op.kind
    have c1 := HV.out.op.d
    have c2 := HV.out.op.e
    have c3 := HV.out.op.a
    have c4 := HV.out.op.b
    have c5 := HV.out.op.c
    have c6 := HV.out.op.imm
    have c7 := HV.out.hcv
    go_wp2_with (first | ((with_reducible refine (HND.out _).mono ?_); rintro e w1 ⟨rfl, hb1⟩; have HB1 := Lib.hid hb1; clear hb1) | go_in)
    go_ret
    exact ⟨ret_bool HX.out.symm, HB.out.trans (HB1.out.mono HB.out.size)⟩
  have d17 : (o.kind == 17) = false := beq_eq_false_iff_ne.2 h17
  have hx : oneK vs o = (decide (1 ≤ o.kind ∧ o.kind ≤ 16) && (numK o && (partsK nv o && (intoK vs (secretK vs o) o.d && (intoK vs (secretK vs o) o.e && ((decide (o.e < 0) || !(o.d == o.e)) && agreeK vs o)))))) := by
    unfold oneK
    rw [if_neg h17, ← hnv, ← Bool.and_assoc, ← Bool.decide_and]
  clear h17
  have HSH := Lib.hid (fun w1 => shape_any o.kind w1)
  by_cases h16 : 1 ≤ o.kind ∧ o.kind ≤ 16
  rotate_left
  · have HX := Lib.hid (show oneK vs o = false by rw [hx, decide_eq_false h16]; rfl)
    rw [if_neg h16, decide_eq_false h16] at HSH
    clear hx hnv h16
    go_enter Tryz.func63, Tryz.ntmps63
    go_upto_region 1 with (first | go_in)
    rw [← HW.out]
    clear HW
    have c0 := HV.out.op.kind
    have c1 := HV.out.op.d
    have c2 := HV.out.op.e
    have c3 := HV.out.op.a
    have c4 := HV.out.op.b
    have c5 := HV.out.op.c
    have c6 := HV.out.op.imm
    have c7 := HV.out.hcv
    go_wp2_with (first | ((with_reducible refine (HSH.out _).mono ?_); rintro e w1 ⟨rfl, hw1⟩; subst w1) | go_in)
    go_ret
    exact ⟨ret_bool HX.out.symm, HB.out⟩
  rw [decide_eq_true h16, Bool.true_and] at hx
  rw [if_pos h16, decide_eq_true h16] at HSH
  have HSB := Lib.hid (shape_bits h16)
  have HNM := Lib.hid (fun w1 => number_any o w1)
  have HPT := Lib.hid (fun w1 => parts_any o w1)
  have HTK := Lib.hid (fun w1 => takes_any o w1)
  cases hnk : numK o
  · have HX := Lib.hid (show oneK vs o = false by rw [hx, hnk]; rfl)
    rw [hnk] at HNM
    clear hx hnv h16 hnk
    go_enter Tryz.func63, Tryz.ntmps63
    go_upto_region 1 with (first | go_in)
    rw [← HW.out]
    clear HW
    have c0 := HV.out.op.kind
    have c1 := HV.out.op.d
    have c2 := HV.out.op.e
    have c3 := HV.out.op.a
    have c4 := HV.out.op.b
    have c5 := HV.out.op.c
    have c6 := HV.out.op.imm
    have c7 := HV.out.hcv
    go_wp2_with (first
      | ((with_reducible refine (HSH.out _).mono ?_); rintro e w1 ⟨rfl, hw1⟩; subst w1)
      | ((with_reducible refine (HNM.out _).mono ?_); rintro e w1 ⟨rfl, hb1⟩; have HB1 := Lib.hid hb1; clear hb1)
      | go_in)
    go_ret
    exact ⟨ret_bool HX.out.symm, HB.out.trans (HB1.out.mono HB.out.size)⟩
  rw [hnk, Bool.true_and] at hx
  rw [hnk] at HNM
  have HX := Lib.hid hx
  clear hx hnv h16 hnk
  go_enter Tryz.func63, Tryz.ntmps63
  go_upto_region 1 with (first | go_in)
  rw [← HW.out]
  clear HW
  have c0 := HV.out.op.kind
  have c1 := HV.out.op.d
  have c2 := HV.out.op.e
  have c3 := HV.out.op.a
  have c4 := HV.out.op.b
  have c5 := HV.out.op.c
  have c6 := HV.out.op.imm
  have c7 := HV.out.hcv
  go_upto_region 6 with (first
    | ((with_reducible refine (HSH.out _).mono ?_); rintro e w1 ⟨rfl, hw1⟩; subst w1)
    | ((with_reducible refine (HNM.out _).mono ?_); rintro e w1 ⟨rfl, hb1⟩; have HV1 := Lib.hid (HV.out.next hb1); have HB1 := Lib.hid hb1; clear hb1)
    | go_in)
  clear c0 c1 c2 c3 c4 c5 c6 c7
  have c0 := HV1.out.op.kind
  have c1 := HV1.out.op.d
  have c2 := HV1.out.op.e
  have c3 := HV1.out.op.a
  have c4 := HV1.out.op.b
  have c5 := HV1.out.op.c
  have c6 := HV1.out.op.imm
  go_wp2_with (first
    | ((with_reducible refine (HPT.out _).mono ?_); rintro e w2 ⟨rfl, hb2⟩; have HB2 := Lib.hid (HB1.out.trans (hb2.mono HB1.out.size)); clear hb2)
    | go_in)
  clear c0 c1 c2 c3 c4 c5 c6
  go_loopw [34] (fun i wr => ∃ k : Nat, k ≤ 5 ∧ i = .int .i64 k ∧ Below W.heap.size W wr ∧ Hid (((prtL nv o).take k).all id = true)) (fun i _ => 5 - (intOf i).toNat)
  case atStart => exact ⟨0, by omega, rfl, HB2.out, Lib.hid rfl⟩
  case round =>
    obtain ⟨k, hk5, rfl, hbr, HT⟩ := hrel
    have HBR := Lib.hid hbr
    have HVR := Lib.hid (HV.out.next hbr)
    have p0 := HVR.out.hcv
    clear hbr
    obtain rfl | rfl | rfl | rfl | rfl | rfl : k = 0 ∨ k = 1 ∨ k = 2 ∨ k = 3 ∨ k = 4 ∨ k = 5 := by omega
    · clear hk5
      have hl : (prtL nv o)[0]? = some (partK nv (kHasD o.kind) o.d) := rfl
      have HL := Lib.hid hl
      clear hl
      have hi : ∀ w_, (Instr.index 90 (.agg #[.int .i64 o.d, .int .i64 o.e, .int .i64 o.a, .int .i64 o.b, .int .i64 o.c]) (.int .i64 0)).run Tryz.prog w_ = .ok (.int .i64 o.d) w_ := fun w_ => by kernel_rfl
      go_upto_region 9 with fail
      refine wp_code (c := partR Tryz.f63 9) (by kernel_rfl) ?_
      refine one_r9 (s := shapeK o.kind) (i := 0) _ _ HSB.out.1 (by omega) ?_
      intro a38 a39 a40 a41 a42
      rw [HSB.out.2.1]
      go_upto_region 10 with fail
      refine wp_code (c := partR Tryz.f63 10) (by kernel_rfl) ?_
      refine one_r10 (n := nv) (c := cv) (A := Av) (x := o.d) (h := kHasD o.kind) _ _ p0 ?_
      intro b43 b44 b45 b46 b47 b48 b49 b50 b51 b52 b53 b54 b55 b56 b57 b58 b59 b60
      cases hq : partK nv (kHasD o.kind) o.d
      · have HN := Lib.hid (all_stop (l := prtL nv o) (k := 0) (by rw [HL.out, hq]))
        rw [show (!false) = true from rfl]
        clear hq
        go_wp2
        go_ret
        refine ⟨ret_bool ?_, HB.out.trans (HBR.out.mono HB.out.size)⟩
        rw [HX.out, partsK_split]
        rw [show ([partK nv (kHasD o.kind) o.d, partK nv (kHasE o.kind) o.e, partK nv (kHasA o.kind) o.a, partK nv (kHasB o.kind) o.b, partK nv (kHasC o.kind) o.c] : List Bool) = prtL nv o from rfl, HN.out]
        rfl
      · have HN := Lib.hid (all_next HT.out HL.out hq)
        rw [show (!true) = false from rfl]
        clear hq
        go_wp2
        go_roundw
        case rel => exact ⟨0 + 1, by omega, rfl, HBR.out, HN⟩
        case measure => simp [intOf]
    · clear hk5
      have hl : (prtL nv o)[1]? = some (partK nv (kHasE o.kind) o.e) := rfl
      have HL := Lib.hid hl
      clear hl
      have hi : ∀ w_, (Instr.index 90 (.agg #[.int .i64 o.d, .int .i64 o.e, .int .i64 o.a, .int .i64 o.b, .int .i64 o.c]) (.int .i64 1)).run Tryz.prog w_ = .ok (.int .i64 o.e) w_ := fun w_ => by kernel_rfl
      go_upto_region 9 with fail
      refine wp_code (c := partR Tryz.f63 9) (by kernel_rfl) ?_
      refine one_r9 (s := shapeK o.kind) (i := 1) _ _ HSB.out.1 (by omega) ?_
      intro a38 a39 a40 a41 a42
      rw [HSB.out.2.2.1]
      go_upto_region 10 with fail
      refine wp_code (c := partR Tryz.f63 10) (by kernel_rfl) ?_
      refine one_r10 (n := nv) (c := cv) (A := Av) (x := o.e) (h := kHasE o.kind) _ _ p0 ?_
      intro b43 b44 b45 b46 b47 b48 b49 b50 b51 b52 b53 b54 b55 b56 b57 b58 b59 b60
      cases hq : partK nv (kHasE o.kind) o.e
      · have HN := Lib.hid (all_stop (l := prtL nv o) (k := 1) (by rw [HL.out, hq]))
        rw [show (!false) = true from rfl]
        clear hq
        go_wp2
        go_ret
        refine ⟨ret_bool ?_, HB.out.trans (HBR.out.mono HB.out.size)⟩
        rw [HX.out, partsK_split]
        rw [show ([partK nv (kHasD o.kind) o.d, partK nv (kHasE o.kind) o.e, partK nv (kHasA o.kind) o.a, partK nv (kHasB o.kind) o.b, partK nv (kHasC o.kind) o.c] : List Bool) = prtL nv o from rfl, HN.out]
        rfl
      · have HN := Lib.hid (all_next HT.out HL.out hq)
        rw [show (!true) = false from rfl]
        clear hq
        go_wp2
        go_roundw
        case rel => exact ⟨1 + 1, by omega, rfl, HBR.out, HN⟩
        case measure => simp [intOf]
    · clear hk5
      have hl : (prtL nv o)[2]? = some (partK nv (kHasA o.kind) o.a) := rfl
      have HL := Lib.hid hl
      clear hl
      have hi : ∀ w_, (Instr.index 90 (.agg #[.int .i64 o.d, .int .i64 o.e, .int .i64 o.a, .int .i64 o.b, .int .i64 o.c]) (.int .i64 2)).run Tryz.prog w_ = .ok (.int .i64 o.a) w_ := fun w_ => by kernel_rfl
      go_upto_region 9 with fail
      refine wp_code (c := partR Tryz.f63 9) (by kernel_rfl) ?_
      refine one_r9 (s := shapeK o.kind) (i := 2) _ _ HSB.out.1 (by omega) ?_
      intro a38 a39 a40 a41 a42
      rw [HSB.out.2.2.2.1]
      go_upto_region 10 with fail
      refine wp_code (c := partR Tryz.f63 10) (by kernel_rfl) ?_
      refine one_r10 (n := nv) (c := cv) (A := Av) (x := o.a) (h := kHasA o.kind) _ _ p0 ?_
      intro b43 b44 b45 b46 b47 b48 b49 b50 b51 b52 b53 b54 b55 b56 b57 b58 b59 b60
      cases hq : partK nv (kHasA o.kind) o.a
      · have HN := Lib.hid (all_stop (l := prtL nv o) (k := 2) (by rw [HL.out, hq]))
        rw [show (!false) = true from rfl]
        clear hq
        go_wp2
        go_ret
        refine ⟨ret_bool ?_, HB.out.trans (HBR.out.mono HB.out.size)⟩
        rw [HX.out, partsK_split]
        rw [show ([partK nv (kHasD o.kind) o.d, partK nv (kHasE o.kind) o.e, partK nv (kHasA o.kind) o.a, partK nv (kHasB o.kind) o.b, partK nv (kHasC o.kind) o.c] : List Bool) = prtL nv o from rfl, HN.out]
        rfl
      · have HN := Lib.hid (all_next HT.out HL.out hq)
        rw [show (!true) = false from rfl]
        clear hq
        go_wp2
        go_roundw
        case rel => exact ⟨2 + 1, by omega, rfl, HBR.out, HN⟩
        case measure => simp [intOf]
    · clear hk5
      have hl : (prtL nv o)[3]? = some (partK nv (kHasB o.kind) o.b) := rfl
      have HL := Lib.hid hl
      clear hl
      have hi : ∀ w_, (Instr.index 90 (.agg #[.int .i64 o.d, .int .i64 o.e, .int .i64 o.a, .int .i64 o.b, .int .i64 o.c]) (.int .i64 3)).run Tryz.prog w_ = .ok (.int .i64 o.b) w_ := fun w_ => by kernel_rfl
      go_upto_region 9 with fail
      refine wp_code (c := partR Tryz.f63 9) (by kernel_rfl) ?_
      refine one_r9 (s := shapeK o.kind) (i := 3) _ _ HSB.out.1 (by omega) ?_
      intro a38 a39 a40 a41 a42
      rw [HSB.out.2.2.2.2.1]
      go_upto_region 10 with fail
      refine wp_code (c := partR Tryz.f63 10) (by kernel_rfl) ?_
      refine one_r10 (n := nv) (c := cv) (A := Av) (x := o.b) (h := kHasB o.kind) _ _ p0 ?_
      intro b43 b44 b45 b46 b47 b48 b49 b50 b51 b52 b53 b54 b55 b56 b57 b58 b59 b60
      cases hq : partK nv (kHasB o.kind) o.b
      · have HN := Lib.hid (all_stop (l := prtL nv o) (k := 3) (by rw [HL.out, hq]))
        rw [show (!false) = true from rfl]
        clear hq
        go_wp2
        go_ret
        refine ⟨ret_bool ?_, HB.out.trans (HBR.out.mono HB.out.size)⟩
        rw [HX.out, partsK_split]
        rw [show ([partK nv (kHasD o.kind) o.d, partK nv (kHasE o.kind) o.e, partK nv (kHasA o.kind) o.a, partK nv (kHasB o.kind) o.b, partK nv (kHasC o.kind) o.c] : List Bool) = prtL nv o from rfl, HN.out]
        rfl
      · have HN := Lib.hid (all_next HT.out HL.out hq)
        rw [show (!true) = false from rfl]
        clear hq
        go_wp2
        go_roundw
        case rel => exact ⟨3 + 1, by omega, rfl, HBR.out, HN⟩
        case measure => simp [intOf]
    · clear hk5
      have hl : (prtL nv o)[4]? = some (partK nv (kHasC o.kind) o.c) := rfl
      have HL := Lib.hid hl
      clear hl
      have hi : ∀ w_, (Instr.index 90 (.agg #[.int .i64 o.d, .int .i64 o.e, .int .i64 o.a, .int .i64 o.b, .int .i64 o.c]) (.int .i64 4)).run Tryz.prog w_ = .ok (.int .i64 o.c) w_ := fun w_ => by kernel_rfl
      go_upto_region 9 with fail
      refine wp_code (c := partR Tryz.f63 9) (by kernel_rfl) ?_
      refine one_r9 (s := shapeK o.kind) (i := 4) _ _ HSB.out.1 (by omega) ?_
      intro a38 a39 a40 a41 a42
      rw [HSB.out.2.2.2.2.2]
      go_upto_region 10 with fail
      refine wp_code (c := partR Tryz.f63 10) (by kernel_rfl) ?_
      refine one_r10 (n := nv) (c := cv) (A := Av) (x := o.c) (h := kHasC o.kind) _ _ p0 ?_
      intro b43 b44 b45 b46 b47 b48 b49 b50 b51 b52 b53 b54 b55 b56 b57 b58 b59 b60
      cases hq : partK nv (kHasC o.kind) o.c
      · have HN := Lib.hid (all_stop (l := prtL nv o) (k := 4) (by rw [HL.out, hq]))
        rw [show (!false) = true from rfl]
        clear hq
        go_wp2
        go_ret
        refine ⟨ret_bool ?_, HB.out.trans (HBR.out.mono HB.out.size)⟩
        rw [HX.out, partsK_split]
        rw [show ([partK nv (kHasD o.kind) o.d, partK nv (kHasE o.kind) o.e, partK nv (kHasA o.kind) o.a, partK nv (kHasB o.kind) o.b, partK nv (kHasC o.kind) o.c] : List Bool) = prtL nv o from rfl, HN.out]
        rfl
      · have HN := Lib.hid (all_next HT.out HL.out hq)
        rw [show (!true) = false from rfl]
        clear hq
        go_wp2
        go_roundw
        case rel => exact ⟨4 + 1, by omega, rfl, HBR.out, HN⟩
        case measure => simp [intOf]
    · clear hk5
      have hpt : partsK nv o = true := by rw [partsK_split]; exact HT.out
      have hx := HX.out
      rw [hpt, Bool.true_and] at hx
      have HPS := Lib.hid hpt
      have HX := Lib.hid hx
      have hti := takes_in hpt
      have hai := alike_in hpt
      have hdx : o.d < (nv : Int) ∧ o.e < (nv : Int) := by
        unfold partsK at hpt
        simp only [Bool.and_eq_true] at hpt
        have h1 := part_in hpt.1
        have h2 := part_in hpt.2.1
        omega
      have HDX := Lib.hid hdx
      have c0 := HVR.out.op.kind
      have c1 := HVR.out.op.d
      have c2 := HVR.out.op.e
      have c3 := HVR.out.op.a
      have c4 := HVR.out.op.b
      have c5 := HVR.out.op.c
      have c6 := HVR.out.op.imm
      have HCF := Lib.hid (fun (w3 : World) (A : Option Addr) (n c : Nat) (h3 : Below wr.heap.size wr w3) (h4 : NumsAt w3 (fun k => k < w3.heap.size) (.slice A n c) (takesK o)) => ContainsFunc_Int (.slice A n c) 89 #[.pointer (some ⟨w.heap.size, 0, none⟩)] w3 (fun k => k < w3.heap.size) (takesK o) (fun v => (varK vs v).secret) (by unfold takesK; rw [List.length_append]; have := List.length_filter_le (fun v : Int => decide (0 ≤ v)) [o.a, o.b, o.c]; split <;> simp at * <;> omega) (enters_of Tryz.func89 (by kernel_rfl) rfl) h4 (fun k hk => hk)
        (fun x hx w4 h5 => one1_any x vs Av nv cv w.heap.size w4 _ ((HVR.out.next h3).next h5).hcv ((HVR.out.next h3).next h5).vars (by have := hti x hx; have := HNV.out; omega)))
      have HAG := Lib.hid (fun (w3 : World) (h3 : Below W.heap.size W w3) => agree_any Av nv cv vs o w3 _ (HV.out.next h3).vars (fun k hk => hk) HOK.out.kind hn (fun v hv => by have := hai v hv; have := HNV.out; omega))
      clear hpt hx hti hai hdx
      go_upto_region 14 with (first
        | ((with_reducible refine (HTK.out _).mono ?_); rintro e w3 ⟨A3, n3, e3, rfl, hn3, hb3⟩; have HN3 := Lib.hid hn3; have HB3 := Lib.hid hb3; clear hn3 hb3)
        | ((with_reducible refine (HCF.out w3 A3 n3 e3 HB3.out HN3.out).mono ?_); rintro e w4 ⟨rfl, hb4⟩; have HB4 := Lib.hid (HB3.out.trans (hb4.mono HB3.out.size)); clear hb4)
        | go_in)
      have HB5 := Lib.hid (HBR.out.trans (HB4.out.mono HBR.out.size))
      have HV5 := Lib.hid (HV.out.next HB5.out)
      rw [show ((takesK o).any fun v => (varK vs v).secret) = secretK vs o from rfl]
      generalize hsec : secretK vs o = sec
      rw [hsec] at HX
      clear c0 c1 c2 c3 c4 c5 c6 p0 hsec
      have c1 := HV5.out.op.d
      have c2 := HV5.out.op.e
      have hw6 : Below w4.heap.size w4 (w4.alloc (.cells #[.int .i64 o.d, .int .i64 o.e] 3)) := (Below.refl _ _).alloc (Nat.le_refl _) _
      have HB6 := Lib.hid (HB5.out.trans (hw6.mono HB5.out.size))
      have HC6 := Lib.hid (And.intro (cell_new w4 #[Value.int .i64 o.d, .int .i64 o.e] 3 (k := 0) rfl) (cell_new w4 #[Value.int .i64 o.d, .int .i64 o.e] 3 (k := 1) rfl))
      have HS6 := Lib.hid (show (w4.alloc (.cells #[.int .i64 o.d, .int .i64 o.e] 3)).heap.size = w4.heap.size + 1 by simp)
      clear hw6
      go_wp2
      generalize (w4.alloc (.cells #[.int .i64 o.d, .int .i64 o.e] 3)) = W6 at HB6 HC6 HS6 ⊢
      go_loopw [73] (fun i wt => ∃ k : Nat, k ≤ 2 ∧ i = .int .i64 k ∧ Below W6.heap.size W6 wt ∧ Hid (([intoK vs sec o.d, intoK vs sec o.e].take k).all id = true)) (fun i _ => 2 - (intOf i).toNat)
      case atStart => exact ⟨0, by omega, rfl, Below.refl _ _, Lib.hid rfl⟩
      case round =>
        obtain ⟨k, hk2, rfl, hbt, HT2⟩ := hrel
        have HBT := Lib.hid hbt
        have HBT2 := Lib.hid (HB6.out.trans (hbt.mono HB6.out.size))
        have HVT := Lib.hid (HV.out.next HBT2.out)
        have g0 := (hbt.cell (p := ⟨w4.heap.size, 0, none⟩) (show w4.heap.size < W6.heap.size by have := HS6.out; omega)).trans HC6.out.1
        have g1 := (hbt.cell (p := ⟨w4.heap.size, 1, none⟩) (show w4.heap.size < W6.heap.size by have := HS6.out; omega)).trans HC6.out.2
        clear hbt c1 c2
        obtain rfl | rfl | rfl : k = 0 ∨ k = 1 ∨ k = 2 := by omega
        · clear hk2
          go_upto_region 17 with fail
          refine wp_code (c := partR Tryz.f63 17) (by kernel_rfl) ?_
          refine one_r17 (n := nv) (c := cv) (A := Av) (x := o.d) (sec := sec) (vs := vs) _ _ HVT.out.hcv HVT.out.lv HVT.out.vars (by have := HDX.out.1; have := HNV.out; omega) ?_
          intro c77 c78 c79 c80 c81 c82 c83 c84 c85 c86 c87 c88 c89 c90 c91 c92 c93 c94 c95 w8 hb8
          have HB8 := Lib.hid hb8
          clear hb8
          cases hq : intoK vs sec o.d
          · have HN := Lib.hid (all_stop (l := [intoK vs sec o.d, intoK vs sec o.e]) (k := 0) (by rw [← hq]; rfl))
            rw [show (!false) = true from rfl]
            clear hq
            go_wp2
            go_ret
            refine ⟨ret_bool ?_, HB.out.trans ((HBT2.out.trans (HB8.out.mono HBT2.out.size)).mono HB.out.size)⟩
            rw [HX.out]
            have h1 := HN.out
            simp only [List.all_cons, List.all_nil, Bool.and_true, id] at h1
            rw [← Bool.and_assoc, h1]
            rfl
          · have HN := Lib.hid (all_next (x := intoK vs sec o.d) HT2.out rfl hq)
            rw [show (!true) = false from rfl]
            clear hq
            go_wp2
            go_roundw
            case rel => exact ⟨0 + 1, by omega, rfl, HBT.out.trans (HB8.out.mono HBT.out.size), HN⟩
            case measure => simp [intOf]
        · clear hk2
          go_upto_region 17 with fail
          refine wp_code (c := partR Tryz.f63 17) (by kernel_rfl) ?_
          refine one_r17 (n := nv) (c := cv) (A := Av) (x := o.e) (sec := sec) (vs := vs) _ _ HVT.out.hcv HVT.out.lv HVT.out.vars (by have := HDX.out.2; have := HNV.out; omega) ?_
          intro c77 c78 c79 c80 c81 c82 c83 c84 c85 c86 c87 c88 c89 c90 c91 c92 c93 c94 c95 w8 hb8
          have HB8 := Lib.hid hb8
          clear hb8
          cases hq : intoK vs sec o.e
          · have HN := Lib.hid (all_stop (l := [intoK vs sec o.d, intoK vs sec o.e]) (k := 1) (by rw [← hq]; rfl))
            rw [show (!false) = true from rfl]
            clear hq
            go_wp2
            go_ret
            refine ⟨ret_bool ?_, HB.out.trans ((HBT2.out.trans (HB8.out.mono HBT2.out.size)).mono HB.out.size)⟩
            rw [HX.out]
            have h1 := HN.out
            simp only [List.all_cons, List.all_nil, Bool.and_true, id] at h1
            rw [← Bool.and_assoc, h1]
            rfl
          · have HN := Lib.hid (all_next (x := intoK vs sec o.e) HT2.out rfl hq)
            rw [show (!true) = false from rfl]
            clear hq
            go_wp2
            go_roundw
            case rel => exact ⟨1 + 1, by omega, rfl, HBT.out.trans (HB8.out.mono HBT.out.size), HN⟩
            case measure => simp [intOf]
        · clear hk2 g0 g1
          have hi2 : intoK vs sec o.d = true ∧ intoK vs sec o.e = true := by
            have := HT2.out
            simpa using this
          have hx := HX.out
          rw [hi2.1, hi2.2, Bool.true_and, Bool.true_and] at hx
          have HX := Lib.hid hx
          have HAG := Lib.hid (HAG.out wr HBT2.out)
          have c0 := HVT.out.op.kind
          have c1 := HVT.out.op.d
          have c2 := HVT.out.op.e
          have c3 := HVT.out.op.a
          have c4 := HVT.out.op.b
          have c5 := HVT.out.op.c
          have c6 := HVT.out.op.imm
          have c7 := HVT.out.hcv
          clear hi2 hx
          cases d0 : decide (o.e < 0)
          · cases d1 : (o.d == o.e)
            · have d2 : (o.d != o.e) = true := by rw [bne, d1]; rfl
              rw [d0, d1] at HX
              go_wp2_with (first | ((with_reducible refine HAG.out.mono ?_); rintro e w9 ⟨rfl, hb9⟩; have HB9 := Lib.hid hb9; clear hb9) | go_in)
              go_ret
              refine ⟨ret_bool (by rw [HX.out]; simp), HB.out.trans ((HBT2.out.trans (HB9.out.mono HBT2.out.size)).mono HB.out.size)⟩
            · have d2 : (o.d != o.e) = false := by rw [bne, d1]; rfl
              rw [d0, d1] at HX
              go_wp2
              go_ret
              exact ⟨ret_bool (by rw [HX.out]; rfl), HB.out.trans (HBT2.out.mono HB.out.size)⟩
          · rw [d0] at HX
            go_wp2_with (first | ((with_reducible refine HAG.out.mono ?_); rintro e w9 ⟨rfl, hb9⟩; have HB9 := Lib.hid hb9; clear hb9) | go_in)
            go_ret
            refine ⟨ret_bool (by rw [HX.out]; simp), HB.out.trans ((HBT2.out.trans (HB9.out.mono HBT2.out.size)).mono HB.out.size)⟩
end Go.Proofs.YtjbabpnepjhllaaGreat
