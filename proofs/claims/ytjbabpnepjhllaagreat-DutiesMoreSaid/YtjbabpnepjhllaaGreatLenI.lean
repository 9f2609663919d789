/- lengths.Check: its closures, its loop over what is required. -/
import Derived.Test.YtjbabpnepjhllaaGreatLenH
import Derived.Test.YtjbabpnepjhllaaGreatPartL
namespace Go.Proofs.YtjbabpnepjhllaaGreat
open Go.RowKit

/-- A kernel in a box. -/
structure KBox (W : World) (b : Nat) (Av : Option Addr) (nv cv : Nat) (Ao : Option Addr) (no co : Nat) (Ar : Option Addr) (nr cr : Nat) (k : Krn) : Prop where
  c0 : W.cell? ⟨b, 0, none⟩ = some (.slice Av nv cv)
  c1 : W.cell? ⟨b, 1, none⟩ = some (.slice Ao no co)
  c2 : W.cell? ⟨b, 2, none⟩ = some (.slice Ar nr cr)
  lt : b < W.heap.size
  vars : KVarsAt W (fun k => k < W.heap.size) (.slice Av nv cv) k.vars
  ops : KOpsAt W (fun k => k < W.heap.size) (.slice Ao no co) k.ops
  reqs : KOpsAt W (fun k => k < W.heap.size) (.slice Ar nr cr) k.reqs
theorem KBox.next {W w' : World} {b : Nat} {Av : Option Addr} {nv cv : Nat} {Ao : Option Addr} {no co : Nat} {Ar : Option Addr} {nr cr : Nat} {k : Krn} (h : KBox W b Av nv cv Ao no co Ar nr cr k) (hb : Below W.heap.size W w') : KBox w' b Av nv cv Ao no co Ar nr cr k :=
  ⟨(hb.cell (p := ⟨b, 0, none⟩) h.lt).trans h.c0, (hb.cell (p := ⟨b, 1, none⟩) h.lt).trans h.c1, (hb.cell (p := ⟨b, 2, none⟩) h.lt).trans h.c2, Nat.lt_of_lt_of_le h.lt hb.size, rows_next h.vars hb, rows_next h.ops hb, rows_next h.reqs hb⟩
theorem KBox.nv {W : World} {b : Nat} {Av : Option Addr} {nv cv : Nat} {Ao : Option Addr} {no co : Nat} {Ar : Option Addr} {nr cr : Nat} {k : Krn} (h : KBox W b Av nv cv Ao no co Ar nr cr k) : nv = k.vars.length ∧ no = k.ops.length ∧ nr = k.reqs.length := ⟨(rows_len h.vars).1, (rows_len h.ops).1, (rows_len h.reqs).1⟩
set_option maxRecDepth 100000 in
set_option maxHeartbeats 4000000 in
/-- out: is a variable an out? -/
theorem chk1_any (x : Int) (vs : List KVar) (A : Option Addr) (n c B : Nat) (w : World) (F : Nat → Prop) (hc : w.cell? ⟨B, 0, none⟩ = some (.slice A n c)) (hv : KVarsAt w F (.slice A n c) vs) (hx : x < (vs.length : Int)) :
    Calls Tryz.prog 60 #[.int .i64 x, .pointer (some ⟨B, 0, none⟩)] w fun e w' => e = .returned (.bool (outK vs x)) ∧ Below w.heap.size w w' := by
  by_cases h0 : 0 ≤ x
  rotate_left
  · have d0 : decide (0 ≤ x) = false := decide_eq_false h0
    have HX := Lib.hid (show outK vs x = false by unfold outK; rw [d0]; rfl)
    go_enter Tryz.func60, Tryz.ntmps60
    go_wp2
    go_ret
    exact ⟨ret_bool HX.out.symm, Below.refl _ _⟩
  have d0 : decide (0 ≤ x) = true := decide_eq_true h0
  obtain ⟨m, hm⟩ : ∃ m : Nat, x = m := ⟨x.toNat, by omega⟩
  obtain ⟨v, hvv⟩ : ∃ v, vs[m]? = some v := ⟨_, List.getElem?_eq_getElem (by omega)⟩
  have hvk : varK vs x = v := by rw [hm]; exact varK_at hvv
  have HX := Lib.hid (show outK vs x = (v.mode == 3) by unfold outK; rw [d0, hvk]; rfl)
  obtain ⟨g, off, rfl, hg, f0, f1, f2⟩ := hv.at_ hvv
  have hn := (rows_len hv).1
  rw [HX.out]
  subst hm
  have i1 : (m : Int) < (n : Int) := by omega
  have i0 : (0 : Int) ≤ (m : Int) := by omega
  clear hvv hvk hv hx HX
  go_enter Tryz.func60, Tryz.ntmps60
  go_wp2
  go_ret
  exact ⟨rfl, Below.refl _ _⟩
set_option maxRecDepth 100000 in
set_option maxHeartbeats 4000000 in
/-- Was a variable not made? -/
theorem chk2_any (x : Int) (made : List Bool) (A : Option Addr) (n c B : Nat) (w : World) (F : Nat → Prop) (hc : w.cell? ⟨B, 0, none⟩ = some (.slice A n c)) (hv : BitsAt w F (.slice A n c) made) (hx : 0 ≤ x ∧ x < (made.length : Int)) :
    Calls Tryz.prog 66 #[.int .i64 x, .pointer (some ⟨B, 0, none⟩)] w fun e w' => e = .returned (.bool (!(made.getD x.toNat false))) ∧ Below w.heap.size w w' := by
  obtain ⟨m, hm⟩ : ∃ m : Nat, x = m := ⟨x.toNat, by omega⟩
  obtain ⟨v, hvv⟩ : ∃ v, made[m]? = some v := ⟨_, List.getElem?_eq_getElem (by omega)⟩
  have hvk : made.getD x.toNat false = v := by rw [hm, Int.toNat_natCast, List.getD_eq_getElem?_getD, hvv]; rfl
  rw [hvk]
  obtain ⟨g, off, rfl, hg, f0⟩ := hv.at_ hvv
  have hn := (rows_len hv).1
  subst hm
  have i1 : (m : Int) < (n : Int) := by omega
  have i0 : (0 : Int) ≤ (m : Int) := by omega
  clear hvv hvk hv hx
  go_enter Tryz.func66, Tryz.ntmps66
  go_wp2
  go_ret
  exact ⟨rfl, Below.refl _ _⟩
theorem need_in {n : Nat} {o : KOp} (h : needK n o = true) : (0 ≤ o.a ∧ o.a < (n : Int)) ∧ ((0 ≤ o.b ∧ o.b < (n : Int)) ∨ o.b = -1) := by
  unfold needK thereK at h
  simp only [Bool.and_eq_true, decide_eq_true_eq] at h
  refine ⟨h.2.2.2.1, ?_⟩
  have h1 := h.2.2.2.2
  split at h1
  · exact .inl (by simpa using h1)
  · split at h1
    · exact .inr (by simpa using h1)
    · cases h1

set_option maxRecDepth 100000 in
set_option maxHeartbeats 8000000 in
theorem chk_l0 {Av Ao Ar : Option Addr} {nv cv no co nr cr b0 : Nat} {k : Krn} (w : World) (Q : Exit → Act → World → Prop) {u0 u4 u5 u6 u7 u8 u9 u10 u11 u12 u13 u14 u15 u16 u17 u18 u19 u20 u21 u22 u23 u24 u25 u26 u27 u28 u29 u30 u34 u35 u36 u37 u38 u39 u40 u41 u42 u43 u44 u45 u46 u47 u48 u49 u50 u51 u52 u53 u54 u55 u56 u57 u58 u59 u60 u61 u62 u63 u64 u65 u66 u67 u68 u69 u70 u71 u72 u73 u74 u75 u76 u77 u78 u79 u80 u81 u82 u83 u84 u85 u86 u87 u88 u89 u90 u91 u92 u93 u94 u95 u96 u97 u98 u99 u100 u101 u102 u103 u104 u105 u106 u107 u108 u109 u110 u111 u112 u113 u114 u115 u116 u117 u118 u119 u120 u121 u122 u123 u124 u125 u126 u127 u128 u129 u130 u131 u132 u133 u134 u135 u136 u137 : Value} (hk : KBox w b0 Av nv cv Ao no co Ar nr cr k) (hok : k.reqs.length ≤ 4096 ∧ k.vars.length ≤ 100000)
    (k1 : k.reqs.all (reqK k.vars) = true → ∀ (v5 v33 v34 v35 v36 v37 v38 v39 v40 v41 v42 v43 v44 v45 v46 v47 v48 v49 v50 v51 v52 v53 v54 v55 v56 v57 v58 v59 : Value) (w' : World), Below w.heap.size w w' → Q ((.exit 0)) ⟨#[u0, .pointer (some ⟨b0, 0, none⟩), .int .i64 0, .func (.func 60) #[] #[.pointer (some ⟨b0, 0, none⟩)], u4, v5, u6, u7, u8, u9, u10, u11, u12, u13, u14, u15, u16, u17, u18, u19, u20, u21, u22, u23, u24, u25, u26, u27, u28, u29, u30, .slice Ar nr cr, .int .i64 (nr : Nat), v33, v34, v35, v36, v37, v38, v39, v40, v41, v42, v43, v44, v45, v46, v47, v48, v49, v50, v51, v52, v53, v54, v55, v56, v57, v58, v59, u60, u61, u62, u63, u64, u65, u66, u67, u68, u69, u70, u71, u72, u73, u74, u75, u76, u77, u78, u79, u80, u81, u82, u83, u84, u85, u86, u87, u88, u89, u90, u91, u92, u93, u94, u95, u96, u97, u98, u99, u100, u101, u102, u103, u104, u105, u106, u107, u108, u109, u110, u111, u112, u113, u114, u115, u116, u117, u118, u119, u120, u121, u122, u123, u124, u125, u126, u127, u128, u129, u130, u131, u132, u133, u134, u135, u136, u137], []⟩ w') (k2 : k.reqs.all (reqK k.vars) = false → ∀ (v5 v33 v34 v35 v36 v37 v38 v39 v40 v41 v42 v43 v44 v45 v46 v47 v48 v49 v50 v51 v52 v53 v54 v55 v56 v57 v58 v59 : Value) (w' : World), Below w.heap.size w w' → Q (.ret) ⟨#[u0, .pointer (some ⟨b0, 0, none⟩), .int .i64 2, .func (.func 60) #[] #[.pointer (some ⟨b0, 0, none⟩)], u4, v5, u6, u7, u8, u9, u10, u11, u12, u13, u14, u15, u16, u17, u18, u19, u20, u21, u22, u23, u24, u25, u26, u27, u28, u29, u30, .slice Ar nr cr, .int .i64 (nr : Nat), v33, v34, v35, v36, v37, v38, v39, v40, v41, v42, v43, v44, v45, v46, v47, v48, v49, v50, v51, v52, v53, v54, v55, v56, v57, v58, v59, u60, u61, u62, u63, u64, u65, u66, u67, u68, u69, u70, u71, u72, u73, u74, u75, u76, u77, u78, u79, u80, u81, u82, u83, u84, u85, u86, u87, u88, u89, u90, u91, u92, u93, u94, u95, u96, u97, u98, u99, u100, u101, u102, u103, u104, u105, u106, u107, u108, u109, u110, u111, u112, u113, u114, u115, u116, u117, u118, u119, u120, u121, u122, u123, u124, u125, u126, u127, u128, u129, u130, u131, u132, u133, u134, u135, u136, u137], []⟩ w') : (partL Tryz.f37 0).wp Tryz.prog Q ⟨#[u0, .pointer (some ⟨b0, 0, none⟩), .int .i64 0, .func (.func 60) #[] #[.pointer (some ⟨b0, 0, none⟩)], u4, u5, u6, u7, u8, u9, u10, u11, u12, u13, u14, u15, u16, u17, u18, u19, u20, u21, u22, u23, u24, u25, u26, u27, u28, u29, u30, .slice Ar nr cr, .int .i64 (nr : Nat), .int .i64 0, u34, u35, u36, u37, u38, u39, u40, u41, u42, u43, u44, u45, u46, u47, u48, u49, u50, u51, u52, u53, u54, u55, u56, u57, u58, u59, u60, u61, u62, u63, u64, u65, u66, u67, u68, u69, u70, u71, u72, u73, u74, u75, u76, u77, u78, u79, u80, u81, u82, u83, u84, u85, u86, u87, u88, u89, u90, u91, u92, u93, u94, u95, u96, u97, u98, u99, u100, u101, u102, u103, u104, u105, u106, u107, u108, u109, u110, u111, u112, u113, u114, u115, u116, u117, u118, u119, u120, u121, u122, u123, u124, u125, u126, u127, u128, u129, u130, u131, u132, u133, u134, u135, u136, u137], []⟩ w := by
  have HK := Lib.hid hk
  have HOK := Lib.hid hok
  have K1 := Lib.hid k1
  have K2 := Lib.hid k2
  have HNR := Lib.hid hk.nv.2.2
  have HNV := Lib.hid hk.nv.1
  have hnr : nr ≤ 100000 := by have := hk.nv.2.2; omega
  clear hk hok k1 k2
  conv => arg 2; whnf
  go_wp2
  go_loopw [2, 5, 33] (fun s2 _ i wr => ∃ j : Nat, j ≤ nr ∧ i = .int .i64 j ∧ s2 = .int .i64 0 ∧ Below w.heap.size w wr ∧ Hid ((k.reqs.take j).all (reqK k.vars) = true)) (fun _ _ i _ => nr - (intOf i).toNat)
  case atStart => exact ⟨0, by omega, rfl, rfl, Below.refl _ _, Lib.hid rfl⟩
  case round =>
    obtain ⟨j, hj, rfl, rfl, hb, HT⟩ := hrel
    have HB := Lib.hid hb
    have HKR := Lib.hid (HK.out.next hb)
    by_cases hlt : j < nr
    · have d1 : decide (j < nr) = true := decide_eq_true hlt
      obtain ⟨o, hx⟩ : ∃ o, k.reqs[j]? = some o := ⟨_, List.getElem?_eq_getElem (by have := HNR.out; omega)⟩
      obtain ⟨g, off, hA, hg, x0, x1, x2, x3, x4, x5, x6⟩ := HKR.out.reqs.at_ hx
      subst hA
      have i0 : (0 : Int) ≤ (j : Int) := by omega
      have i1 : (j : Int) < (nr : Int) := by omega
      have HX := Lib.hid hx
      clear hb hg hx
      go_upto_region 7 with (first | go_in)
      obtain ⟨WO, hWO⟩ : ∃ W, W = wr.alloc (.cells #[.int .i64 o.kind, .int .i64 o.d, .int .i64 o.e, .int .i64 o.a, .int .i64 o.b, .int .i64 o.c, .int .u64 o.imm] 43) := ⟨_, rfl⟩
      rw [← hWO]
      have hbo : Below wr.heap.size wr WO := by rw [hWO]; exact (Below.refl _ _).alloc (Nat.le_refl _) _
      have hob : OpBox WO wr.heap.size o := OpBox.of (t := 43) (fr := (0, 0)) (by rw [hWO]; exact heap_alloc_new wr _)
      have hz : WO.heap.size = wr.heap.size + 1 := by rw [hWO]; simp
      have HO := Lib.hid hob
      have HBO := Lib.hid (HB.out.trans (hbo.mono HB.out.size))
      have HKO := Lib.hid (HKR.out.next hbo)
      have HND := Lib.hid (fun w1 => need_any Av nv cv o w1)
      have HZ := Lib.hid hz
      obtain ⟨bo, hbo2⟩ : ∃ b, b = wr.heap.size := ⟨_, rfl⟩
      rw [← hbo2] at HO HZ ⊢
      have y0 := HO.out.kind
      have y1 := HO.out.d
      have y2 := HO.out.e
      have y3 := HO.out.a
      have y4 := HO.out.b
      have y5 := HO.out.c
      have y6 := HO.out.imm
      have p0 := HKO.out.c0
      clear hWO hbo hob hz x0 x1 x2 x3 x4 x5 x6 hbo2
      cases d2 : (o.kind == 17)
      · have d3 : (o.kind != 17) = true := by rw [bne, d2]; rfl
        have HN := Lib.hid (alls_here (p := reqK k.vars) HX.out (by unfold reqK; rw [d2]; rfl))
        go_wp2
        exact K2.out HN.out _ _ _ _ _ _ _ _ _ _ _ _ _ _ _ _ _ _ _ _ _ _ _ _ _ _ _ _ _ HBO.out
      have d3 : (o.kind != 17) = false := by rw [bne, d2]; rfl
      cases d4 : needK nv o
      · have HN := Lib.hid (alls_here (p := reqK k.vars) HX.out (by unfold reqK; rw [d2, ← HNV.out, d4]; rfl))
        rw [d4] at HND
        clear d2 d4
        go_wp2_with (first | ((with_reducible refine (HND.out _).mono ?_); rintro e w1 ⟨rfl, hb1⟩; have HB1 := Lib.hid (HBO.out.trans (hb1.mono HBO.out.size)); clear hb1) | go_in)
        exact K2.out HN.out _ _ _ _ _ _ _ _ _ _ _ _ _ _ _ _ _ _ _ _ _ _ _ _ _ _ _ _ _ HB1.out
      have hin := need_in d4
      have HIN := Lib.hid hin
      rw [d4] at HND
      have HQ := Lib.hid (show reqK k.vars o = (!outK k.vars o.a && !outK k.vars o.b) by unfold reqK; rw [d2, ← HNV.out, d4]; rfl)
      have HC1 := Lib.hid (fun (w1 : World) (h1 : Below WO.heap.size WO w1) => chk1_any o.a k.vars Av nv cv b0 w1 _ (HKO.out.next h1).c0 (HKO.out.next h1).vars (by have := HIN.out.1; have := HNV.out; omega))
      have HC2 := Lib.hid (fun (w1 : World) (h1 : Below WO.heap.size WO w1) => chk1_any o.b k.vars Av nv cv b0 w1 _ (HKO.out.next h1).c0 (HKO.out.next h1).vars (by have := HIN.out.2; have := HIN.out.1; have := HNV.out; omega))
      clear d2 d4 hin
      generalize hqa : outK k.vars o.a = qa at HC1 HQ
      generalize hqb : outK k.vars o.b = qb at HC2 HQ
      clear hqa hqb
      cases qa
      · cases qb
        · have HN := Lib.hid (alls_next HT.out HX.out HQ.out)
          go_wp2_with (first
            | ((with_reducible refine (HND.out _).mono ?_); rintro e w1 ⟨rfl, hb1⟩; have HB1 := Lib.hid hb1; have y3 := (hb1.cell (p := ⟨bo, 3, none⟩) (by have := HZ.out; simp only; omega)).trans HO.out.a; clear hb1)
            | ((with_reducible refine (HC1.out w1 HB1.out).mono ?_); rintro e w2 ⟨rfl, hb2⟩; have HB2 := Lib.hid (HB1.out.trans (hb2.mono HB1.out.size)); have y4 := (HB2.out.cell (p := ⟨bo, 4, none⟩) (by have := HZ.out; simp only; omega)).trans HO.out.b; clear hb2)
            | ((with_reducible refine (HC2.out w2 HB2.out).mono ?_); rintro e w3 ⟨rfl, hb3⟩)
            | go_in)
          go_roundw
          case rel => exact ⟨j + 1, hlt, by go_num, rfl, HBO.out.trans ((HB2.out.trans (hb3.mono HB2.out.size)).mono HBO.out.size), HN⟩
          case measure => simp [intOf]; omega
        · have HN := Lib.hid (alls_here (p := reqK k.vars) HX.out HQ.out)
          go_wp2_with (first
            | ((with_reducible refine (HND.out _).mono ?_); rintro e w1 ⟨rfl, hb1⟩; have HB1 := Lib.hid hb1; have y3 := (hb1.cell (p := ⟨bo, 3, none⟩) (by have := HZ.out; simp only; omega)).trans HO.out.a; clear hb1)
            | ((with_reducible refine (HC1.out w1 HB1.out).mono ?_); rintro e w2 ⟨rfl, hb2⟩; have HB2 := Lib.hid (HB1.out.trans (hb2.mono HB1.out.size)); have y4 := (HB2.out.cell (p := ⟨bo, 4, none⟩) (by have := HZ.out; simp only; omega)).trans HO.out.b; clear hb2)
            | ((with_reducible refine (HC2.out w2 HB2.out).mono ?_); rintro e w3 ⟨rfl, hb3⟩)
            | go_in)
          exact K2.out HN.out _ _ _ _ _ _ _ _ _ _ _ _ _ _ _ _ _ _ _ _ _ _ _ _ _ _ _ _ _ (HBO.out.trans ((HB2.out.trans (hb3.mono HB2.out.size)).mono HBO.out.size))
      · have HN := Lib.hid (alls_here (p := reqK k.vars) HX.out HQ.out)
        go_wp2_with (first
          | ((with_reducible refine (HND.out _).mono ?_); rintro e w1 ⟨rfl, hb1⟩; have HB1 := Lib.hid hb1; have y3 := (hb1.cell (p := ⟨bo, 3, none⟩) (by have := HZ.out; simp only; omega)).trans HO.out.a; clear hb1)
          | ((with_reducible refine (HC1.out w1 HB1.out).mono ?_); rintro e w2 ⟨rfl, hb2⟩; have HB2 := Lib.hid (HB1.out.trans (hb2.mono HB1.out.size)); have y4 := (HB2.out.cell (p := ⟨bo, 4, none⟩) (by have := HZ.out; simp only; omega)).trans HO.out.b; clear hb2)
          | ((with_reducible refine (HC2.out w2 HB2.out).mono ?_); rintro e w3 ⟨rfl, hb3⟩)
          | go_in)
        exact K2.out HN.out _ _ _ _ _ _ _ _ _ _ _ _ _ _ _ _ _ _ _ _ _ _ _ _ _ _ _ _ _ (HBO.out.trans (HB2.out.mono HBO.out.size))
    · have d1 : decide (j < nr) = false := decide_eq_false hlt
      have HN := Lib.hid (alls_whole HT.out (by have := HNR.out; omega))
      clear hb
      go_wp2
      exact K1.out HN.out _ _ _ _ _ _ _ _ _ _ _ _ _ _ _ _ _ _ _ _ _ _ _ _ _ _ _ _ _ HB.out
end Go.Proofs.YtjbabpnepjhllaaGreat
