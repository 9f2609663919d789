/- lengths.number; the regions of one. -/
import Derived.Test.YtjbabpnepjhllaaGreatLenE
import Derived.Test.YtjbabpnepjhllaaGreatPart
namespace Go.Proofs.YtjbabpnepjhllaaGreat
open Go.RowKit

set_option maxRecDepth 100000 in
set_option maxHeartbeats 4000000 in
theorem number_any (o : KOp) (w : World) : Calls Tryz.prog 87 #[.agg #[.int .i64 o.kind, .int .i64 o.d, .int .i64 o.e, .int .i64 o.a, .int .i64 o.b, .int .i64 o.c, .int .u64 o.imm]] w fun e w' => e = .returned (.bool (numK o)) ∧ Below w.heap.size w w' := by
  by_cases h1 : o.kind = 1
  · have HV := Lib.hid (show numK o = true by unfold numK; rw [if_pos h1])
    have HK := Lib.hid h1
    clear h1
    go_enter Tryz.func87, Tryz.ntmps87
    go_upto_region 1 with (first | go_in)
    obtain ⟨W, hW⟩ : ∃ W, W = w.alloc (.cells #[.int .i64 o.kind, .int .i64 o.d, .int .i64 o.e, .int .i64 o.a, .int .i64 o.b, .int .i64 o.c, .int .u64 o.imm] 43) := ⟨_, rfl⟩
    rw [← hW]
    have hb : Below w.heap.size w W := by rw [hW]; exact (Below.refl _ _).alloc (Nat.le_refl _) _
    have hk : OpBox W w.heap.size o := OpBox.of (t := 43) (fr := (0, 0)) (by rw [hW]; exact heap_alloc_new w _)
    have HB := Lib.hid hb
    have c0 := hk.kind
    have c6 := hk.imm
    clear hW hb hk
    rw [HK.out] at c0
    go_wp2
    go_ret
    exact ⟨ret_bool HV.out.symm, HB.out⟩
  by_cases h13 : o.kind = 13
  · have hv : numK o = (decide (1 ≤ o.imm) && decide (o.imm ≤ 6)) := by unfold numK; rw [if_neg h1, if_pos h13]
    have HK := Lib.hid h13
    clear h1 h13
    have HV := Lib.hid hv
    clear hv
    go_enter Tryz.func87, Tryz.ntmps87
    go_upto_region 1 with (first | go_in)
    obtain ⟨W, hW⟩ : ∃ W, W = w.alloc (.cells #[.int .i64 o.kind, .int .i64 o.d, .int .i64 o.e, .int .i64 o.a, .int .i64 o.b, .int .i64 o.c, .int .u64 o.imm] 43) := ⟨_, rfl⟩
    rw [← hW]
    have hb : Below w.heap.size w W := by rw [hW]; exact (Below.refl _ _).alloc (Nat.le_refl _) _
    have hk : OpBox W w.heap.size o := OpBox.of (t := 43) (fr := (0, 0)) (by rw [hW]; exact heap_alloc_new w _)
    have HB := Lib.hid hb
    have c0 := hk.kind
    have c6 := hk.imm
    clear hW hb hk
    rw [HK.out] at c0
    go_wp2
    all_goals
      go_ret
      refine ⟨ret_bool ?_, HB.out⟩
      rw [HV.out, Bool.eq_iff_iff]
      simp
      omega
  by_cases h15 : o.kind = 15
  · have hv : numK o = (decide (1 ≤ o.imm) && decide (o.imm ≤ 4096)) := by unfold numK; rw [if_neg h1, if_neg h13, if_pos h15]
    have HK := Lib.hid h15
    clear h1 h13 h15
    have HV := Lib.hid hv
    clear hv
    go_enter Tryz.func87, Tryz.ntmps87
    go_upto_region 1 with (first | go_in)
    obtain ⟨W, hW⟩ : ∃ W, W = w.alloc (.cells #[.int .i64 o.kind, .int .i64 o.d, .int .i64 o.e, .int .i64 o.a, .int .i64 o.b, .int .i64 o.c, .int .u64 o.imm] 43) := ⟨_, rfl⟩
    rw [← hW]
    have hb : Below w.heap.size w W := by rw [hW]; exact (Below.refl _ _).alloc (Nat.le_refl _) _
    have hk : OpBox W w.heap.size o := OpBox.of (t := 43) (fr := (0, 0)) (by rw [hW]; exact heap_alloc_new w _)
    have HB := Lib.hid hb
    have c0 := hk.kind
    have c6 := hk.imm
    clear hW hb hk
    rw [HK.out] at c0
    go_wp2
    all_goals
      go_ret
      refine ⟨ret_bool ?_, HB.out⟩
      rw [HV.out, Bool.eq_iff_iff]
      simp
      omega
  have hv : numK o = decide (o.imm = 0) := by unfold numK; rw [if_neg h1, if_neg h13, if_neg h15]
  have e1 : (o.kind == 1) = false := beq_eq_false_iff_ne.2 h1
  have e13 : (o.kind == 13) = false := beq_eq_false_iff_ne.2 h13
  have e15 : (o.kind == 15) = false := beq_eq_false_iff_ne.2 h15
  clear h1 h13 h15
  by_cases h0 : o.imm = 0
  · have x0 : ((o.imm : Int) == 0) = true := by rw [beq_iff_eq]; omega
    rw [decide_eq_true h0] at hv
    have HV := Lib.hid hv
    clear hv h0
    go_enter Tryz.func87, Tryz.ntmps87
    go_upto_region 1 with (first | go_in)
    obtain ⟨W, hW⟩ : ∃ W, W = w.alloc (.cells #[.int .i64 o.kind, .int .i64 o.d, .int .i64 o.e, .int .i64 o.a, .int .i64 o.b, .int .i64 o.c, .int .u64 o.imm] 43) := ⟨_, rfl⟩
    rw [← hW]
    have hb : Below w.heap.size w W := by rw [hW]; exact (Below.refl _ _).alloc (Nat.le_refl _) _
    have hk : OpBox W w.heap.size o := OpBox.of (t := 43) (fr := (0, 0)) (by rw [hW]; exact heap_alloc_new w _)
    have HB := Lib.hid hb
    have c0 := hk.kind
    have c6 := hk.imm
    clear hW hb hk
    go_wp2
    go_ret
    exact ⟨ret_bool HV.out.symm, HB.out⟩
  · have x0 : ((o.imm : Int) == 0) = false := beq_eq_false_iff_ne.2 (by omega)
    rw [decide_eq_false h0] at hv
    have HV := Lib.hid hv
    clear hv h0
    go_enter Tryz.func87, Tryz.ntmps87
    go_upto_region 1 with (first | go_in)
    obtain ⟨W, hW⟩ : ∃ W, W = w.alloc (.cells #[.int .i64 o.kind, .int .i64 o.d, .int .i64 o.e, .int .i64 o.a, .int .i64 o.b, .int .i64 o.c, .int .u64 o.imm] 43) := ⟨_, rfl⟩
    rw [← hW]
    have hb : Below w.heap.size w W := by rw [hW]; exact (Below.refl _ _).alloc (Nat.le_refl _) _
    have hk : OpBox W w.heap.size o := OpBox.of (t := 43) (fr := (0, 0)) (by rw [hW]; exact heap_alloc_new w _)
    have HB := Lib.hid hb
    have c0 := hk.kind
    have c6 := hk.imm
    clear hW hb hk
    go_wp2
    go_ret
    exact ⟨ret_bool HV.out.symm, HB.out⟩
def bitK (s i : Int) : Bool := decide (s / 2 ^ i.toNat % 2 = 1)

set_option maxRecDepth 100000 in
set_option maxHeartbeats 4000000 in
theorem one_r9 {s i : Int} (w : World) (Q : Exit → Act → World → Prop) {u0 u1 u2 u3 u4 u6 u8 u9 u10 u11 u12 u13 u14 u15 u16 u17 u18 u19 u20 u21 u22 u23 u24 u25 u26 u27 u28 u29 u30 u31 u32 u33 u34 u35 u36 u37 u38 u39 u40 u41 u42 u43 u44 u45 u46 u47 u48 u49 u50 u51 u52 u53 u54 u55 u56 u57 u58 u59 u60 u61 u62 u63 u64 u65 u66 u67 u68 u69 u70 u71 u72 u73 u74 u75 u76 u77 u78 u79 u80 u81 u82 u83 u84 u85 u86 u87 u88 u89 u90 u91 u92 u93 u94 u95 u96 u97 u98 u99 u100 u101 u102 u103 u104 u105 u106 u107 u108 u109 u110 u111 u112 : Value} (hs : s = 0 ∨ s = 1 ∨ s = 5 ∨ s = 13 ∨ s = 19 ∨ s = 21 ∨ s = 29) (hi : i = 0 ∨ i = 1 ∨ i = 2 ∨ i = 3 ∨ i = 4)
    (k : ∀ (v38 v39 v40 v41 v42 : Value), Q .normal ⟨#[u0, u1, u2, u3, u4, .int .i64 s, u6, .int .i64 i, u8, .bool (bitK s i), u10, u11, u12, u13, u14, u15, u16, u17, u18, u19, u20, u21, u22, u23, u24, u25, u26, u27, u28, u29, u30, u31, u32, u33, u34, u35, u36, u37, v38, v39, v40, v41, v42, u43, u44, u45, u46, u47, u48, u49, u50, u51, u52, u53, u54, u55, u56, u57, u58, u59, u60, u61, u62, u63, u64, u65, u66, u67, u68, u69, u70, u71, u72, u73, u74, u75, u76, u77, u78, u79, u80, u81, u82, u83, u84, u85, u86, u87, u88, u89, u90, u91, u92, u93, u94, u95, u96, u97, u98, u99, u100, u101, u102, u103, u104, u105, u106, u107, u108, u109, u110, u111, u112], []⟩ w) : (partR Tryz.f63 9).wp Tryz.prog Q ⟨#[u0, u1, u2, u3, u4, .int .i64 s, u6, .int .i64 i, u8, u9, u10, u11, u12, u13, u14, u15, u16, u17, u18, u19, u20, u21, u22, u23, u24, u25, u26, u27, u28, u29, u30, u31, u32, u33, u34, u35, u36, u37, u38, u39, u40, u41, u42, u43, u44, u45, u46, u47, u48, u49, u50, u51, u52, u53, u54, u55, u56, u57, u58, u59, u60, u61, u62, u63, u64, u65, u66, u67, u68, u69, u70, u71, u72, u73, u74, u75, u76, u77, u78, u79, u80, u81, u82, u83, u84, u85, u86, u87, u88, u89, u90, u91, u92, u93, u94, u95, u96, u97, u98, u99, u100, u101, u102, u103, u104, u105, u106, u107, u108, u109, u110, u111, u112], []⟩ w := by
  
  have HK := Lib.hid k
  clear k
  conv => arg 2; whnf
  rcases hs with rfl | rfl | rfl | rfl | rfl | rfl | rfl <;> rcases hi with rfl | rfl | rfl | rfl | rfl
  all_goals
    go_wp2_with fail
    exact HK.out _ _ _ _ _

set_option maxRecDepth 100000 in
set_option maxHeartbeats 4000000 in
theorem one_r10 {bv n c : Nat} {A : Option Addr} {x : Int} {h : Bool} (w : World) (Q : Exit → Act → World → Prop) {u0 u1 u3 u4 u5 u6 u7 u10 u11 u12 u13 u14 u15 u16 u17 u18 u19 u20 u21 u22 u23 u24 u25 u26 u27 u28 u29 u30 u31 u32 u33 u34 u35 u36 u37 u38 u39 u40 u41 u42 u43 u44 u45 u46 u47 u48 u49 u50 u51 u52 u53 u54 u55 u56 u57 u58 u59 u60 u61 u62 u63 u64 u65 u66 u67 u68 u69 u70 u71 u72 u73 u74 u75 u76 u77 u78 u79 u80 u81 u82 u83 u84 u85 u86 u87 u88 u89 u90 u91 u92 u93 u94 u95 u96 u97 u98 u99 u100 u101 u102 u103 u104 u105 u106 u107 u108 u109 u110 u111 u112 : Value} (hc : w.cell? ⟨bv, 0, none⟩ = some (.slice A n c))
    (k : ∀ (v43 v44 v45 v46 v47 v48 v49 v50 v51 v52 v53 v54 v55 v56 v57 v58 v59 v60 : Value), Q .normal ⟨#[u0, u1, .pointer (some ⟨bv, 0, none⟩), u3, u4, u5, u6, u7, .int .i64 x, .bool h, u10, u11, u12, u13, u14, u15, u16, u17, u18, u19, u20, u21, u22, u23, u24, u25, u26, u27, u28, u29, u30, u31, u32, u33, u34, u35, u36, u37, u38, u39, u40, u41, u42, v43, v44, v45, v46, v47, v48, v49, v50, v51, v52, v53, v54, v55, v56, v57, v58, v59, v60, .bool (!partK n h x), u62, u63, u64, u65, u66, u67, u68, u69, u70, u71, u72, u73, u74, u75, u76, u77, u78, u79, u80, u81, u82, u83, u84, u85, u86, u87, u88, u89, u90, u91, u92, u93, u94, u95, u96, u97, u98, u99, u100, u101, u102, u103, u104, u105, u106, u107, u108, u109, u110, u111, u112], []⟩ w) : (partR Tryz.f63 10).wp Tryz.prog Q ⟨#[u0, u1, .pointer (some ⟨bv, 0, none⟩), u3, u4, u5, u6, u7, .int .i64 x, .bool h, u10, u11, u12, u13, u14, u15, u16, u17, u18, u19, u20, u21, u22, u23, u24, u25, u26, u27, u28, u29, u30, u31, u32, u33, u34, u35, u36, u37, u38, u39, u40, u41, u42, u43, u44, u45, u46, u47, u48, u49, u50, u51, u52, u53, u54, u55, u56, u57, u58, u59, u60, u61, u62, u63, u64, u65, u66, u67, u68, u69, u70, u71, u72, u73, u74, u75, u76, u77, u78, u79, u80, u81, u82, u83, u84, u85, u86, u87, u88, u89, u90, u91, u92, u93, u94, u95, u96, u97, u98, u99, u100, u101, u102, u103, u104, u105, u106, u107, u108, u109, u110, u111, u112], []⟩ w := by
  
  have HK := Lib.hid k
  clear k
  conv => arg 2; whnf
  cases h
  · cases d0 : (x == -1)
    · have d1 : (x != -1) = true := by rw [bne, d0]; rfl
      have HV := Lib.hid (show (!partK n false x) = true by unfold partK; simp only [d0]; rfl)
      rw [HV.out] at HK
      go_wp2_with fail
      exact HK.out _ _ _ _ _ _ _ _ _ _ _ _ _ _ _ _ _ _
    · have d1 : (x != -1) = false := by rw [bne, d0]; rfl
      have HV := Lib.hid (show (!partK n false x) = false by unfold partK; simp only [d0]; rfl)
      rw [HV.out] at HK
      go_wp2_with fail
      exact HK.out _ _ _ _ _ _ _ _ _ _ _ _ _ _ _ _ _ _
  · cases d0 : decide (x < 0)
    · cases d1 : decide ((n : Int) ≤ x)
      · have HV := Lib.hid (show (!partK n true x) = false by
          unfold partK thereK
          rw [if_pos rfl, decide_eq_true (by simpa using d0), decide_eq_true (by simpa using d1)]; rfl)
        rw [HV.out] at HK
        go_wp2_with fail
        exact HK.out _ _ _ _ _ _ _ _ _ _ _ _ _ _ _ _ _ _
      · have HV := Lib.hid (show (!partK n true x) = true by
          unfold partK thereK
          have h1 : (n : Int) ≤ x := by simpa using d1
          rw [if_pos rfl, decide_eq_false (p := x < (n : Int)) (by omega), Bool.and_false]; rfl)
        rw [HV.out] at HK
        go_wp2_with fail
        exact HK.out _ _ _ _ _ _ _ _ _ _ _ _ _ _ _ _ _ _
    · have HV := Lib.hid (show (!partK n true x) = true by
        unfold partK thereK
        have h1 : x < 0 := by simpa using d0
        rw [if_pos rfl, decide_eq_false (p := 0 ≤ x) (by omega), Bool.false_and]; rfl)
      rw [HV.out] at HK
      go_wp2_with fail
      exact HK.out _ _ _ _ _ _ _ _ _ _ _ _ _ _ _ _ _ _

set_option maxRecDepth 100000 in
set_option maxHeartbeats 4000000 in
theorem one_r17 {bv n c : Nat} {A : Option Addr} {x : Int} {sec : Bool} {vs : List KVar} (w : World) (Q : Exit → Act → World → Prop) {u0 u1 u3 u4 u5 u6 u7 u8 u9 u11 u13 u14 u15 u16 u17 u18 u19 u20 u21 u22 u23 u24 u25 u26 u27 u28 u29 u30 u31 u32 u33 u34 u35 u36 u37 u38 u39 u40 u41 u42 u43 u44 u45 u46 u47 u48 u49 u50 u51 u52 u53 u54 u55 u56 u57 u58 u59 u60 u61 u62 u63 u64 u65 u66 u67 u68 u69 u70 u71 u72 u73 u74 u75 u76 u77 u78 u79 u80 u81 u82 u83 u84 u85 u86 u87 u88 u89 u90 u91 u92 u93 u94 u95 u96 u97 u98 u99 u100 u101 u102 u103 u104 u105 u106 u107 u108 u109 u110 u111 u112 : Value} (hc : w.cell? ⟨bv, 0, none⟩ = some (.slice A n c)) (hl : bv < w.heap.size) (hv : KVarsAt w (fun k => k < w.heap.size) (.slice A n c) vs) (hx : x < (vs.length : Int))
    (k : ∀ (v77 v78 v79 v80 v81 v82 v83 v84 v85 v86 v87 v88 v89 v90 v91 v92 v93 v94 v95 : Value) (w' : World), Below w.heap.size w w' → Q .normal ⟨#[u0, u1, .pointer (some ⟨bv, 0, none⟩), u3, u4, u5, u6, u7, u8, u9, .bool sec, u11, .int .i64 x, u13, u14, u15, u16, u17, u18, u19, u20, u21, u22, u23, u24, u25, u26, u27, u28, u29, u30, u31, u32, u33, u34, u35, u36, u37, u38, u39, u40, u41, u42, u43, u44, u45, u46, u47, u48, u49, u50, u51, u52, u53, u54, u55, u56, u57, u58, u59, u60, u61, u62, u63, u64, u65, u66, u67, u68, u69, u70, u71, u72, u73, u74, u75, u76, v77, v78, v79, v80, v81, v82, v83, v84, v85, v86, v87, v88, v89, v90, v91, v92, v93, v94, v95, .bool (!intoK vs sec x), u97, u98, u99, u100, u101, u102, u103, u104, u105, u106, u107, u108, u109, u110, u111, u112], []⟩ w') : (partR Tryz.f63 17).wp Tryz.prog Q ⟨#[u0, u1, .pointer (some ⟨bv, 0, none⟩), u3, u4, u5, u6, u7, u8, u9, .bool sec, u11, .int .i64 x, u13, u14, u15, u16, u17, u18, u19, u20, u21, u22, u23, u24, u25, u26, u27, u28, u29, u30, u31, u32, u33, u34, u35, u36, u37, u38, u39, u40, u41, u42, u43, u44, u45, u46, u47, u48, u49, u50, u51, u52, u53, u54, u55, u56, u57, u58, u59, u60, u61, u62, u63, u64, u65, u66, u67, u68, u69, u70, u71, u72, u73, u74, u75, u76, u77, u78, u79, u80, u81, u82, u83, u84, u85, u86, u87, u88, u89, u90, u91, u92, u93, u94, u95, u96, u97, u98, u99, u100, u101, u102, u103, u104, u105, u106, u107, u108, u109, u110, u111, u112], []⟩ w := by
  
  have HK := Lib.hid k
  clear k
  conv => arg 2; whnf
  by_cases h0 : 0 ≤ x
  rotate_left
  · have d0 : decide (0 ≤ x) = false := decide_eq_false h0
    have HV := Lib.hid (show (!intoK vs sec x) = false by unfold intoK; rw [d0]; rfl)
    rw [HV.out] at HK
    go_wp2_with fail
    exact HK.out _ _ _ _ _ _ _ _ _ _ _ _ _ _ _ _ _ _ _ w (Below.refl _ _)
  have d0 : decide (0 ≤ x) = true := decide_eq_true h0
  obtain ⟨m, hm⟩ : ∃ m : Nat, x = m := ⟨x.toNat, by omega⟩
  obtain ⟨v, hvv⟩ : ∃ v, vs[m]? = some v := ⟨_, List.getElem?_eq_getElem (by omega)⟩
  have hvk : varK vs x = v := by rw [hm]; exact varK_at hvv
  have hVV : (!intoK vs sec x) = (givenK v || (sec && !v.secret)) := by unfold intoK; rw [d0, hvk]; simp
  have HVV := Lib.hid hVV
  rw [hVV] at HK
  obtain ⟨g, off, rfl, hg, f0, f1, f2⟩ := hv.at_ hvv
  have hn := (rows_len hv).1
  have HG := Lib.hid (fun w1 => given_any v w1)
  have HL := Lib.hid (And.intro hl hg)
  have C1 := Lib.hid (And.intro hc f1)
  subst hm
  have i1 : (m : Int) < (n : Int) := by omega
  clear hvv hvk hVV hv hl hg
  generalize givenK v = gv at HG HK
  generalize hsc : v.secret = vsec at HK f1 f2 HG
  cases gv
  · cases sec
    · rw [show (false || (false && !vsec)) = false from rfl] at HK
      go_wp2_with (first | ((with_reducible refine (HG.out _).mono ?_); rintro e w1 ⟨rfl, hb1⟩; have HB1 := Lib.hid hb1; clear hb1))
      exact HK.out _ _ _ _ _ _ _ _ _ _ _ _ _ _ _ _ _ _ _ w1 HB1.out
    · cases vsec
      · rw [show (false || (true && !false)) = true from rfl] at HK
        go_wp2_with (first | ((with_reducible refine (HG.out _).mono ?_); rintro e w1 ⟨rfl, hb1⟩; have hc := (hb1.cell (p := ⟨bv, 0, none⟩) HL.out.1).trans hc; have f1 := (hb1.cell (p := ⟨g, off + m * 3 + 1, none⟩) HL.out.2).trans f1; have HB1 := Lib.hid hb1; clear hb1))
        exact HK.out _ _ _ _ _ _ _ _ _ _ _ _ _ _ _ _ _ _ _ w1 HB1.out
      · rw [show (false || (true && !true)) = false from rfl] at HK
        go_wp2_with (first | ((with_reducible refine (HG.out _).mono ?_); rintro e w1 ⟨rfl, hb1⟩; have hc := (hb1.cell (p := ⟨bv, 0, none⟩) HL.out.1).trans hc; have f1 := (hb1.cell (p := ⟨g, off + m * 3 + 1, none⟩) HL.out.2).trans f1; have HB1 := Lib.hid hb1; clear hb1))
        exact HK.out _ _ _ _ _ _ _ _ _ _ _ _ _ _ _ _ _ _ _ w1 HB1.out
  · rw [show (true || (sec && !vsec)) = true from rfl] at HK
    go_wp2_with (first | ((with_reducible refine (HG.out _).mono ?_); rintro e w1 ⟨rfl, hb1⟩; have HB1 := Lib.hid hb1; clear hb1))
    exact HK.out _ _ _ _ _ _ _ _ _ _ _ _ _ _ _ _ _ _ _ w1 HB1.out


set_option maxRecDepth 100000 in
set_option maxHeartbeats 4000000 in
theorem one1_any (x : Int) (vs : List KVar) (A : Option Addr) (n c B : Nat) (w : World) (F : Nat → Prop) (hc : w.cell? ⟨B, 0, none⟩ = some (.slice A n c)) (hv : KVarsAt w F (.slice A n c) vs) (hx : 0 ≤ x ∧ x < (vs.length : Int)) :
    Calls Tryz.prog 89 #[.int .i64 x, .pointer (some ⟨B, 0, none⟩)] w fun e w' => e = .returned (.bool (varK vs x).secret) ∧ Below w.heap.size w w' := by
  obtain ⟨m, hm⟩ : ∃ m : Nat, x = m := ⟨x.toNat, by omega⟩
  obtain ⟨v, hvv⟩ : ∃ v, vs[m]? = some v := ⟨_, List.getElem?_eq_getElem (by omega)⟩
  have hvk : varK vs x = v := by rw [hm]; exact varK_at hvv
  rw [hvk]
  obtain ⟨g, off, rfl, hg, f0, f1, f2⟩ := hv.at_ hvv
  have hn := (rows_len hv).1
  subst hm
  have i1 : (m : Int) < (n : Int) := by omega
  have i0 : (0 : Int) ≤ (m : Int) := by omega
  clear hvv hvk hv hx
  go_enter Tryz.func89, Tryz.ntmps89
  go_wp2
  go_ret
  exact ⟨rfl, Below.refl _ _⟩
end Go.Proofs.YtjbabpnepjhllaaGreat
