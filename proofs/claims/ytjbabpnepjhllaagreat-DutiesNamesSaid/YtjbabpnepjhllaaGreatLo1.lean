/- lengths.number; the regions of one. -/
import Derived.Test.YtjbabpnepjhllaaGreatLenE
import Derived.Test.YtjbabpnepjhllaaGreatPart
namespace Go.Proofs.YtjbabpnepjhllaaGreat
open Go.RowKit

set_option maxRecDepth 100000 in
set_option maxHeartbeats 4000000 in
theorem number_any (o : KOp) (w : World) : Calls Tryz.prog 87 #[.agg #[.int .i64 o.kind, .int .i64 o.d, .int .i64 o.e, .int .i64 o.a, .int .i64 o.b, .int .i64 o.c, .int .u64 o.imm]] w fun e w' => e = .returned (.bool (numK o)) ∧ Below w.heap.size w w' := by
  by_cases h1 : o.kind = 1
  · have HV := Lib.hid (show numK o = true by unfold numK; rw [if_pos h1])
    have HK := Lib.hid h1
    clear h1
    go_enter Tryz.func87, Tryz.ntmps87
    go_upto_region 1 with (first | go_in)
    obtain ⟨W, hW⟩ : ∃ W, W = w.alloc (.cells #[.int .i64 o.kind, .int .i64 o.d, .int .i64 o.e, .int .i64 o.a, .int .i64 o.b, .int .i64 o.c, .int .u64 o.imm] 43) := ⟨_, rfl⟩
    rw [← hW]
    have hb : Below w.heap.size w W := by rw [hW]; exact (Below.refl _ _).alloc (Nat.le_refl _) _
    have hk : OpBox W w.heap.size o := OpBox.of (t := 43) (fr := (0, 0)) (by rw [hW]; exact heap_alloc_new w _)
    have HB := Lib.hid hb
    have c0 := hk.kind
    have c6 := hk.imm
    clear hW hb hk
    rw [HK.out] at c0
    go_wp2
    go_ret
    exact ⟨ret_bool HV.out.symm, HB.out⟩
  by_cases h13 : o.kind = 13
  · have hv : numK o = (decide (1 ≤ o.imm) && decide (o.imm ≤ 6)) := by unfold numK; rw [if_neg h1, if_pos h13]
    have HK := Lib.hid h13
    clear h1 h13
    have HV := Lib.hid hv
    clear hv
    go_enter Tryz.func87, Tryz.ntmps87
    go_upto_region 1 with (first | go_in)
    obtain ⟨W, hW⟩ : ∃ W, W = w.alloc (.cells #[.int .i64 o.kind, .int .i64 o.d, .int .i64 o.e, .int .i64 o.a, .int .i64 o.b, .int .i64 o.c, .int .u64 o.imm] 43) := ⟨_, rfl⟩
    rw [← hW]
    have hb : Below w.heap.size w W := by rw [hW]; exact (Below.refl _ _).alloc (Nat.le_refl _) _
    have hk : OpBox W w.heap.size o := OpBox.of (t := 43) (fr := (0, 0)) (by rw [hW]; exact heap_alloc_new w _)
    have HB := Lib.hid hb
    have c0 := hk.kind
    have c6 := hk.imm
    clear hW hb hk
    rw [HK.out] at c0
    go_wp2
    all_goals
      go_ret
      refine ⟨ret_bool ?_, HB.out⟩
      rw [HV.out, Bool.eq_iff_iff]
      simp
      omega
  by_cases h15 : o.kind = 15
  · have hv : numK o = (decide (1 ≤ o.imm) && decide (o.imm ≤ 4096)) := by unfold numK; rw [if_neg h1, if_neg h13, if_pos h15]
    have HK := Lib.hid h15
    clear h1 h13 h15
    have HV := Lib.hid hv
    clear hv
    go_enter Tryz.func87, Tryz.ntmps87
    go_upto_region 1 with (first | go_in)
    obtain ⟨W, hW⟩ : ∃ W, W = w.alloc (.cells #[.int .i64 o.kind, .int .i64 o.d, .int .i64 o.e, .int .i64 o.a, .int .i64 o.b, .int .i64 o.c, .int .u64 o.imm] 43) := ⟨_, rfl⟩
    rw [← hW]
    have hb : Below w.heap.size w W := by rw [hW]; exact (Below.refl _ _).alloc (Nat.le_refl _) _
    have hk : OpBox W w.heap.size o := OpBox.of (t := 43) (fr := (0, 0)) (by rw [hW]; exact heap_alloc_new w _)
    have HB := Lib.hid hb
    have c0 := hk.kind
    have c6 := hk.imm
    clear hW hb hk
    rw [HK.out] at c0
    go_wp2
    all_goals
      go_ret
      refine ⟨ret_bool ?_, HB.out⟩
      rw [HV.out, Bool.eq_iff_iff]
      simp
      omega
  have hv : numK o = decide (o.imm = 0) := by unfold numK; rw [if_neg h1, if_neg h13, if_neg h15]
  have e1 : (o.kind == 1) = false := beq_eq_false_iff_ne.2 h1
  have e13 : (o.kind == 13) = false := beq_eq_false_iff_ne.2 h13
  have e15 : (o.kind == 15) = false := beq_eq_false_iff_ne.2 h15
  clear h1 h13 h15
  by_cases h0 : o.imm = 0
  · have x0 : ((o.imm : Int) == 0) = true := by rw [beq_iff_eq]; omega
    rw [decide_eq_true h0] at hv
    have HV := Lib.hid hv
    clear hv h0
    go_enter Tryz.func87, Tryz.ntmps87
    go_upto_region 1 with (first | go_in)
    obtain ⟨W, hW⟩ : ∃ W, W = w.alloc (.cells #[.int .i64 o.kind, .int .i64 o.d, .int .i64 o.e, .int .i64 o.a, .int .i64 o.b, .int .i64 o.c, .int .u64 o.imm] 43) := ⟨_, rfl⟩
    rw [← hW]
    have hb : Below w.heap.size w W := by rw [hW]; exact (Below.refl _ _).alloc (Nat.le_refl _) _
    have hk : OpBox W w.heap.size o := OpBox.of (t := 43) (fr := (0, 0)) (by rw [hW]; exact heap_alloc_new w _)
    have HB := Lib.hid hb
    have c0 := hk.kind
    have c6 := hk.imm
    clear hW hb hk
    go_wp2
    go_ret
    exact ⟨ret_bool HV.out.symm, HB.out⟩
  · have x0 : ((o.imm : Int) == 0) = false := beq_eq_false_iff_ne.2 (by omega)
    rw [decide_eq_false h0] at hv
    have HV := Lib.hid hv
    clear hv h0
    go_enter Tryz.func87, Tryz.ntmps87
    go_upto_region 1 with (first | go_in)
    obtain ⟨W, hW⟩ : ∃ W, W = w.alloc (.cells #[.int .i64 o.kind, .int .i64 o.d, .int .i64 o.e, .int .i64 o.a, .int .i64 o.b, .int .i64 o.c, .int .u64 o.imm] 43) := ⟨_, rfl⟩
    rw [← hW]
    have hb : Below w.heap.size w W := by rw [hW]; exact (Below.refl _ _).alloc (Nat.le_refl _) _
    have hk : OpBox W w.heap.size o := OpBox.of (t := 43) (fr := (0, 0)) (by rw [hW]; exact heap_alloc_new w _)
    have HB := Lib.hid hb
    have c0 := hk.kind
    have c6 := hk.imm
    clear hW hb hk
    go_wp2
    go_ret
    exact ⟨ret_bool HV.out.symm, HB.out⟩
def bitK (s i : Int) : Bool := decide (s / 2 ^ i.toNat % 2 = 1)

set_option maxRecDepth 100000 in
set_option maxHeartbeats 4000000 in
theorem one_r9 {s i : Int} (w : World) (Q : Exit → Act → World → Prop) {u0 u1 u2 u3 u4 u6 u8 u9 u10 u11 u12 u13 u14 u15 u16 u17 u18 u19 u20 u21 u22 u23 u24 u25 u26 u27 u28 u29 u30 u31 u32 u33 u34 u35 u36 u37 u38 u39 u40 u41 u42 u43 u44 u45 u46 u47 u48 u49 u50 u51 u52 u53 u54 u55 u56 u57 u58 u59 u60 u61 u62 u63 u64 u65 u66 u67 u68 u69 u70 u71 u72 u73 u74 u75 u76 u77 u78 u79 u80 u81 u82 u83 u84 u85 u86 u87 u88 u89 u90 u91 u92 u93 u94 u95 u96 u97 u98 u99 u100 u101 u102 u103 u104 u105 u106 u107 u108 u109 u110 u111 u112 : Value} (hs : s = 0 ∨ s = 1 ∨ s = 5 ∨ s = 13 ∨ s = 19 ∨ s = 21 ∨ s = 29) (hi : i = 0 ∨ i = 1 ∨ i = 2 ∨ i = 3 ∨ i = 4)
    (k : ∀ (v38 v39 v40 v41 v42 : Value), Q .normal ⟨#[u0, u1, u2, u3, u4, .int .i64 s, u6, .int .i64 i, u8, .bool (bitK s i), u10, u11, u12, u13, u14, u15, u16, u17, u18, u19, u20, u21, u22, u23, u24, u25, u26, u27, u28, u29, u30, u31, u32, u33, u34, u35, u36, u37, v38, v39, v40, v41, v42, u43, u44, u45, u46, u47, u48, u49, u50, u51, u52, u53, u54, u55, u56, u57, u58, u59, u60, u61, u62, u63, u64, u65, u66, u67, u68, u69, u70, u71, u72, u73, u74, u75, u76, u77, u78, u79, u80, u81, u82, u83, u84, u85, u86, u87, u88, u89, u90, u91, u92, u93, u94, u95, u96, u97, u98, u99, u100, u101, u102, u103, u104, u105, u106, u107, u108, u109, u110, u111, u112], []⟩ w) : (partR Tryz.f63 9).wp Tryz.prog Q ⟨#[u0, u1, u2, u3, u4, .int .i64 s, u6, .int .i64 i, u8, u9, u10, u11, u12, u13, u14, u15, u16, u17, u18, u19, u20, u21, u22, u23, u24, u25, u26, u27, u28, u29, u30, u31, u32, u33, u34, u35, u36, u37, u38, u39, u40, u41, u42, u43, u44, u45, u46, u47, u48, u49, u50, u51, u52, u53, u54, u55, u56, u57, u58, u59, u60, u61, u62, u63, u64, u65, u66, u67, u68, u69, u70, u71, u72, u73, u74, u75, u76, u77, u78, u79, u80, u81, u82, u83, u84, u85, u86, u87, u88, u89, u90, u91, u92, u93, u94, u95, u96, u97, u98, u99, u100, u101, u102, u103, u104, u105, u106, u107, u108, u109, u110, u111, u112], []⟩ w := by
  
  have HK := Lib.hid k
  clear k
  conv => arg 2; whnf
  rcases hs with rfl | rfl | rfl | rfl | rfl | rfl | rfl <;> rcases hi with rfl | rfl | rfl | rfl | rfl
  all_goals
    go_wp2_with fail
    exact HK.out _ _ _ _ _

set_option maxRecDepth 100000 in
set_option maxHeartbeats 4000000 in
theorem one_r10 {bv n c : Nat} {A : Option Addr} {x : Int} {h : Bool} (w : World) (Q : Exit → Act → World → Prop) {u0 u1 u3 u4 u5 u6 u7 u10 u11 u12 u13 u14 u15 u16 u17 u18 u19 u20 u21 u22 u23 u24 u25 u26 u27 u28 u29 u30 u31 u32 u33 u34 u35 u36 u37 u38 u39 u40 u41 u42 u43 u44 u45 u46 u47 u48 u49 u50 u51 u52 u53 u54 u55 u56 u57 u58 u59 u60 u61 u62 u63 u64 u65 u66 u67 u68 u69 u70 u71 u72 u73 u74 u75 u76 u77 u78 u79 u80 u81 u82 u83 u84 u85 u86 u87 u88 u89 u90 u91 u92 u93 u94 u95 u96 u97 u98 u99 u100 u101 u102 u103 u104 u105 u106 u107 u108 u109 u110 u111 u112 : Value} (hc : w.cell? ⟨bv, 0, none⟩ = some (.slice A n c))
    (k : ∀ (v43 v44 v45 v46 v47 v48 v49 v50 v51 v52 v53 v54 v55 v56 v57 v58 v59 v60 : Value), Q .normal ⟨#[u0, u1, .pointer (some ⟨bv, 0, none⟩), u3, u4, u5, u6, u7, .int .i64 x, .bool h, u10, u11, u12, u13, u14, u15, u16, u17, u18, u19, u20, u21, u22, u23, u24, u25, u26, u27, u28, u29, u30, u31, u32, u33, u34, u35, u36, u37, u38, u39, u40, u41, u42, v43, v44, v45, v46, v47, v48, v49, v50, v51, v52, v53, v54, v55, v56, v57, v58, v59, v60, .bool (!partK n h x), u62, u63, u64, u65, u66, u67, u68, u69, u70, u71, u72, u73, u74, u75, u76, u77, u78, u79, u80, u81, u82, u83, u84, u85, u86, u87, u88, u89, u90, u91, u92, u93, u94, u95, u96, u97, u98, u99, u100, u101, u102, u103, u104, u105, u106, u107, u108, u109, u110, u111, u112], []⟩ w) : (partR Tryz.f63 10).wp Tryz.prog Q ⟨#[u0, u1, .pointer (some ⟨bv, 0, none⟩), u3, u4, u5, u6, u7, .int .i64 x, .bool h, u10, u11, u12, u13, u14, u15, u16, u17, u18, u19, u20, u21, u22, u23, u24, u25, u26, u27, u28, u29, u30, u31, u32, u33, u34, u35, u36, u37, u38, u39, u40, u41, u42, u43, u44, u45, u46, u47, u48, u49, u50, u51, u52, u53, u54, u55, u56, u57, u58, u59, u60, u61, u62, u63, u64, u65, u66, u67, u68, u69, u70, u71, u72, u73, u74, u75, u76, u77, u78, u79, u80, u81, u82, u83, u84, u85, u86, u87, u88, u89, u90, u91, u92, u93, u94, u95, u96, u97, u98, u99, u100, u101, u102, u103, u104, u105, u106, u107, u108, u109, u110, u111, u112], []⟩ w := by
  
  have HK := Lib.hid k
  clear k
  conv => arg 2; whnf
  cases h
  · cases d0 : (x == -1)
    · have d1 : (x != -1) = true := by rw [bne, d0]; rfl
      have HV := Lib.hid (show (!partK n false x) = true by unfold partK; simp only [d0]; rfl)
      rw [HV.out] at HK
      go_wp2_with fail
      exact HK.out _ _ _ _ _ _ _ _ _ _ _ _ _ _ _ _ _ _
    · have d1 : (x != -1) = false := by rw [bne, d0]; rfl
      have HV := Lib.hid (show (!partK n false x) = false by unfold partK; simp only [d0]; rfl)
      rw [HV.out] at HK
      go_wp2_with fail
      exact HK.out _ _ _ _ _ _ _ _ _ _ _ _ _ _ _ _ _ _
  · cases d0 : decide (x < 0)
    · cases d1 : decide ((n : Int) ≤ x)
      · have HV := Lib.hid (show (!partK n true x) = false by
          unfold partK thereK
          rw [if_pos rfl, decide_eq_true (by simpa using d0), decide_eq_true (by simpa using d1)]; rfl)
        rw [HV.out] at HK
        go_wp2_with fail
        exact HK.out _ _ _ _ _ _ _ _ _ _ _ _ _ _ _ _ _ _
      · have HV := Lib.hid (show (!partK n true x) = true by
          unfold partK thereK
          have h1 : (n : Int) ≤ x := by simpa using d1
          rw [if_pos rfl, decide_eq_false (p := x < (n : Int)) (by omega), Bool.and_false]; rfl)
        rw [HV.out] at HK
        go_wp2_with fail
        exact HK.out _ _ _ _ _ _ _ _ _ _ _ _ _ _ _ _ _ _
    · have HV := Lib.hid (show (!partK n true x) = true by
        unfold partK thereK
        have h1 : x < 0 := by simpa using d0
        rw [if_pos rfl, decide_eq_false (p := 0 ≤ x) (by omega), Bool.false_and]; rfl)
      rw [HV.out] at HK
      go_wp2_with fail
      exact HK.out _ _ _ _ _ _ _ _ _ _ _ _ _ _ _ _ _ _

set_option maxRecDepth 100000 in
set_option maxHeartbeats 4000000 in
theorem one_r17 {bv n c : Nat} {A : Option Addr} {x : Int} {sec : Bool} {vs : List KVar} (w : World) (Q : Exit → Act → World → Prop) {u0 u1 u3 u4 u5 u6 u7 u8 u9 u11 u13 u14 u15 u16 u17 u18 u19 u20 u21 u22 u23 u24 u25 u26 u27 u28 u29 u30 u31 u32 u33 u34 u35 u36 u37 u38 u39 u40 u41 u42 u43 u44 u45 u46 u47 u48 u49 u50 u51 u52 u53 u54 u55 u56 u57 u58 u59 u60 u61 u62 u63 u64 u65 u66 u67 u68 u69 u70 u71 u72 u73 u74 u75 u76 u77 u78 u79 u80 u81 u82 u83 u84 u85 u86 u87 u88 u89 u90 u91 u92 u93 u94 u95 u96 u97 u98 u99 u100 u101 u102 u103 u104 u105 u106 u107 u108 u109 u110 u111 u112 : Value} (hc : w.cell? ⟨bv, 0, none⟩ = some (.slice A n c)) (hl : bv < w.heap.size) (hv : KVarsAt w (fun k => k < w.heap.size) (.slice A n c) vs) (hx : x < (vs.length : Int))
    (k : ∀ (v77 v78 v79 v80 v81 v82 v83 v84 v85 v86 v87 v88 v89 v90 v91 v92 v93 v94 v95 : Value) (w' : World), Below w.heap.size w w' → Q .normal ⟨#[u0, u1, .pointer (some ⟨bv, 0, none⟩), u3, u4, u5, u6, u7, u8, u9, .bool sec, u11, .int .i64 x, u13, u14, u15, u16, u17, u18, u19, u20, u21, u22, u23, u24, u25, u26, u27, u28, u29, u30, u31, u32, u33, u34, u35, u36, u37, u38, u39, u40, u41, u42, u43, u44, u45, u46, u47, u48, u49, u50, u51, u52, u53, u54, u55, u56, u57, u58, u59, u60, u61, u62, u63, u64, u65, u66, u67, u68, u69, u70, u71, u72, u73, u74, u75, u76, v77, v78, v79, v80, v81, v82, v83, v84, v85, v86, v87, v88, v89, v90, v91, v92, v93, v94, v95, .bool (!intoK vs sec x), u97, u98, u99, u100, u101, u102, u103, u104, u105, u106, u107, u108, u109, u110, u111, u112], []⟩ w') : (partR Tryz.f63 17).wp Tryz.prog Q ⟨#[u0, u1, .pointer (some ⟨bv, 0, none⟩), u3, u4, u5, u6, u7, u8, u9, .bool sec, u11, .int .i64 x, u13, u14, u15, u16, u17, u18, u19, u20, u21, u22, u23, u24, u25, u26, u27, u28, u29, u30, u31, u32, u33, u34, u35, u36, u37, u38, u39, u40, u41, u42, u43, u44, u45, u46, u47, u48, u49, u50, u51, u52, u53, u54, u55, u56, u57, u58, u59, u60, u61, u62, u63, u64, u65, u66, u67, u68, u69, u70, u71, u72, u73, u74, u75, u76, u77, u78, u79, u80, u81, u82, u83, u84, u85, u86, u87, u88, u89, u90, u91, u92, u93, u94, u95, u96, u97, u98, u99, u100, u101, u102, u103, u104, u105, u106, u107, u108, u109, u110, u111, u112], []⟩ w := by
  
  have HK := Lib.hid k
  clear k
  conv => arg 2; whnf
  by_cases h0 : 0 ≤ x
  rotate_left
  · have d0 : decide (0 ≤ x) = false := decide_eq_false h0
    have HV := Lib.hid (show (!intoK vs sec x) = false by unfold intoK; rw [d0]; rfl)
    rw [HV.out] at HK
    go_wp2_with fail
    exact HK.out _ _ _ _ _ _ _ _ _ _ _ _ _ _ _ _ _ _ _ w (Below.refl _ _)
  have d0 : decide (0 ≤ x) = true := decide_eq_true h0
  obtain ⟨m, hm⟩ : ∃ m : Nat, x = m := ⟨x.toNat, by omega⟩
  obtain ⟨v, hvv⟩ : ∃ v, vs[m]? = some v := ⟨_, List.getElem?_eq_getElem (by omega)⟩
  have hvk : varK vs x = v := by rw [hm]; exact varK_at hvv
  have hVV : (!intoK vs sec x) = (givenK v || (sec && !v.secret)) := by unfold intoK; rw [d0, hvk]; simp
  have HVV := Lib.hid hVV
  rw [hVV] at HK
  obtain ⟨g, off, rfl, hg, f0, f1, f2⟩ := hv.at_ hvv
  have hn := (rows_len hv).1
  have HG := Lib.hid (fun w1 => given_any v w1)
  have HL := Lib.hid (And.intro hl hg)
  have C1 := Lib.hid (And.intro hc f1)
  subst hm
  have i1 : (m : Int) < (n : Int) := by omega
  clear hvv hvk hVV hv hl hg
  generalize givenK v = gv at HG HK
  generalize hsc : v.secret = vsec at HK f1 f2 HG
  cases gv
  · cases sec
    · rw [show (false || (false && !vsec)) = false from rfl] at HK
      go_wp2_with (first | ((with_reducible refine (HG.out _).mono ?_); rintro e w1 ⟨rfl, hb1⟩; have HB1 := Lib.hid hb1; clear hb1))
      exact HK.out _ _ _ _ _ _ _ _ _ _ _ _ _ _ _ _ _ _ _ w1 HB1.out
    · cases vsec
      · rw [show (false || (true && !false)) = true from rfl] at HK
        go_wp2_with (first | ((with_reducible refine (HG.out _).mono ?_); rintro e w1 ⟨rfl, hb1⟩; have hc := (hb1.cell (p := ⟨bv, 0, none⟩) HL.out.1).trans hc; have f1 := (hb1.cell (p := ⟨g, off + m * 3 + 1, none⟩) HL.out.2).trans f1; have HB1 := Lib.hid hb1; clear hb1))
        exact HK.out _ _ _ _ _ _ _ _ _ _ _ _ _ _ _ _ _ _ _ w1 HB1.out
      · rw [show (false || (true && !true)) = false from rfl] at HK
        go_wp2_with (first | ((with_reducible refine (HG.out _).mono ?_); rintro e w1 ⟨rfl, hb1⟩; have hc := (hb1.cell (p := ⟨bv, 0, none⟩) HL.out.1).trans hc; have f1 := (hb1.cell (p := ⟨g, off + m * 3 + 1, none⟩) HL.out.2).trans f1; have HB1 := Lib.hid hb1; clear hb1))
        exact HK.out _ _ _ _ _ _ _ _ _ _ _ _ _ _ _ _ _ _ _ w1 HB1.out
  · rw [show (true || (sec && !vsec)) = true from rfl] at HK
    go_wp2_with (first | ((with_reducible refine (HG.out _).mono ?_); rintro e w1 ⟨rfl, hb1⟩; have HB1 := Lib.hid hb1; clear hb1))
    exact HK.out _ _ _ _ _ _ _ _ _ _ _ _ _ _ _ _ _ _ _ w1 HB1.out


set_option maxRecDepth 100000 in
set_option maxHeartbeats 4000000 in
theorem one1_any (x : Int) (vs : List KVar) (A : Option Addr) (n c B : Nat) (w : World) (F : Nat → Prop) (hc : w.cell? ⟨B, 0, none⟩ = some (.slice A n c)) (hv : KVarsAt w F (.slice A n c) vs) (hx : 0 ≤ x ∧ x < (vs.length : Int)) :
    Calls Tryz.prog 89 #[.int .i64 x, .pointer (some ⟨B, 0, none⟩)] w fun e w' => e = .returned (.bool (varK vs x).secret) ∧ Below w.heap.size w w' := by
  obtain ⟨m, hm⟩ : ∃ m : Nat, x = m := ⟨x.toNat, by omega⟩
  obtain ⟨v, hvv⟩ : ∃ v, vs[m]? = some v := ⟨_, List.getElem?_eq_getElem (by omega)⟩
  have hvk : varK vs x = v := by rw [hm]; exact varK_at hvv
  rw [hvk]
  obtain ⟨g, off, rfl, hg, f0, f1, f2⟩ := hv.at_ hvv
  have hn := (rows_len hv).1
  subst hm
  have i1 : (m : Int) < (n : Int) := by omega
  have i0 : (0 : Int) ≤ (m : Int) := by omega
  clear hvv hvk hv hx
  go_enter Tryz.func89, Tryz.ntmps89
  go_wp2
  go_ret
  exact ⟨rfl, Below.refl _ _⟩
end Go.Proofs.YtjbabpnepjhllaaGreat

/- lengths.one. -/
namespace Go.Proofs.YtjbabpnepjhllaaGreat
open Go.RowKit

theorem partsK_split {n : Nat} {o : KOp} : partsK n o = ([partK n (kHasD o.kind) o.d, partK n (kHasE o.kind) o.e, partK n (kHasA o.kind) o.a, partK n (kHasB o.kind) o.b, partK n (kHasC o.kind) o.c]).all id := by
  unfold partsK; simp
theorem shape_bits {k : Int} (h : 1 ≤ k ∧ k ≤ 16) : (shapeK k = 0 ∨ shapeK k = 1 ∨ shapeK k = 5 ∨ shapeK k = 13 ∨ shapeK k = 19 ∨ shapeK k = 21 ∨ shapeK k = 29) ∧
    bitK (shapeK k) 0 = kHasD k ∧ bitK (shapeK k) 1 = kHasE k ∧ bitK (shapeK k) 2 = kHasA k ∧ bitK (shapeK k) 3 = kHasB k ∧ bitK (shapeK k) 4 = kHasC k := by
  rcases kinds16 h with rfl | rfl | rfl | rfl | rfl | rfl | rfl | rfl | rfl | rfl | rfl | rfl | rfl | rfl | rfl | rfl <;> decide
theorem part_in {n : Nat} {b : Bool} {x : Int} (h : partK n b x = true) : (0 ≤ x ∧ x < n) ∨ (b = false ∧ x = -1) := by
  unfold partK thereK at h
  cases b
  · right; exact ⟨rfl, by simpa using h⟩
  · left; simpa using h
theorem takes_in {n : Nat} {o : KOp} (h : partsK n o = true) : ∀ v ∈ takesK o, 0 ≤ v ∧ v < (n : Int) := by
  unfold partsK at h
  simp only [Bool.and_eq_true] at h
  obtain ⟨hd, he, ha, hb, hc⟩ := h
  intro v hv
  unfold takesK at hv
  rcases List.mem_append.1 hv with hv | hv
  · obtain ⟨h1, h2⟩ := List.mem_filter.1 hv
    simp only [decide_eq_true_eq] at h2
    simp only [List.mem_cons, List.not_mem_nil, or_false] at h1
    rcases h1 with rfl | rfl | rfl
    · have := part_in ha; omega
    · have := part_in hb; omega
    · have := part_in hc; omega
  · split at hv
    · rename_i h14
      rw [h14] at hd he
      have h1 := part_in hd
      have h2 := part_in he
      simp only [show kHasD 14 = true from rfl, show kHasE 14 = true from rfl, Bool.true_eq_false, false_and, or_false] at h1 h2
      simp only [List.mem_cons, List.not_mem_nil, or_false] at hv
      rcases hv with rfl | rfl
      · exact h1
      · exact h2
    · cases hv
theorem alike_in {n : Nat} {o : KOp} (h : partsK n o = true) : ∀ v ∈ alikeK o, 0 ≤ v ∧ v < (n : Int) := by
  unfold partsK at h
  simp only [Bool.and_eq_true] at h
  obtain ⟨hd, he, ha, hb, hc⟩ := h
  have hd := part_in hd
  have he := part_in he
  have ha := part_in ha
  have hb := part_in hb
  have hc := part_in hc
  unfold kHasD at hd
  unfold kHasE at he
  unfold kHasA at ha
  unfold kHasB at hb
  unfold kHasC at hc
  intro v hv
  unfold alikeK at hv
  split at hv
  · rename_i hk; rw [hk] at ha hb; simp at ha hb hv; rcases hv with rfl | rfl <;> assumption
  split at hv
  · rename_i hk; rw [hk] at hd he; simp at hd he hv; rcases hv with rfl | rfl <;> assumption
  split at hv
  · rename_i hk; rw [hk] at hd ha hb; simp at hd ha hb hv; rcases hv with rfl | rfl | rfl <;> assumption
  split at hv
  · rename_i hk; rw [hk] at hd hc; simp at hd hc hv; rcases hv with rfl | rfl <;> assumption
  split at hv
  · rename_i hk; rcases hk with hk | hk | hk <;> (rw [hk] at hd ha hb hc; simp at hd ha hb hc hv; rcases hv with rfl | rfl | rfl | rfl <;> assumption)
  split at hv
  · rename_i hk; rw [hk] at hd ha hc; simp at hd ha hc hv; rcases hv with rfl | rfl | rfl <;> assumption
  · cases hv
theorem all_next {l : List Bool} {k : Nat} {x : Bool} (h : (l.take k).all id = true) (hx : l[k]? = some x) (ht : x = true) : (l.take (k + 1)).all id = true := by
  subst ht
  rw [List.take_add_one, hx]
  simp [h]
theorem all_stop {l : List Bool} {k : Nat} (hx : l[k]? = some false) : l.all id = false := by
  rw [List.all_eq_false]
  exact ⟨false, List.mem_of_getElem? hx, by simp⟩
def prtL (n : Nat) (o : KOp) : List Bool := [partK n (kHasD o.kind) o.d, partK n (kHasE o.kind) o.e, partK n (kHasA o.kind) o.a, partK n (kHasB o.kind) o.b, partK n (kHasC o.kind) o.c]
set_option maxRecDepth 100000 in
set_option maxHeartbeats 8000000 in
theorem one_any (Av : Option Addr) (nv cv : Nat) (vs : List KVar) (o : KOp) (w : World) (F : Nat → Prop) (hv : KVarsAt w F (.slice Av nv cv) vs) (hF : ∀ k, F k → k < w.heap.size) (hok : KOpOk o) (hn : vs.length ≤ 100000) :
    Calls Tryz.prog 63 #[.slice Av nv cv, .agg #[.int .i64 o.kind, .int .i64 o.d, .int .i64 o.e, .int .i64 o.a, .int .i64 o.b, .int .i64 o.c, .int .u64 o.imm]] w fun e w' => e = .returned (.bool (oneK vs o)) ∧ Below w.heap.size w w' := by
  have hnv := (rows_len hv).1
  obtain ⟨W, hW⟩ : ∃ W, W = (w.alloc (.cells #[.slice Av nv cv] 22)).alloc (.cells #[.int .i64 o.kind, .int .i64 o.d, .int .i64 o.e, .int .i64 o.a, .int .i64 o.b, .int .i64 o.c, .int .u64 o.imm] 43) := ⟨_, rfl⟩
  obtain ⟨hvo, hb, hz⟩ := vo_start w F Av nv cv vs o hv hF
  rw [show (w.alloc (.cells #[.slice Av nv cv] 22)).alloc (.cells (kopRow o).toArray 43) = W from hW.symm] at hvo hb hz
  have HW := Lib.hid hW
  have HV := Lib.hid hvo
  have HB := Lib.hid hb
  have HZ := Lib.hid hz
  have HNV := Lib.hid hnv
  have HOK := Lib.hid hok
  clear hW hvo hb hz hv hF hok
  by_cases h17 : o.kind = 17
  · have HX := Lib.hid (show oneK vs o = needK nv o by unfold oneK; rw [if_pos h17, hnv])
    have d17 : (o.kind == 17) = true := by rw [beq_iff_eq]; exact h17
    have HND := Lib.hid (fun w1 => need_any Av nv cv o w1)
    clear hnv h17
    go_enter Tryz.func63, Tryz.ntmps63
    go_upto_region 1 with (first | go_in)
    rw [← HW.out]
    clear HW
    have c0 := HV.out.op.kind
    have c1 := HV.out.op.d
    have c2 := HV.out.op.e
    have c3 := HV.out.op.a
    have c4 := HV.out.op.b
    have c5 := HV.out.op.c
    have c6 := HV.out.op.imm
    have c7 := HV.out.hcv
    go_wp2_with (first | ((with_reducible refine (HND.out _).mono ?_); rintro e w1 ⟨rfl, hb1⟩; have HB1 := Lib.hid hb1; clear hb1) | go_in)
    go_ret
    exact ⟨ret_bool HX.out.symm, HB.out.trans (HB1.out.mono HB.out.size)⟩
  have d17 : (o.kind == 17) = false := beq_eq_false_iff_ne.2 h17
  have hx : oneK vs o = (decide (1 ≤ o.kind ∧ o.kind ≤ 16) && (numK o && (partsK nv o && (intoK vs (secretK vs o) o.d && (intoK vs (secretK vs o) o.e && ((decide (o.e < 0) || !(o.d == o.e)) && agreeK vs o)))))) := by
    unfold oneK
    rw [if_neg h17, ← hnv, ← Bool.and_assoc, ← Bool.decide_and]
  clear h17
  have HSH := Lib.hid (fun w1 => shape_any o.kind w1)
  by_cases h16 : 1 ≤ o.kind ∧ o.kind ≤ 16
  rotate_left
  · have HX := Lib.hid (show oneK vs o = false by rw [hx, decide_eq_false h16]; rfl)
    rw [if_neg h16, decide_eq_false h16] at HSH
    clear hx hnv h16
    go_enter Tryz.func63, Tryz.ntmps63
    go_upto_region 1 with (first | go_in)
    rw [← HW.out]
    clear HW
    have c0 := HV.out.op.kind
    have c1 := HV.out.op.d
    have c2 := HV.out.op.e
    have c3 := HV.out.op.a
    have c4 := HV.out.op.b
    have c5 := HV.out.op.c
    have c6 := HV.out.op.imm
    have c7 := HV.out.hcv
    go_wp2_with (first | ((with_reducible refine (HSH.out _).mono ?_); rintro e w1 ⟨rfl, hw1⟩; subst w1) | go_in)
    go_ret
    exact ⟨ret_bool HX.out.symm, HB.out⟩
  rw [decide_eq_true h16, Bool.true_and] at hx
  rw [if_pos h16, decide_eq_true h16] at HSH
  have HSB := Lib.hid (shape_bits h16)
  have HNM := Lib.hid (fun w1 => number_any o w1)
  have HPT := Lib.hid (fun w1 => parts_any o w1)
  have HTK := Lib.hid (fun w1 => takes_any o w1)
  cases hnk : numK o
  · have HX := Lib.hid (show oneK vs o = false by rw [hx, hnk]; rfl)
    rw [hnk] at HNM
    clear hx hnv h16 hnk
    go_enter Tryz.func63, Tryz.ntmps63
    go_upto_region 1 with (first | go_in)
    rw [← HW.out]
    clear HW
    have c0 := HV.out.op.kind
    have c1 := HV.out.op.d
    have c2 := HV.out.op.e
    have c3 := HV.out.op.a
    have c4 := HV.out.op.b
    have c5 := HV.out.op.c
    have c6 := HV.out.op.imm
    have c7 := HV.out.hcv
    go_wp2_with (first
      | ((with_reducible refine (HSH.out _).mono ?_); rintro e w1 ⟨rfl, hw1⟩; subst w1)
      | ((with_reducible refine (HNM.out _).mono ?_); rintro e w1 ⟨rfl, hb1⟩; have HB1 := Lib.hid hb1; clear hb1)
      | go_in)
    go_ret
    exact ⟨ret_bool HX.out.symm, HB.out.trans (HB1.out.mono HB.out.size)⟩
  rw [hnk, Bool.true_and] at hx
  rw [hnk] at HNM
  have HX := Lib.hid hx
  clear hx hnv h16 hnk
  go_enter Tryz.func63, Tryz.ntmps63
  go_upto_region 1 with (first | go_in)
  rw [← HW.out]
  clear HW
  have c0 := HV.out.op.kind
  have c1 := HV.out.op.d
  have c2 := HV.out.op.e
  have c3 := HV.out.op.a
  have c4 := HV.out.op.b
  have c5 := HV.out.op.c
  have c6 := HV.out.op.imm
  have c7 := HV.out.hcv
  go_upto_region 6 with (first
    | ((with_reducible refine (HSH.out _).mono ?_); rintro e w1 ⟨rfl, hw1⟩; subst w1)
    | ((with_reducible refine (HNM.out _).mono ?_); rintro e w1 ⟨rfl, hb1⟩; have HV1 := Lib.hid (HV.out.next hb1); have HB1 := Lib.hid hb1; clear hb1)
    | go_in)
  clear c0 c1 c2 c3 c4 c5 c6 c7
  have c0 := HV1.out.op.kind
  have c1 := HV1.out.op.d
  have c2 := HV1.out.op.e
  have c3 := HV1.out.op.a
  have c4 := HV1.out.op.b
  have c5 := HV1.out.op.c
  have c6 := HV1.out.op.imm
  go_wp2_with (first
    | ((with_reducible refine (HPT.out _).mono ?_); rintro e w2 ⟨rfl, hb2⟩; have HB2 := Lib.hid (HB1.out.trans (hb2.mono HB1.out.size)); clear hb2)
    | go_in)
  clear c0 c1 c2 c3 c4 c5 c6
  go_loopw [34] (fun i wr => ∃ k : Nat, k ≤ 5 ∧ i = .int .i64 k ∧ Below W.heap.size W wr ∧ Hid (((prtL nv o).take k).all id = true)) (fun i _ => 5 - (intOf i).toNat)
  case atStart => exact ⟨0, by omega, rfl, HB2.out, Lib.hid rfl⟩
  case round =>
    obtain ⟨k, hk5, rfl, hbr, HT⟩ := hrel
    have HBR := Lib.hid hbr
    have HVR := Lib.hid (HV.out.next hbr)
    have p0 := HVR.out.hcv
    clear hbr
    obtain rfl | rfl | rfl | rfl | rfl | rfl : k = 0 ∨ k = 1 ∨ k = 2 ∨ k = 3 ∨ k = 4 ∨ k = 5 := by omega
    · clear hk5
      have hl : (prtL nv o)[0]? = some (partK nv (kHasD o.kind) o.d) := rfl
      have HL := Lib.hid hl
      clear hl
      have hi : ∀ w_, (Instr.index 90 (.agg #[.int .i64 o.d, .int .i64 o.e, .int .i64 o.a, .int .i64 o.b, .int .i64 o.c]) (.int .i64 0)).run Tryz.prog w_ = .ok (.int .i64 o.d) w_ := fun w_ => by kernel_rfl
      go_upto_region 9 with fail
      refine wp_code (c := partR Tryz.f63 9) (by kernel_rfl) ?_
      refine one_r9 (s := shapeK o.kind) (i := 0) _ _ HSB.out.1 (by omega) ?_
      intro a38 a39 a40 a41 a42
      rw [HSB.out.2.1]
      go_upto_region 10 with fail
      refine wp_code (c := partR Tryz.f63 10) (by kernel_rfl) ?_
      refine one_r10 (n := nv) (c := cv) (A := Av) (x := o.d) (h := kHasD o.kind) _ _ p0 ?_
      intro b43 b44 b45 b46 b47 b48 b49 b50 b51 b52 b53 b54 b55 b56 b57 b58 b59 b60
      cases hq : partK nv (kHasD o.kind) o.d
      · have HN := Lib.hid (all_stop (l := prtL nv o) (k := 0) (by rw [HL.out, hq]))
        rw [show (!false) = true from rfl]
        clear hq
        go_wp2
        go_ret
        refine ⟨ret_bool ?_, HB.out.trans (HBR.out.mono HB.out.size)⟩
        rw [HX.out, partsK_split]
        rw [show ([partK nv (kHasD o.kind) o.d, partK nv (kHasE o.kind) o.e, partK nv (kHasA o.kind) o.a, partK nv (kHasB o.kind) o.b, partK nv (kHasC o.kind) o.c] : List Bool) = prtL nv o from rfl, HN.out]
        rfl
      · have HN := Lib.hid (all_next HT.out HL.out hq)
        rw [show (!true) = false from rfl]
        clear hq
        go_wp2
        go_roundw
        case rel => exact ⟨0 + 1, by omega, rfl, HBR.out, HN⟩
        case measure => simp [intOf]
    · clear hk5
      have hl : (prtL nv o)[1]? = some (partK nv (kHasE o.kind) o.e) := rfl
      have HL := Lib.hid hl
      clear hl
      have hi : ∀ w_, (Instr.index 90 (.agg #[.int .i64 o.d, .int .i64 o.e, .int .i64 o.a, .int .i64 o.b, .int .i64 o.c]) (.int .i64 1)).run Tryz.prog w_ = .ok (.int .i64 o.e) w_ := fun w_ => by kernel_rfl
      go_upto_region 9 with fail
      refine wp_code (c := partR Tryz.f63 9) (by kernel_rfl) ?_
      refine one_r9 (s := shapeK o.kind) (i := 1) _ _ HSB.out.1 (by omega) ?_
      intro a38 a39 a40 a41 a42
      rw [HSB.out.2.2.1]
      go_upto_region 10 with fail
      refine wp_code (c := partR Tryz.f63 10) (by kernel_rfl) ?_
      refine one_r10 (n := nv) (c := cv) (A := Av) (x := o.e) (h := kHasE o.kind) _ _ p0 ?_
      intro b43 b44 b45 b46 b47 b48 b49 b50 b51 b52 b53 b54 b55 b56 b57 b58 b59 b60
      cases hq : partK nv (kHasE o.kind) o.e
      · have HN := Lib.hid (all_stop (l := prtL nv o) (k := 1) (by rw [HL.out, hq]))
        rw [show (!false) = true from rfl]
        clear hq
        go_wp2
        go_ret
        refine ⟨ret_bool ?_, HB.out.trans (HBR.out.mono HB.out.size)⟩
        rw [HX.out, partsK_split]
        rw [show ([partK nv (kHasD o.kind) o.d, partK nv (kHasE o.kind) o.e, partK nv (kHasA o.kind) o.a, partK nv (kHasB o.kind) o.b, partK nv (kHasC o.kind) o.c] : List Bool) = prtL nv o from rfl, HN.out]
        rfl
      · have HN := Lib.hid (all_next HT.out HL.out hq)
        rw [show (!true) = false from rfl]
        clear hq
        go_wp2
        go_roundw
        case rel => exact ⟨1 + 1, by omega, rfl, HBR.out, HN⟩
        case measure => simp [intOf]
    · clear hk5
      have hl : (prtL nv o)[2]? = some (partK nv (kHasA o.kind) o.a) := rfl
      have HL := Lib.hid hl
      clear hl
      have hi : ∀ w_, (Instr.index 90 (.agg #[.int .i64 o.d, .int .i64 o.e, .int .i64 o.a, .int .i64 o.b, .int .i64 o.c]) (.int .i64 2)).run Tryz.prog w_ = .ok (.int .i64 o.a) w_ := fun w_ => by kernel_rfl
      go_upto_region 9 with fail
      refine wp_code (c := partR Tryz.f63 9) (by kernel_rfl) ?_
      refine one_r9 (s := shapeK o.kind) (i := 2) _ _ HSB.out.1 (by omega) ?_
      intro a38 a39 a40 a41 a42
      rw [HSB.out.2.2.2.1]
      go_upto_region 10 with fail
      refine wp_code (c := partR Tryz.f63 10) (by kernel_rfl) ?_
      refine one_r10 (n := nv) (c := cv) (A := Av) (x := o.a) (h := kHasA o.kind) _ _ p0 ?_
      intro b43 b44 b45 b46 b47 b48 b49 b50 b51 b52 b53 b54 b55 b56 b57 b58 b59 b60
      cases hq : partK nv (kHasA o.kind) o.a
      · have HN := Lib.hid (all_stop (l := prtL nv o) (k := 2) (by rw [HL.out, hq]))
        rw [show (!false) = true from rfl]
        clear hq
        go_wp2
        go_ret
        refine ⟨ret_bool ?_, HB.out.trans (HBR.out.mono HB.out.size)⟩
        rw [HX.out, partsK_split]
        rw [show ([partK nv (kHasD o.kind) o.d, partK nv (kHasE o.kind) o.e, partK nv (kHasA o.kind) o.a, partK nv (kHasB o.kind) o.b, partK nv (kHasC o.kind) o.c] : List Bool) = prtL nv o from rfl, HN.out]
        rfl
      · have HN := Lib.hid (all_next HT.out HL.out hq)
        rw [show (!true) = false from rfl]
        clear hq
        go_wp2
        go_roundw
        case rel => exact ⟨2 + 1, by omega, rfl, HBR.out, HN⟩
        case measure => simp [intOf]
    · clear hk5
      have hl : (prtL nv o)[3]? = some (partK nv (kHasB o.kind) o.b) := rfl
      have HL := Lib.hid hl
      clear hl
      have hi : ∀ w_, (Instr.index 90 (.agg #[.int .i64 o.d, .int .i64 o.e, .int .i64 o.a, .int .i64 o.b, .int .i64 o.c]) (.int .i64 3)).run Tryz.prog w_ = .ok (.int .i64 o.b) w_ := fun w_ => by kernel_rfl
      go_upto_region 9 with fail
      refine wp_code (c := partR Tryz.f63 9) (by kernel_rfl) ?_
      refine one_r9 (s := shapeK o.kind) (i := 3) _ _ HSB.out.1 (by omega) ?_
      intro a38 a39 a40 a41 a42
      rw [HSB.out.2.2.2.2.1]
      go_upto_region 10 with fail
      refine wp_code (c := partR Tryz.f63 10) (by kernel_rfl) ?_
      refine one_r10 (n := nv) (c := cv) (A := Av) (x := o.b) (h := kHasB o.kind) _ _ p0 ?_
      intro b43 b44 b45 b46 b47 b48 b49 b50 b51 b52 b53 b54 b55 b56 b57 b58 b59 b60
      cases hq : partK nv (kHasB o.kind) o.b
      · have HN := Lib.hid (all_stop (l := prtL nv o) (k := 3) (by rw [HL.out, hq]))
        rw [show (!false) = true from rfl]
        clear hq
        go_wp2
        go_ret
        refine ⟨ret_bool ?_, HB.out.trans (HBR.out.mono HB.out.size)⟩
        rw [HX.out, partsK_split]
        rw [show ([partK nv (kHasD o.kind) o.d, partK nv (kHasE o.kind) o.e, partK nv (kHasA o.kind) o.a, partK nv (kHasB o.kind) o.b, partK nv (kHasC o.kind) o.c] : List Bool) = prtL nv o from rfl, HN.out]
        rfl
      · have HN := Lib.hid (all_next HT.out HL.out hq)
        rw [show (!true) = false from rfl]
        clear hq
        go_wp2
        go_roundw
        case rel => exact ⟨3 + 1, by omega, rfl, HBR.out, HN⟩
        case measure => simp [intOf]
    · clear hk5
      have hl : (prtL nv o)[4]? = some (partK nv (kHasC o.kind) o.c) := rfl
      have HL := Lib.hid hl
      clear hl
      have hi : ∀ w_, (Instr.index 90 (.agg #[.int .i64 o.d, .int .i64 o.e, .int .i64 o.a, .int .i64 o.b, .int .i64 o.c]) (.int .i64 4)).run Tryz.prog w_ = .ok (.int .i64 o.c) w_ := fun w_ => by kernel_rfl
      go_upto_region 9 with fail
      refine wp_code (c := partR Tryz.f63 9) (by kernel_rfl) ?_
      refine one_r9 (s := shapeK o.kind) (i := 4) _ _ HSB.out.1 (by omega) ?_
      intro a38 a39 a40 a41 a42
      rw [HSB.out.2.2.2.2.2]
      go_upto_region 10 with fail
      refine wp_code (c := partR Tryz.f63 10) (by kernel_rfl) ?_
      refine one_r10 (n := nv) (c := cv) (A := Av) (x := o.c) (h := kHasC o.kind) _ _ p0 ?_
      intro b43 b44 b45 b46 b47 b48 b49 b50 b51 b52 b53 b54 b55 b56 b57 b58 b59 b60
      cases hq : partK nv (kHasC o.kind) o.c
      · have HN := Lib.hid (all_stop (l := prtL nv o) (k := 4) (by rw [HL.out, hq]))
        rw [show (!false) = true from rfl]
        clear hq
        go_wp2
        go_ret
        refine ⟨ret_bool ?_, HB.out.trans (HBR.out.mono HB.out.size)⟩
        rw [HX.out, partsK_split]
        rw [show ([partK nv (kHasD o.kind) o.d, partK nv (kHasE o.kind) o.e, partK nv (kHasA o.kind) o.a, partK nv (kHasB o.kind) o.b, partK nv (kHasC o.kind) o.c] : List Bool) = prtL nv o from rfl, HN.out]
        rfl
      · have HN := Lib.hid (all_next HT.out HL.out hq)
        rw [show (!true) = false from rfl]
        clear hq
        go_wp2
        go_roundw
        case rel => exact ⟨4 + 1, by omega, rfl, HBR.out, HN⟩
        case measure => simp [intOf]
    · clear hk5
      have hpt : partsK nv o = true := by rw [partsK_split]; exact HT.out
      have hx := HX.out
      rw [hpt, Bool.true_and] at hx
      have HPS := Lib.hid hpt
      have HX := Lib.hid hx
      have hti := takes_in hpt
      have hai := alike_in hpt
      have hdx : o.d < (nv : Int) ∧ o.e < (nv : Int) := by
        unfold partsK at hpt
        simp only [Bool.and_eq_true] at hpt
        have h1 := part_in hpt.1
        have h2 := part_in hpt.2.1
        omega
      have HDX := Lib.hid hdx
      have c0 := HVR.out.op.kind
      have c1 := HVR.out.op.d
      have c2 := HVR.out.op.e
      have c3 := HVR.out.op.a
      have c4 := HVR.out.op.b
      have c5 := HVR.out.op.c
      have c6 := HVR.out.op.imm
      have HCF := Lib.hid (fun (w3 : World) (A : Option Addr) (n c : Nat) (h3 : Below wr.heap.size wr w3) (h4 : NumsAt w3 (fun k => k < w3.heap.size) (.slice A n c) (takesK o)) => ContainsFunc_Int (.slice A n c) 89 #[.pointer (some ⟨w.heap.size, 0, none⟩)] w3 (fun k => k < w3.heap.size) (takesK o) (fun v => (varK vs v).secret) (by unfold takesK; rw [List.length_append]; have := List.length_filter_le (fun v : Int => decide (0 ≤ v)) [o.a, o.b, o.c]; split <;> simp at * <;> omega) (enters_of Tryz.func89 (by kernel_rfl) rfl) h4 (fun k hk => hk)
        (fun x hx w4 h5 => one1_any x vs Av nv cv w.heap.size w4 _ ((HVR.out.next h3).next h5).hcv ((HVR.out.next h3).next h5).vars (by have := hti x hx; have := HNV.out; omega)))
      have HAG := Lib.hid (fun (w3 : World) (h3 : Below W.heap.size W w3) => agree_any Av nv cv vs o w3 _ (HV.out.next h3).vars (fun k hk => hk) HOK.out.kind hn (fun v hv => by have := hai v hv; have := HNV.out; omega))
      clear hpt hx hti hai hdx
      go_upto_region 14 with (first
        | ((with_reducible refine (HTK.out _).mono ?_); rintro e w3 ⟨A3, n3, e3, rfl, hn3, hb3⟩; have HN3 := Lib.hid hn3; have HB3 := Lib.hid hb3; clear hn3 hb3)
        | ((with_reducible refine (HCF.out w3 A3 n3 e3 HB3.out HN3.out).mono ?_); rintro e w4 ⟨rfl, hb4⟩; have HB4 := Lib.hid (HB3.out.trans (hb4.mono HB3.out.size)); clear hb4)
        | go_in)
      have HB5 := Lib.hid (HBR.out.trans (HB4.out.mono HBR.out.size))
      have HV5 := Lib.hid (HV.out.next HB5.out)
      rw [show ((takesK o).any fun v => (varK vs v).secret) = secretK vs o from rfl]
      generalize hsec : secretK vs o = sec
      rw [hsec] at HX
      clear c0 c1 c2 c3 c4 c5 c6 p0 hsec
      have c1 := HV5.out.op.d
      have c2 := HV5.out.op.e
      have hw6 : Below w4.heap.size w4 (w4.alloc (.cells #[.int .i64 o.d, .int .i64 o.e] 3)) := (Below.refl _ _).alloc (Nat.le_refl _) _
      have HB6 := Lib.hid (HB5.out.trans (hw6.mono HB5.out.size))
      have HC6 := Lib.hid (And.intro (cell_new w4 #[Value.int .i64 o.d, .int .i64 o.e] 3 (k := 0) rfl) (cell_new w4 #[Value.int .i64 o.d, .int .i64 o.e] 3 (k := 1) rfl))
      have HS6 := Lib.hid (show (w4.alloc (.cells #[.int .i64 o.d, .int .i64 o.e] 3)).heap.size = w4.heap.size + 1 by simp)
      clear hw6
      go_wp2
      generalize (w4.alloc (.cells #[.int .i64 o.d, .int .i64 o.e] 3)) = W6 at HB6 HC6 HS6 ⊢
      go_loopw [73] (fun i wt => ∃ k : Nat, k ≤ 2 ∧ i = .int .i64 k ∧ Below W6.heap.size W6 wt ∧ Hid (([intoK vs sec o.d, intoK vs sec o.e].take k).all id = true)) (fun i _ => 2 - (intOf i).toNat)
      case atStart => exact ⟨0, by omega, rfl, Below.refl _ _, Lib.hid rfl⟩
      case round =>
        obtain ⟨k, hk2, rfl, hbt, HT2⟩ := hrel
        have HBT := Lib.hid hbt
        have HBT2 := Lib.hid (HB6.out.trans (hbt.mono HB6.out.size))
        have HVT := Lib.hid (HV.out.next HBT2.out)
        have g0 := (hbt.cell (p := ⟨w4.heap.size, 0, none⟩) (show w4.heap.size < W6.heap.size by have := HS6.out; omega)).trans HC6.out.1
        have g1 := (hbt.cell (p := ⟨w4.heap.size, 1, none⟩) (show w4.heap.size < W6.heap.size by have := HS6.out; omega)).trans HC6.out.2
        clear hbt c1 c2
        obtain rfl | rfl | rfl : k = 0 ∨ k = 1 ∨ k = 2 := by omega
        · clear hk2
          go_upto_region 17 with fail
          refine wp_code (c := partR Tryz.f63 17) (by kernel_rfl) ?_
          refine one_r17 (n := nv) (c := cv) (A := Av) (x := o.d) (sec := sec) (vs := vs) _ _ HVT.out.hcv HVT.out.lv HVT.out.vars (by have := HDX.out.1; have := HNV.out; omega) ?_
          intro c77 c78 c79 c80 c81 c82 c83 c84 c85 c86 c87 c88 c89 c90 c91 c92 c93 c94 c95 w8 hb8
          have HB8 := Lib.hid hb8
          clear hb8
          cases hq : intoK vs sec o.d
          · have HN := Lib.hid (all_stop (l := [intoK vs sec o.d, intoK vs sec o.e]) (k := 0) (by rw [← hq]; rfl))
            rw [show (!false) = true from rfl]
            clear hq
            go_wp2
            go_ret
            refine ⟨ret_bool ?_, HB.out.trans ((HBT2.out.trans (HB8.out.mono HBT2.out.size)).mono HB.out.size)⟩
            rw [HX.out]
            have h1 := HN.out
            simp only [List.all_cons, List.all_nil, Bool.and_true, id] at h1
            rw [← Bool.and_assoc, h1]
            rfl
          · have HN := Lib.hid (all_next (x := intoK vs sec o.d) HT2.out rfl hq)
            rw [show (!true) = false from rfl]
            clear hq
            go_wp2
            go_roundw
            case rel => exact ⟨0 + 1, by omega, rfl, HBT.out.trans (HB8.out.mono HBT.out.size), HN⟩
            case measure => simp [intOf]
        · clear hk2
          go_upto_region 17 with fail
          refine wp_code (c := partR Tryz.f63 17) (by kernel_rfl) ?_
          refine one_r17 (n := nv) (c := cv) (A := Av) (x := o.e) (sec := sec) (vs := vs) _ _ HVT.out.hcv HVT.out.lv HVT.out.vars (by have := HDX.out.2; have := HNV.out; omega) ?_
          intro c77 c78 c79 c80 c81 c82 c83 c84 c85 c86 c87 c88 c89 c90 c91 c92 c93 c94 c95 w8 hb8
          have HB8 := Lib.hid hb8
          clear hb8
          cases hq : intoK vs sec o.e
          · have HN := Lib.hid (all_stop (l := [intoK vs sec o.d, intoK vs sec o.e]) (k := 1) (by rw [← hq]; rfl))
            rw [show (!false) = true from rfl]
            clear hq
            go_wp2
            go_ret
            refine ⟨ret_bool ?_, HB.out.trans ((HBT2.out.trans (HB8.out.mono HBT2.out.size)).mono HB.out.size)⟩
            rw [HX.out]
            have h1 := HN.out
            simp only [List.all_cons, List.all_nil, Bool.and_true, id] at h1
            rw [← Bool.and_assoc, h1]
            rfl
          · have HN := Lib.hid (all_next (x := intoK vs sec o.e) HT2.out rfl hq)
            rw [show (!true) = false from rfl]
            clear hq
            go_wp2
            go_roundw
            case rel => exact ⟨1 + 1, by omega, rfl, HBT.out.trans (HB8.out.mono HBT.out.size), HN⟩
            case measure => simp [intOf]
        · clear hk2 g0 g1
          have hi2 : intoK vs sec o.d = true ∧ intoK vs sec o.e = true := by
            have := HT2.out
            simpa using this
          have hx := HX.out
          rw [hi2.1, hi2.2, Bool.true_and, Bool.true_and] at hx
          have HX := Lib.hid hx
          have HAG := Lib.hid (HAG.out wr HBT2.out)
          have c0 := HVT.out.op.kind
          have c1 := HVT.out.op.d
          have c2 := HVT.out.op.e
          have c3 := HVT.out.op.a
          have c4 := HVT.out.op.b
          have c5 := HVT.out.op.c
          have c6 := HVT.out.op.imm
          have c7 := HVT.out.hcv
          clear hi2 hx
          cases d0 : decide (o.e < 0)
          · cases d1 : (o.d == o.e)
            · have d2 : (o.d != o.e) = true := by rw [bne, d1]; rfl
              rw [d0, d1] at HX
              go_wp2_with (first | ((with_reducible refine HAG.out.mono ?_); rintro e w9 ⟨rfl, hb9⟩; have HB9 := Lib.hid hb9; clear hb9) | go_in)
              go_ret
              refine ⟨ret_bool (by rw [HX.out]; simp), HB.out.trans ((HBT2.out.trans (HB9.out.mono HBT2.out.size)).mono HB.out.size)⟩
            · have d2 : (o.d != o.e) = false := by rw [bne, d1]; rfl
              rw [d0, d1] at HX
              go_wp2
              go_ret
              exact ⟨ret_bool (by rw [HX.out]; rfl), HB.out.trans (HBT2.out.mono HB.out.size)⟩
          · rw [d0] at HX
            go_wp2_with (first | ((with_reducible refine HAG.out.mono ?_); rintro e w9 ⟨rfl, hb9⟩; have HB9 := Lib.hid hb9; clear hb9) | go_in)
            go_ret
            refine ⟨ret_bool (by rw [HX.out]; simp), HB.out.trans ((HBT2.out.trans (HB9.out.mono HBT2.out.size)).mono HB.out.size)⟩
end Go.Proofs.YtjbabpnepjhllaaGreat

/- lengths.vars. -/
namespace Go.Proofs.YtjbabpnepjhllaaGreat
open Go.RowKit

theorem varTo_none {vs : List KVar} {k : Nat} (h : varTo vs k = none) : ∀ m, k ≤ m → varTo vs m = none := by
  intro m hm
  obtain ⟨d, rfl⟩ : ∃ d, m = k + d := ⟨m - k, by omega⟩
  induction d with
  | zero => exact h
  | succ d ih =>
    show varTo vs (k + d + 1) = none
    have := ih (by omega)
    unfold varTo
    rw [this]
theorem varTo_le {vs : List KVar} : ∀ {k n : Nat}, varTo vs k = some n → n ≤ k := by
  intro k
  induction k with
  | zero => intro n h; cases h; exact Nat.le_refl _
  | succ k ih =>
    intro n h
    unfold varTo at h
    split at h
    · rename_i m v hm hv
      have := ih hm
      split at h
      · cases h
      · split at h
        · cases h; omega
        · split at h
          · cases h
          · cases h; omega
    · cases h
theorem varTo_next {vs : List KVar} {k n : Nat} {v : KVar} (h : varTo vs k = some n) (hv : vs[k]? = some v) : varTo vs (k + 1) = if varOk v = false then none else if v.mode = 0 then some n else if n < k ∨ v.secret ≠ !(v.mode == 1) then none else some (n + 1) := by
  show (match varTo vs k, vs[k]? with | some n, some v => if varOk v = false then none else if v.mode = 0 then some n else if n < k ∨ v.secret ≠ !(v.mode == 1) then none else some (n + 1) | _, _ => none) = _
  rw [h, hv]
theorem varsK_no {vs : List KVar} {k : Nat} (h : varTo vs k = none) (hk : k ≤ vs.length) : varsK vs = false := by
  unfold varsK; rw [varTo_none h _ hk]
set_option maxRecDepth 100000 in
set_option maxHeartbeats 4000000 in
theorem vars_any (A : Option Addr) (n c : Nat) (vs : List KVar) (w : World) (F : Nat → Prop) (hv : KVarsAt w F (.slice A n c) vs) (hF : ∀ k, F k → k < w.heap.size) (hn : vs.length ≤ 100000) :
    Calls Tryz.prog 59 #[.slice A n c] w fun e w' => e = .returned (.bool (varsK vs)) ∧ Below w.heap.size w w' := by
  have hnl := (rows_len hv).1
  have HV := Lib.hid hv
  have HF := Lib.hid hF
  have HL := Lib.hid hnl
  have n5 : n ≤ 100000 := by omega
  clear hv hF hnl hn
  go_enter Tryz.func59, Tryz.ntmps59
  go_wp2
  go_loopw [3, 4, 5, 8] (fun s3 _ _ s8 wr => ∃ k m : Nat, k ≤ n ∧ s8 = .int .i64 k ∧ s3 = .int .i64 m ∧ Hid (varTo vs k = some m) ∧ Below w.heap.size w wr) (fun _ _ _ s8 _ => n - (intOf s8).toNat)
  case atStart => exact ⟨0, 0, by omega, rfl, rfl, Lib.hid rfl, Below.refl _ _⟩
  case round =>
    obtain ⟨k, m, hk, rfl, rfl, HT, hb⟩ := hrel
    have HB := Lib.hid hb
    have hmk := varTo_le HT.out
    by_cases hlt : k < n
    · have d1 : decide (k < n) = true := decide_eq_true hlt
      obtain ⟨v, hv⟩ : ∃ v, vs[k]? = some v := ⟨_, List.getElem?_eq_getElem (by have := HL.out; omega)⟩
      have HNX := Lib.hid (varTo_next HT.out hv)
      obtain ⟨g, off, rfl, hg, c0, c1, c2⟩ := KVarsAt.at_ (HV.out.keep (SameOn.of_below hb HF.out)) hv
      have i0 : (0 : Int) ≤ (k : Int) := by omega
      have i1 : (k : Int) < (n : Int) := by omega
      have HB2 := Lib.hid (hb.alloc hb.size (.cells #[.int .i64 v.limbs, .bool v.secret, .int .i64 v.mode] 60))
      clear hv hg hb
      cases d2 : decide (v.limbs < 1)
      rotate_left
      · have HN := Lib.hid (varsK_no (k := k + 1) (by rw [HNX.out, if_pos (by unfold varOk; rw [decide_eq_false (p := 1 ≤ v.limbs) (by have := of_decide_eq_true d2; omega)]; rfl)]) (by have := HL.out; omega))
        go_wp2
        go_ret
        exact ⟨ret_bool HN.out.symm, HB2.out⟩
      cases d3 : decide (512 < v.limbs)
      rotate_left
      · have HN := Lib.hid (varsK_no (k := k + 1) (by rw [HNX.out, if_pos (by unfold varOk; rw [decide_eq_false (p := v.limbs ≤ 512) (by have := of_decide_eq_true d3; omega)]; simp)]) (by have := HL.out; omega))
        go_wp2
        go_ret
        exact ⟨ret_bool HN.out.symm, HB2.out⟩
      cases d4 : decide (v.mode < 0)
      rotate_left
      · have HN := Lib.hid (varsK_no (k := k + 1) (by rw [HNX.out, if_pos (by unfold varOk; rw [decide_eq_false (p := 0 ≤ v.mode) (by have := of_decide_eq_true d4; omega)]; simp)]) (by have := HL.out; omega))
        go_wp2
        go_ret
        exact ⟨ret_bool HN.out.symm, HB2.out⟩
      cases d5 : decide (3 < v.mode)
      rotate_left
      · have HN := Lib.hid (varsK_no (k := k + 1) (by rw [HNX.out, if_pos (by unfold varOk; rw [decide_eq_false (p := v.mode ≤ 3) (by have := of_decide_eq_true d5; omega)]; simp)]) (by have := HL.out; omega))
        go_wp2
        go_ret
        exact ⟨ret_bool HN.out.symm, HB2.out⟩
      have hok : varOk v = true := by
        have := of_decide_eq_false d2
        have := of_decide_eq_false d3
        have := of_decide_eq_false d4
        have := of_decide_eq_false d5
        unfold varOk
        rw [decide_eq_true (p := 1 ≤ v.limbs) (by omega), decide_eq_true (p := v.limbs ≤ 512) (by omega), decide_eq_true (p := 0 ≤ v.mode) (by omega), decide_eq_true (p := v.mode ≤ 3) (by omega)]; rfl
      have hnx := HNX.out
      rw [if_neg (by rw [hok]; simp)] at hnx
      have HNX := Lib.hid hnx
      clear hnx hok
      cases d6 : (v.mode == 0)
      rotate_left
      · have HN := Lib.hid (show varTo vs (k + 1) = some m by rw [HNX.out, if_pos (by simpa using d6)])
        go_wp2
        go_roundw
        case rel => exact ⟨k + 1, m, hlt, by go_num, rfl, HN, HB2.out⟩
        case measure => simp [intOf]; omega
      have hnx := HNX.out
      rw [if_neg (by simpa using d6)] at hnx
      have HNX := Lib.hid hnx
      clear hnx
      cases d7 : decide (m < k)
      rotate_left
      · have HN := Lib.hid (varsK_no (k := k + 1) (by rw [HNX.out, if_pos (by left; simpa using d7)]) (by have := HL.out; omega))
        go_wp2
        go_ret
        exact ⟨ret_bool HN.out.symm, HB2.out⟩
      cases d8 : (v.mode == 1)
      · have d9 : (v.mode != 1) = true := by rw [bne, d8]; rfl
        cases hs : v.secret
        · rw [hs] at c1 HNX HB2
          have HN := Lib.hid (varsK_no (k := k + 1) (by rw [HNX.out, if_pos (by right; rw [d8]; decide)]) (by have := HL.out; omega))
          go_wp2
          go_ret
          exact ⟨ret_bool HN.out.symm, HB2.out⟩
        · rw [hs] at c1 HNX HB2
          have HN := Lib.hid (show varTo vs (k + 1) = some (m + 1) by rw [HNX.out, if_neg (by rw [d8]; simpa using d7)])
          go_wp2
          go_roundw
          case rel => exact ⟨k + 1, m + 1, hlt, by go_num, by go_num, HN, HB2.out⟩
          case measure => simp [intOf]; omega
      · have d9 : (v.mode != 1) = false := by rw [bne, d8]; rfl
        cases hs : v.secret
        · rw [hs] at c1 HNX HB2
          have HN := Lib.hid (show varTo vs (k + 1) = some (m + 1) by rw [HNX.out, if_neg (by rw [d8]; simpa using d7)])
          go_wp2
          go_roundw
          case rel => exact ⟨k + 1, m + 1, hlt, by go_num, by go_num, HN, HB2.out⟩
          case measure => simp [intOf]; omega
        · rw [hs] at c1 HNX HB2
          have HN := Lib.hid (varsK_no (k := k + 1) (by rw [HNX.out, if_pos (by right; rw [d8]; decide)]) (by have := HL.out; omega))
          go_wp2
          go_ret
          exact ⟨ret_bool HN.out.symm, HB2.out⟩
    · have d1 : decide (k < n) = false := decide_eq_false hlt
      have e : k = n := by omega
      subst e
      have HX := Lib.hid (show varsK vs = (decide (1 ≤ k) && (decide (k ≤ 256) && decide (m ≤ 12))) by
        have := HT.out
        unfold varsK
        rw [← HL.out, this])
      clear hb
      go_wp2
      all_goals
        go_ret
        refine ⟨ret_bool ?_, HB.out⟩
        rw [HX.out, Bool.eq_iff_iff]
        simp
        omega
end Go.Proofs.YtjbabpnepjhllaaGreat

/- A function's text in parts: what stands in the block of a number. -/
namespace Go.Proofs.YtjbabpnepjhllaaGreat
open Go.RowKit

/-- The block of a number in a text. -/
def findB (n : Nat) : Code → Option Code
  | .block id c => if id = n then some (.block id c) else findB n c
  | .seq a b => match findB n a with
    | some c => some c
    | none => findB n b
  | .cond _ a b => match findB n a with
    | some c => some c
    | none => findB n b
  | .loop c => findB n c
  | .scope c => findB n c
  | .rangeFunc _ _ a b => match findB n a with
    | some c => some c
    | none => findB n b
  | _ => none
/-- What stands in the block of a number. -/
noncomputable def partL (f : Func) (n : Nat) : Code := match f.body.bind (findB n) with | some (.block _ c) => c | _ => .skip
theorem any_next {T : Type} {p : T → Bool} {l : List T} {k : Nat} {x : T} (h : (l.take k).any p = false) (hx : l[k]? = some x) (hp : p x = false) : (l.take (k + 1)).any p = false := by
  rw [List.take_add_one, hx, List.any_append, h]
  simp [hp]
theorem any_whole {T : Type} {p : T → Bool} {l : List T} {k : Nat} (h : (l.take k).any p = false) (hk : l.length ≤ k) : l.any p = false := by rwa [List.take_of_length_le hk] at h
theorem any_here {T : Type} {p : T → Bool} {l : List T} {k : Nat} {x : T} (hx : l[k]? = some x) (hp : p x = true) : l.any p = true := List.any_eq_true.2 ⟨x, List.mem_of_getElem? hx, hp⟩
theorem alls_next {T : Type} {p : T → Bool} {l : List T} {k : Nat} {x : T} (h : (l.take k).all p = true) (hx : l[k]? = some x) (hp : p x = true) : (l.take (k + 1)).all p = true := by
  rw [List.take_add_one, hx, List.all_append, h]
  simp [hp]
theorem alls_whole {T : Type} {p : T → Bool} {l : List T} {k : Nat} (h : (l.take k).all p = true) (hk : l.length ≤ k) : l.all p = true := by rwa [List.take_of_length_le hk] at h
theorem alls_here {T : Type} {p : T → Bool} {l : List T} {k : Nat} {x : T} (hx : l[k]? = some x) (hp : p x = false) : l.all p = false := List.all_eq_false.2 ⟨x, List.mem_of_getElem? hx, by rw [hp]; decide⟩
end Go.Proofs.YtjbabpnepjhllaaGreat

/- lengths.Check: its closures, its loop over what is required. -/
namespace Go.Proofs.YtjbabpnepjhllaaGreat
open Go.RowKit

/-- A kernel in a box. -/
structure KBox (W : World) (b : Nat) (Av : Option Addr) (nv cv : Nat) (Ao : Option Addr) (no co : Nat) (Ar : Option Addr) (nr cr : Nat) (k : Krn) : Prop where
  c0 : W.cell? ⟨b, 0, none⟩ = some (.slice Av nv cv)
  c1 : W.cell? ⟨b, 1, none⟩ = some (.slice Ao no co)
  c2 : W.cell? ⟨b, 2, none⟩ = some (.slice Ar nr cr)
  lt : b < W.heap.size
  vars : KVarsAt W (fun k => k < W.heap.size) (.slice Av nv cv) k.vars
  ops : KOpsAt W (fun k => k < W.heap.size) (.slice Ao no co) k.ops
  reqs : KOpsAt W (fun k => k < W.heap.size) (.slice Ar nr cr) k.reqs
theorem KBox.next {W w' : World} {b : Nat} {Av : Option Addr} {nv cv : Nat} {Ao : Option Addr} {no co : Nat} {Ar : Option Addr} {nr cr : Nat} {k : Krn} (h : KBox W b Av nv cv Ao no co Ar nr cr k) (hb : Below W.heap.size W w') : KBox w' b Av nv cv Ao no co Ar nr cr k :=
  ⟨(hb.cell (p := ⟨b, 0, none⟩) h.lt).trans h.c0, (hb.cell (p := ⟨b, 1, none⟩) h.lt).trans h.c1, (hb.cell (p := ⟨b, 2, none⟩) h.lt).trans h.c2, Nat.lt_of_lt_of_le h.lt hb.size, rows_next h.vars hb, rows_next h.ops hb, rows_next h.reqs hb⟩
theorem KBox.nv {W : World} {b : Nat} {Av : Option Addr} {nv cv : Nat} {Ao : Option Addr} {no co : Nat} {Ar : Option Addr} {nr cr : Nat} {k : Krn} (h : KBox W b Av nv cv Ao no co Ar nr cr k) : nv = k.vars.length ∧ no = k.ops.length ∧ nr = k.reqs.length := ⟨(rows_len h.vars).1, (rows_len h.ops).1, (rows_len h.reqs).1⟩
set_option maxRecDepth 100000 in
set_option maxHeartbeats 4000000 in
/-- out: is a variable an out? -/
theorem chk1_any (x : Int) (vs : List KVar) (A : Option Addr) (n c B : Nat) (w : World) (F : Nat → Prop) (hc : w.cell? ⟨B, 0, none⟩ = some (.slice A n c)) (hv : KVarsAt w F (.slice A n c) vs) (hx : x < (vs.length : Int)) :
    Calls Tryz.prog 60 #[.int .i64 x, .pointer (some ⟨B, 0, none⟩)] w fun e w' => e = .returned (.bool (outK vs x)) ∧ Below w.heap.size w w' := by
  by_cases h0 : 0 ≤ x
  rotate_left
  · have d0 : decide (0 ≤ x) = false := decide_eq_false h0
    have HX := Lib.hid (show outK vs x = false by unfold outK; rw [d0]; rfl)
    go_enter Tryz.func60, Tryz.ntmps60
    go_wp2
    go_ret
    exact ⟨ret_bool HX.out.symm, Below.refl _ _⟩
  have d0 : decide (0 ≤ x) = true := decide_eq_true h0
  obtain ⟨m, hm⟩ : ∃ m : Nat, x = m := ⟨x.toNat, by omega⟩
  obtain ⟨v, hvv⟩ : ∃ v, vs[m]? = some v := ⟨_, List.getElem?_eq_getElem (by omega)⟩
  have hvk : varK vs x = v := by rw [hm]; exact varK_at hvv
  have HX := Lib.hid (show outK vs x = (v.mode == 3) by unfold outK; rw [d0, hvk]; rfl)
  obtain ⟨g, off, rfl, hg, f0, f1, f2⟩ := hv.at_ hvv
  have hn := (rows_len hv).1
  rw [HX.out]
  subst hm
  have i1 : (m : Int) < (n : Int) := by omega
  have i0 : (0 : Int) ≤ (m : Int) := by omega
  clear hvv hvk hv hx HX
  go_enter Tryz.func60, Tryz.ntmps60
  go_wp2
  go_ret
  exact ⟨rfl, Below.refl _ _⟩
set_option maxRecDepth 100000 in
set_option maxHeartbeats 4000000 in
/-- Was a variable not made? -/
theorem chk2_any (x : Int) (made : List Bool) (A : Option Addr) (n c B : Nat) (w : World) (F : Nat → Prop) (hc : w.cell? ⟨B, 0, none⟩ = some (.slice A n c)) (hv : BitsAt w F (.slice A n c) made) (hx : 0 ≤ x ∧ x < (made.length : Int)) :
    Calls Tryz.prog 66 #[.int .i64 x, .pointer (some ⟨B, 0, none⟩)] w fun e w' => e = .returned (.bool (!(made.getD x.toNat false))) ∧ Below w.heap.size w w' := by
  obtain ⟨m, hm⟩ : ∃ m : Nat, x = m := ⟨x.toNat, by omega⟩
  obtain ⟨v, hvv⟩ : ∃ v, made[m]? = some v := ⟨_, List.getElem?_eq_getElem (by omega)⟩
  have hvk : made.getD x.toNat false = v := by rw [hm, Int.toNat_natCast, List.getD_eq_getElem?_getD, hvv]; rfl
  rw [hvk]
  obtain ⟨g, off, rfl, hg, f0⟩ := hv.at_ hvv
  have hn := (rows_len hv).1
  subst hm
  have i1 : (m : Int) < (n : Int) := by omega
  have i0 : (0 : Int) ≤ (m : Int) := by omega
  clear hvv hvk hv hx
  go_enter Tryz.func66, Tryz.ntmps66
  go_wp2
  go_ret
  exact ⟨rfl, Below.refl _ _⟩
theorem need_in {n : Nat} {o : KOp} (h : needK n o = true) : (0 ≤ o.a ∧ o.a < (n : Int)) ∧ ((0 ≤ o.b ∧ o.b < (n : Int)) ∨ o.b = -1) := by
  unfold needK thereK at h
  simp only [Bool.and_eq_true, decide_eq_true_eq] at h
  refine ⟨h.2.2.2.1, ?_⟩
  have h1 := h.2.2.2.2
  split at h1
  · exact .inl (by simpa using h1)
  · split at h1
    · exact .inr (by simpa using h1)
    · cases h1

set_option maxRecDepth 100000 in
set_option maxHeartbeats 8000000 in
theorem chk_l0 {Av Ao Ar : Option Addr} {nv cv no co nr cr b0 : Nat} {k : Krn} (w : World) (Q : Exit → Act → World → Prop) {u0 u4 u5 u6 u7 u8 u9 u10 u11 u12 u13 u14 u15 u16 u17 u18 u19 u20 u21 u22 u23 u24 u25 u26 u27 u28 u29 u30 u34 u35 u36 u37 u38 u39 u40 u41 u42 u43 u44 u45 u46 u47 u48 u49 u50 u51 u52 u53 u54 u55 u56 u57 u58 u59 u60 u61 u62 u63 u64 u65 u66 u67 u68 u69 u70 u71 u72 u73 u74 u75 u76 u77 u78 u79 u80 u81 u82 u83 u84 u85 u86 u87 u88 u89 u90 u91 u92 u93 u94 u95 u96 u97 u98 u99 u100 u101 u102 u103 u104 u105 u106 u107 u108 u109 u110 u111 u112 u113 u114 u115 u116 u117 u118 u119 u120 u121 u122 u123 u124 u125 u126 u127 u128 u129 u130 u131 u132 u133 u134 u135 u136 u137 : Value} (hk : KBox w b0 Av nv cv Ao no co Ar nr cr k) (hok : k.reqs.length ≤ 4096 ∧ k.vars.length ≤ 100000)
    (k1 : k.reqs.all (reqK k.vars) = true → ∀ (v5 v33 v34 v35 v36 v37 v38 v39 v40 v41 v42 v43 v44 v45 v46 v47 v48 v49 v50 v51 v52 v53 v54 v55 v56 v57 v58 v59 : Value) (w' : World), Below w.heap.size w w' → Q ((.exit 0)) ⟨#[u0, .pointer (some ⟨b0, 0, none⟩), .int .i64 0, .func (.func 60) #[] #[.pointer (some ⟨b0, 0, none⟩)], u4, v5, u6, u7, u8, u9, u10, u11, u12, u13, u14, u15, u16, u17, u18, u19, u20, u21, u22, u23, u24, u25, u26, u27, u28, u29, u30, .slice Ar nr cr, .int .i64 (nr : Nat), v33, v34, v35, v36, v37, v38, v39, v40, v41, v42, v43, v44, v45, v46, v47, v48, v49, v50, v51, v52, v53, v54, v55, v56, v57, v58, v59, u60, u61, u62, u63, u64, u65, u66, u67, u68, u69, u70, u71, u72, u73, u74, u75, u76, u77, u78, u79, u80, u81, u82, u83, u84, u85, u86, u87, u88, u89, u90, u91, u92, u93, u94, u95, u96, u97, u98, u99, u100, u101, u102, u103, u104, u105, u106, u107, u108, u109, u110, u111, u112, u113, u114, u115, u116, u117, u118, u119, u120, u121, u122, u123, u124, u125, u126, u127, u128, u129, u130, u131, u132, u133, u134, u135, u136, u137], []⟩ w') (k2 : k.reqs.all (reqK k.vars) = false → ∀ (v5 v33 v34 v35 v36 v37 v38 v39 v40 v41 v42 v43 v44 v45 v46 v47 v48 v49 v50 v51 v52 v53 v54 v55 v56 v57 v58 v59 : Value) (w' : World), Below w.heap.size w w' → Q (.ret) ⟨#[u0, .pointer (some ⟨b0, 0, none⟩), .int .i64 2, .func (.func 60) #[] #[.pointer (some ⟨b0, 0, none⟩)], u4, v5, u6, u7, u8, u9, u10, u11, u12, u13, u14, u15, u16, u17, u18, u19, u20, u21, u22, u23, u24, u25, u26, u27, u28, u29, u30, .slice Ar nr cr, .int .i64 (nr : Nat), v33, v34, v35, v36, v37, v38, v39, v40, v41, v42, v43, v44, v45, v46, v47, v48, v49, v50, v51, v52, v53, v54, v55, v56, v57, v58, v59, u60, u61, u62, u63, u64, u65, u66, u67, u68, u69, u70, u71, u72, u73, u74, u75, u76, u77, u78, u79, u80, u81, u82, u83, u84, u85, u86, u87, u88, u89, u90, u91, u92, u93, u94, u95, u96, u97, u98, u99, u100, u101, u102, u103, u104, u105, u106, u107, u108, u109, u110, u111, u112, u113, u114, u115, u116, u117, u118, u119, u120, u121, u122, u123, u124, u125, u126, u127, u128, u129, u130, u131, u132, u133, u134, u135, u136, u137], []⟩ w') : (partL Tryz.f37 0).wp Tryz.prog Q ⟨#[u0, .pointer (some ⟨b0, 0, none⟩), .int .i64 0, .func (.func 60) #[] #[.pointer (some ⟨b0, 0, none⟩)], u4, u5, u6, u7, u8, u9, u10, u11, u12, u13, u14, u15, u16, u17, u18, u19, u20, u21, u22, u23, u24, u25, u26, u27, u28, u29, u30, .slice Ar nr cr, .int .i64 (nr : Nat), .int .i64 0, u34, u35, u36, u37, u38, u39, u40, u41, u42, u43, u44, u45, u46, u47, u48, u49, u50, u51, u52, u53, u54, u55, u56, u57, u58, u59, u60, u61, u62, u63, u64, u65, u66, u67, u68, u69, u70, u71, u72, u73, u74, u75, u76, u77, u78, u79, u80, u81, u82, u83, u84, u85, u86, u87, u88, u89, u90, u91, u92, u93, u94, u95, u96, u97, u98, u99, u100, u101, u102, u103, u104, u105, u106, u107, u108, u109, u110, u111, u112, u113, u114, u115, u116, u117, u118, u119, u120, u121, u122, u123, u124, u125, u126, u127, u128, u129, u130, u131, u132, u133, u134, u135, u136, u137], []⟩ w := by
  have HK := Lib.hid hk
  have HOK := Lib.hid hok
  have K1 := Lib.hid k1
  have K2 := Lib.hid k2
  have HNR := Lib.hid hk.nv.2.2
  have HNV := Lib.hid hk.nv.1
  have hnr : nr ≤ 100000 := by have := hk.nv.2.2; omega
  clear hk hok k1 k2
  conv => arg 2; whnf
  go_wp2
  go_loopw [2, 5, 33] (fun s2 _ i wr => ∃ j : Nat, j ≤ nr ∧ i = .int .i64 j ∧ s2 = .int .i64 0 ∧ Below w.heap.size w wr ∧ Hid ((k.reqs.take j).all (reqK k.vars) = true)) (fun _ _ i _ => nr - (intOf i).toNat)
  case atStart => exact ⟨0, by omega, rfl, rfl, Below.refl _ _, Lib.hid rfl⟩
  case round =>
    obtain ⟨j, hj, rfl, rfl, hb, HT⟩ := hrel
    have HB := Lib.hid hb
    have HKR := Lib.hid (HK.out.next hb)
    by_cases hlt : j < nr
    · have d1 : decide (j < nr) = true := decide_eq_true hlt
      obtain ⟨o, hx⟩ : ∃ o, k.reqs[j]? = some o := ⟨_, List.getElem?_eq_getElem (by have := HNR.out; omega)⟩
      obtain ⟨g, off, hA, hg, x0, x1, x2, x3, x4, x5, x6⟩ := HKR.out.reqs.at_ hx
      subst hA
      have i0 : (0 : Int) ≤ (j : Int) := by omega
      have i1 : (j : Int) < (nr : Int) := by omega
      have HX := Lib.hid hx
      clear hb hg hx
      go_upto_region 7 with (first | go_in)
      obtain ⟨WO, hWO⟩ : ∃ W, W = wr.alloc (.cells #[.int .i64 o.kind, .int .i64 o.d, .int .i64 o.e, .int .i64 o.a, .int .i64 o.b, .int .i64 o.c, .int .u64 o.imm] 43) := ⟨_, rfl⟩
      rw [← hWO]
      have hbo : Below wr.heap.size wr WO := by rw [hWO]; exact (Below.refl _ _).alloc (Nat.le_refl _) _
      have hob : OpBox WO wr.heap.size o := OpBox.of (t := 43) (fr := (0, 0)) (by rw [hWO]; exact heap_alloc_new wr _)
      have hz : WO.heap.size = wr.heap.size + 1 := by rw [hWO]; simp
      have HO := Lib.hid hob
      have HBO := Lib.hid (HB.out.trans (hbo.mono HB.out.size))
      have HKO := Lib.hid (HKR.out.next hbo)
      have HND := Lib.hid (fun w1 => need_any Av nv cv o w1)
      have HZ := Lib.hid hz
      obtain ⟨bo, hbo2⟩ : ∃ b, b = wr.heap.size := ⟨_, rfl⟩
      rw [← hbo2] at HO HZ ⊢
      have y0 := HO.out.kind
      have y1 := HO.out.d
      have y2 := HO.out.e
      have y3 := HO.out.a
      have y4 := HO.out.b
      have y5 := HO.out.c
      have y6 := HO.out.imm
      have p0 := HKO.out.c0
      clear hWO hbo hob hz x0 x1 x2 x3 x4 x5 x6 hbo2
      cases d2 : (o.kind == 17)
      · have d3 : (o.kind != 17) = true := by rw [bne, d2]; rfl
        have HN := Lib.hid (alls_here (p := reqK k.vars) HX.out (by unfold reqK; rw [d2]; rfl))
        go_wp2
        exact K2.out HN.out _ _ _ _ _ _ _ _ _ _ _ _ _ _ _ _ _ _ _ _ _ _ _ _ _ _ _ _ _ HBO.out
      have d3 : (o.kind != 17) = false := by rw [bne, d2]; rfl
      cases d4 : needK nv o
      · have HN := Lib.hid (alls_here (p := reqK k.vars) HX.out (by unfold reqK; rw [d2, ← HNV.out, d4]; rfl))
        rw [d4] at HND
        clear d2 d4
        go_wp2_with (first | ((with_reducible refine (HND.out _).mono ?_); rintro e w1 ⟨rfl, hb1⟩; have HB1 := Lib.hid (HBO.out.trans (hb1.mono HBO.out.size)); clear hb1) | go_in)
        exact K2.out HN.out _ _ _ _ _ _ _ _ _ _ _ _ _ _ _ _ _ _ _ _ _ _ _ _ _ _ _ _ _ HB1.out
      have hin := need_in d4
      have HIN := Lib.hid hin
      rw [d4] at HND
      have HQ := Lib.hid (show reqK k.vars o = (!outK k.vars o.a && !outK k.vars o.b) by unfold reqK; rw [d2, ← HNV.out, d4]; rfl)
      have HC1 := Lib.hid (fun (w1 : World) (h1 : Below WO.heap.size WO w1) => chk1_any o.a k.vars Av nv cv b0 w1 _ (HKO.out.next h1).c0 (HKO.out.next h1).vars (by have := HIN.out.1; have := HNV.out; omega))
      have HC2 := Lib.hid (fun (w1 : World) (h1 : Below WO.heap.size WO w1) => chk1_any o.b k.vars Av nv cv b0 w1 _ (HKO.out.next h1).c0 (HKO.out.next h1).vars (by have := HIN.out.2; have := HIN.out.1; have := HNV.out; omega))
      clear d2 d4 hin
      generalize hqa : outK k.vars o.a = qa at HC1 HQ
      generalize hqb : outK k.vars o.b = qb at HC2 HQ
      clear hqa hqb
      cases qa
      · cases qb
        · have HN := Lib.hid (alls_next HT.out HX.out HQ.out)
          go_wp2_with (first
            | ((with_reducible refine (HND.out _).mono ?_); rintro e w1 ⟨rfl, hb1⟩; have HB1 := Lib.hid hb1; have y3 := (hb1.cell (p := ⟨bo, 3, none⟩) (by have := HZ.out; simp only; omega)).trans HO.out.a; clear hb1)
            | ((with_reducible refine (HC1.out w1 HB1.out).mono ?_); rintro e w2 ⟨rfl, hb2⟩; have HB2 := Lib.hid (HB1.out.trans (hb2.mono HB1.out.size)); have y4 := (HB2.out.cell (p := ⟨bo, 4, none⟩) (by have := HZ.out; simp only; omega)).trans HO.out.b; clear hb2)
            | ((with_reducible refine (HC2.out w2 HB2.out).mono ?_); rintro e w3 ⟨rfl, hb3⟩)
            | go_in)
          go_roundw
          case rel => exact ⟨j + 1, hlt, by go_num, rfl, HBO.out.trans ((HB2.out.trans (hb3.mono HB2.out.size)).mono HBO.out.size), HN⟩
          case measure => simp [intOf]; omega
        · have HN := Lib.hid (alls_here (p := reqK k.vars) HX.out HQ.out)
          go_wp2_with (first
            | ((with_reducible refine (HND.out _).mono ?_); rintro e w1 ⟨rfl, hb1⟩; have HB1 := Lib.hid hb1; have y3 := (hb1.cell (p := ⟨bo, 3, none⟩) (by have := HZ.out; simp only; omega)).trans HO.out.a; clear hb1)
            | ((with_reducible refine (HC1.out w1 HB1.out).mono ?_); rintro e w2 ⟨rfl, hb2⟩; have HB2 := Lib.hid (HB1.out.trans (hb2.mono HB1.out.size)); have y4 := (HB2.out.cell (p := ⟨bo, 4, none⟩) (by have := HZ.out; simp only; omega)).trans HO.out.b; clear hb2)
            | ((with_reducible refine (HC2.out w2 HB2.out).mono ?_); rintro e w3 ⟨rfl, hb3⟩)
            | go_in)
          exact K2.out HN.out _ _ _ _ _ _ _ _ _ _ _ _ _ _ _ _ _ _ _ _ _ _ _ _ _ _ _ _ _ (HBO.out.trans ((HB2.out.trans (hb3.mono HB2.out.size)).mono HBO.out.size))
      · have HN := Lib.hid (alls_here (p := reqK k.vars) HX.out HQ.out)
        go_wp2_with (first
          | ((with_reducible refine (HND.out _).mono ?_); rintro e w1 ⟨rfl, hb1⟩; have HB1 := Lib.hid hb1; have y3 := (hb1.cell (p := ⟨bo, 3, none⟩) (by have := HZ.out; simp only; omega)).trans HO.out.a; clear hb1)
          | ((with_reducible refine (HC1.out w1 HB1.out).mono ?_); rintro e w2 ⟨rfl, hb2⟩; have HB2 := Lib.hid (HB1.out.trans (hb2.mono HB1.out.size)); have y4 := (HB2.out.cell (p := ⟨bo, 4, none⟩) (by have := HZ.out; simp only; omega)).trans HO.out.b; clear hb2)
          | ((with_reducible refine (HC2.out w2 HB2.out).mono ?_); rintro e w3 ⟨rfl, hb3⟩)
          | go_in)
        exact K2.out HN.out _ _ _ _ _ _ _ _ _ _ _ _ _ _ _ _ _ _ _ _ _ _ _ _ _ _ _ _ _ (HBO.out.trans (HB2.out.mono HBO.out.size))
    · have d1 : decide (j < nr) = false := decide_eq_false hlt
      have HN := Lib.hid (alls_whole HT.out (by have := HNR.out; omega))
      clear hb
      go_wp2
      exact K1.out HN.out _ _ _ _ _ _ _ _ _ _ _ _ _ _ _ _ _ _ _ _ _ _ _ _ _ _ _ _ _ HB.out
end Go.Proofs.YtjbabpnepjhllaaGreat

/- lengths.Check: what was made. -/
namespace Go.Proofs.YtjbabpnepjhllaaGreat
open Go.RowKit

/-- What was made, in memory. -/
structure MadeAt (w0 w : World) (bm gm n : Nat) (made : List Bool) : Prop where
  below : Below w0.heap.size w0 w
  box : w.heap[bm]? = some (.cells #[.slice (some ⟨gm, 0, none⟩) n n] 38 (0, 0))
  row : w.ownsRow w0.heap.size 4 1 (.slice (some ⟨gm, 0, none⟩) n n) n (made.map Value.bool)
  ne : bm ≠ gm
  ge : w0.heap.size ≤ bm
theorem MadeAt.len {w0 w : World} {bm gm n : Nat} {made : List Bool} (h : MadeAt w0 w bm gm n made) : made.length = n := by have := h.row.1; simpa using this
theorem MadeAt.next {w0 w w' : World} {bm gm n : Nat} {made : List Bool} (h : MadeAt w0 w bm gm n made) (hb : Below w.heap.size w w') : MadeAt w0 w' bm gm n made :=
  ⟨h.below.trans (hb.mono h.below.size), (hb.block bm (lt_of_block h.box)).trans h.box, own_next h.row hb, h.ne, h.ge⟩
theorem MadeAt.set {w0 w : World} {bm gm n : Nat} {made : List Bool} (h : MadeAt w0 w bm gm n made) (k : Nat) (b : Bool) : MadeAt w0 (w.setCell ⟨gm, k, none⟩ (.bool b)) bm gm n (made.set k b) := by
  have hg := (own_lt h.row gm rfl)
  refine ⟨⟨h.below.os, h.below.tape, h.below.output, by simpa using h.below.size, fun j hj => (Below.heap_setCell _ _ _ j (fun e => ?_)).trans (h.below.block j hj)⟩, (Below.heap_setCell _ _ _ bm (fun e => h.ne e)).trans h.box, ?_, h.ne, h.ge⟩
  · simp only at e; omega
  · rw [List.map_set]; exact own_set h.row k (.bool b)
theorem MadeAt.cell {w0 w : World} {bm gm n : Nat} {made : List Bool} (h : MadeAt w0 w bm gm n made) : w.cell? ⟨bm, 0, none⟩ = some (.slice (some ⟨gm, 0, none⟩) n n) := by simp [World.cell?, h.box]
theorem MadeAt.at_ {w0 w : World} {bm gm n : Nat} {made : List Bool} (h : MadeAt w0 w bm gm n made) {k : Nat} {b : Bool} (hk : made[k]? = some b) : w.cell? ⟨gm, k, none⟩ = some (.bool b) := own_cell h.row (by rw [List.getElem?_map, hk]; rfl)
theorem MadeAt.frozen {w0 w : World} {bm gm n : Nat} {made : List Bool} (h : MadeAt w0 w bm gm n made) (k : Nat) : w.frozen? ⟨gm, k, none⟩ = false := own_frozen h.row k
theorem MadeAt.lt {w0 w : World} {bm gm n : Nat} {made : List Bool} (h : MadeAt w0 w bm gm n made) : bm < w.heap.size ∧ gm < w.heap.size := ⟨lt_of_block h.box, (own_lt h.row gm rfl).1⟩
theorem bits_own {w : World} {base g n c : Nat} {made : List Bool} (h : w.ownsRow base 4 1 (.slice (some ⟨g, 0, none⟩) n c) n (made.map Value.bool)) : BitsAt w (fun k => k = g) (.slice (some ⟨g, 0, none⟩) n c) made := by
  have hl : made.length = n := by have := h.1; simpa using this
  have hnc : n ≤ c := by obtain ⟨_, _, _, _, h, _⟩ := own_blk h; exact h
  refine ⟨some ⟨g, 0, none⟩, c, by rw [List.length_map, hl], by rw [List.length_map, hl]; exact hnc, fun r hr => by obtain ⟨x, _, rfl⟩ := List.mem_map.1 hr; rfl, fun _ => ⟨g, 0, rfl, rfl, fun i j r u hr hu => ?_⟩⟩
  rw [List.getElem?_map] at hr
  obtain ⟨x, hx, rfl⟩ := Option.map_eq_some_iff.1 hr
  match j, hu with
  | 0, hu => cases hu; rw [Nat.zero_add, Nat.mul_one, Nat.add_zero]; exact own_cell h (by rw [List.getElem?_map, hx]; rfl)
  | j + 1, hu => cases hu
def madeTo (vs : List KVar) (j : Nat) : List Bool := (vs.take j).map givenK ++ List.replicate (vs.length - j) false
theorem madeTo_next {vs : List KVar} {j : Nat} {v : KVar} (h : vs[j]? = some v) : (madeTo vs j).set j (givenK v) = madeTo vs (j + 1) := by
  have hj : j < vs.length := (List.getElem?_eq_some_iff.1 h).1
  unfold madeTo
  rw [List.set_append, if_neg (by rw [List.length_map, List.length_take]; omega), List.take_add_one, h, List.map_append, List.append_assoc]
  congr 1
  rw [List.length_map, List.length_take, show j - min j vs.length = 0 by omega, show vs.length - j = (vs.length - (j + 1)) + 1 by omega, List.replicate_succ]
  rfl

set_option maxRecDepth 100000 in
set_option maxHeartbeats 8000000 in
theorem chk_l2 {Av Ao Ar : Option Addr} {nv cv no co nr cr b0 bm gm : Nat} {k : Krn} {w0 : World} (w : World) (Q : Exit → Act → World → Prop) {u0 u2 u3 u4 u5 u7 u8 u9 u10 u11 u12 u13 u14 u15 u16 u17 u18 u19 u20 u21 u22 u23 u24 u25 u26 u27 u28 u29 u30 u31 u32 u33 u34 u35 u36 u37 u38 u39 u40 u41 u42 u43 u44 u45 u46 u47 u48 u49 u50 u51 u52 u53 u54 u55 u56 u57 u58 u59 u60 u61 u62 u63 u64 u68 u69 u70 u71 u72 u73 u74 u75 u76 u77 u78 u79 u80 u81 u82 u83 u84 u85 u86 u87 u88 u89 u90 u91 u92 u93 u94 u95 u96 u97 u98 u99 u100 u101 u102 u103 u104 u105 u106 u107 u108 u109 u110 u111 u112 u113 u114 u115 u116 u117 u118 u119 u120 u121 u122 u123 u124 u125 u126 u127 u128 u129 u130 u131 u132 u133 u134 u135 u136 u137 : Value} (hk : KBox w0 b0 Av nv cv Ao no co Ar nr cr k) (hm : MadeAt w0 w bm gm nv (madeTo k.vars 0)) (hok : k.vars.length ≤ 100000)
    (k1 : ∀ (v7 v8 v67 v68 v69 v70 v71 v72 v73 v74 v75 v76 v77 : Value) (w' : World), MadeAt w0 w' bm gm nv (k.vars.map givenK) → Q ((.exit 2)) ⟨#[u0, .pointer (some ⟨b0, 0, none⟩), u2, u3, u4, u5, .pointer (some ⟨bm, 0, none⟩), v7, v8, u9, u10, u11, u12, u13, u14, u15, u16, u17, u18, u19, u20, u21, u22, u23, u24, u25, u26, u27, u28, u29, u30, u31, u32, u33, u34, u35, u36, u37, u38, u39, u40, u41, u42, u43, u44, u45, u46, u47, u48, u49, u50, u51, u52, u53, u54, u55, u56, u57, u58, u59, u60, u61, u62, u63, u64, .slice Av nv cv, .int .i64 (nv : Nat), v67, v68, v69, v70, v71, v72, v73, v74, v75, v76, v77, u78, u79, u80, u81, u82, u83, u84, u85, u86, u87, u88, u89, u90, u91, u92, u93, u94, u95, u96, u97, u98, u99, u100, u101, u102, u103, u104, u105, u106, u107, u108, u109, u110, u111, u112, u113, u114, u115, u116, u117, u118, u119, u120, u121, u122, u123, u124, u125, u126, u127, u128, u129, u130, u131, u132, u133, u134, u135, u136, u137], []⟩ w') : (partL Tryz.f37 2).wp Tryz.prog Q ⟨#[u0, .pointer (some ⟨b0, 0, none⟩), u2, u3, u4, u5, .pointer (some ⟨bm, 0, none⟩), u7, u8, u9, u10, u11, u12, u13, u14, u15, u16, u17, u18, u19, u20, u21, u22, u23, u24, u25, u26, u27, u28, u29, u30, u31, u32, u33, u34, u35, u36, u37, u38, u39, u40, u41, u42, u43, u44, u45, u46, u47, u48, u49, u50, u51, u52, u53, u54, u55, u56, u57, u58, u59, u60, u61, u62, u63, u64, .slice Av nv cv, .int .i64 (nv : Nat), .int .i64 0, u68, u69, u70, u71, u72, u73, u74, u75, u76, u77, u78, u79, u80, u81, u82, u83, u84, u85, u86, u87, u88, u89, u90, u91, u92, u93, u94, u95, u96, u97, u98, u99, u100, u101, u102, u103, u104, u105, u106, u107, u108, u109, u110, u111, u112, u113, u114, u115, u116, u117, u118, u119, u120, u121, u122, u123, u124, u125, u126, u127, u128, u129, u130, u131, u132, u133, u134, u135, u136, u137], []⟩ w := by
  have HK := Lib.hid hk
  have HM := Lib.hid hm
  have K1 := Lib.hid k1
  have HNV := Lib.hid hk.nv.1
  have n5 : nv ≤ 100000 := by have := hk.nv.1; omega
  clear hk hok k1 hm
  conv => arg 2; whnf
  go_wp2
  go_loopw [7, 8, 67] (fun _ _ i wr => ∃ j : Nat, j ≤ nv ∧ i = .int .i64 j ∧ MadeAt w0 wr bm gm nv (madeTo k.vars j)) (fun _ _ i _ => nv - (intOf i).toNat)
  case atStart => exact ⟨0, by omega, rfl, HM.out⟩
  case round =>
    obtain ⟨j, hj, rfl, hm⟩ := hrel
    have HMR := Lib.hid hm
    by_cases hlt : j < nv
    · have d1 : decide (j < nv) = true := decide_eq_true hlt
      obtain ⟨v, hx⟩ : ∃ v, k.vars[j]? = some v := ⟨_, List.getElem?_eq_getElem (by have := HNV.out; omega)⟩
      have HNX := Lib.hid (madeTo_next hx)
      obtain ⟨g, off, hA, hg, x0, x1, x2⟩ := (HK.out.next hm.below).vars.at_ hx
      subst hA
      have i0 : (0 : Int) ≤ (j : Int) := by omega
      have i1 : (j : Int) < (nv : Int) := by omega
      have i2 : IntKind.i64.wrap (j : Int) = j := by rw [IntKind.wrap_i64]; omega
      have hjm : ∃ b, (madeTo k.vars j)[j]? = some b := ⟨_, List.getElem?_eq_getElem (by rw [hm.len]; exact hlt)⟩
      obtain ⟨b, hb⟩ := hjm
      have HBJ := Lib.hid hb
      clear hm hg hx hb
      go_upto_region 14 with (first | go_in)
      obtain ⟨WV, hWV⟩ : ∃ W, W = wr.alloc (.cells #[.int .i64 v.limbs, .bool v.secret, .int .i64 v.mode] 60) := ⟨_, rfl⟩
      rw [← hWV]
      have hbv : Below wr.heap.size wr WV := by rw [hWV]; exact (Below.refl _ _).alloc (Nat.le_refl _) _
      have hcv : ∀ (i : Nat) (u : Value), #[Value.int .i64 v.limbs, .bool v.secret, .int .i64 v.mode][i]? = some u → WV.cell? ⟨wr.heap.size, i, none⟩ = some u := fun i u h => by rw [hWV]; exact cell_new wr _ _ h
      have hz : WV.heap.size = wr.heap.size + 1 := by rw [hWV]; simp
      have HMV := Lib.hid (HMR.out.next hbv)
      obtain ⟨q, hq⟩ : ∃ q, q = wr.heap.size := ⟨_, rfl⟩
      rw [← hq] at hcv hz ⊢
      have HFA := Lib.hid (show ∀ w_, Below WV.heap.size WV w_ → w_.cell? ⟨bm, 0, none⟩ = some (.slice (some ⟨gm, 0, none⟩) nv nv) ∧ w_.cell? ⟨q, 0, none⟩ = some (.int .i64 v.limbs) ∧ w_.cell? ⟨q, 1, none⟩ = some (.bool v.secret) ∧ w_.cell? ⟨q, 2, none⟩ = some (.int .i64 v.mode) from fun w_ h =>
        ⟨(HMV.out.next h).cell, (h.cell (p := ⟨q, 0, none⟩) (show q < WV.heap.size by omega)).trans (hcv 0 _ rfl), (h.cell (p := ⟨q, 1, none⟩) (show q < WV.heap.size by omega)).trans (hcv 1 _ rfl), (h.cell (p := ⟨q, 2, none⟩) (show q < WV.heap.size by omega)).trans (hcv 2 _ rfl)⟩)
      have HGV := Lib.hid (fun w1 => given_any v w1)
      clear hWV hbv hcv hz hq x0 x1 x2
      have hS := (Below.refl WV.heap.size WV).drew
      (refine wp_region_lines (Below WV.heap.size WV) (by kernel_rfl) (by kernel_rfl) (Below.refl WV.heap.size WV).drew ?_)
      (try simp only [])
      repeat (first | (refine runL_no (by rfl) ?_; (try simp only [Act.put, List.setIfInBounds_toArray, List.set_cons_zero, List.set_cons_succ])) | (refine runL_val (v := ?_) (by rfl) ?_ ?_; rotate_left; (focus (intro w_ hw_; obtain ⟨f0_, f1_, f2_, f3_⟩ := HFA.out w_ hw_; go_simp; (try with_reducible rfl); done)); (try simp only [Act.put, List.setIfInBounds_toArray, List.set_cons_zero, List.set_cons_succ])) | (refine runL_call (f := ?_) (args := ?_) (w1 := ?_) (by rfl) (by rfl) ?_ ?_; rotate_left 3; (focus (go_simp; refine ⟨⟨?_, ?_⟩, ?_⟩ <;> with_reducible rfl)); (with_reducible refine (HGV.out _).mono ?_); rintro e w1 ⟨rfl, hb1⟩; replace hS := hS.trans (hb1.mono hS.size); clear hb1; have HM1 := Lib.hid (HMV.out.next hS); refine ⟨_, rfl, .inr hS, ?_⟩; (try simp only [Act.put, List.setIfInBounds_toArray, List.set_cons_zero, List.set_cons_succ])) | (refine runL_skip (w1 := w1.setCell ⟨gm, j, none⟩ (.bool (givenK v))) (by rfl) (by rfl) (exec_store1 4 _ _ rfl gm j _ rfl rfl (by kernel_rfl) (by rw [HM1.out.at_ HBJ.out]; rfl) (HM1.out.frozen j) rfl) (.inl ⟨rfl, by kernel_rfl⟩) ?_; (try simp only [Act.put])))
      (refine runL_nil ?_)
      have HM2 := Lib.hid (HM1.out.set j (givenK v))
      clear hS
      go_wp2
      go_roundw
      case rel => exact ⟨j + 1, hlt, by go_num, by rw [← HNX.out]; exact HM2.out⟩
      case measure => simp [intOf]; omega
    · have d1 : decide (j < nv) = false := decide_eq_false hlt
      have e : j = nv := by omega
      subst e
      have HE := Lib.hid (show madeTo k.vars j = k.vars.map givenK by unfold madeTo; rw [HNV.out, List.take_length, Nat.sub_self]; simp)
      clear hm
      go_wp2
      exact K1.out _ _ _ _ _ _ _ _ _ _ _ _ _ _ (by rw [← HE.out]; exact HMR.out)


theorem opTo_next' {vs : List KVar} {ops : List KOp} {j : Nat} {o : KOp} {s : List Bool × Int} (h : opTo vs ops j = some s) (ho : ops[j]? = some o) : opTo vs ops (j + 1) = opStep vs o s := by
  show (match opTo vs ops j, ops[j]? with | some s, some o => opStep vs o s | _, _ => none) = _
  rw [h, ho]
theorem opTo_none {vs : List KVar} {ops : List KOp} {j : Nat} (h : opTo vs ops j = none) : ∀ m, j ≤ m → opTo vs ops m = none := by
  intro m hm
  obtain ⟨d, rfl⟩ : ∃ d, m = j + d := ⟨m - j, by omega⟩
  induction d with
  | zero => exact h
  | succ d ih =>
    have := ih (by omega)
    show (match opTo vs ops (j + d), ops[j + d]? with | some s, some o => opStep vs o s | _, _ => none) = none
    rw [this]
theorem takes_ok {vs : List KVar} {o : KOp} (h : oneK vs o = true) : ∀ v ∈ takesK o, 0 ≤ v ∧ v < (vs.length : Int) := by
  by_cases h17 : o.kind = 17
  · have hn : needK vs.length o = true := by unfold oneK at h; rwa [if_pos h17] at h
    have h1 := need_in hn
    have hc : o.c = -1 := by
      unfold needK at hn
      simp only [Bool.and_eq_true, beq_iff_eq] at hn
      exact hn.2.2.1
    intro v hv
    unfold takesK at hv
    rw [if_neg (by omega), List.append_nil] at hv
    obtain ⟨h2, h3⟩ := List.mem_filter.1 hv
    simp only [decide_eq_true_eq] at h3
    simp only [List.mem_cons, List.not_mem_nil, or_false] at h2
    rcases h2 with rfl | rfl | rfl
    · exact h1.1
    · omega
    · omega
  · have hp : partsK vs.length o = true := by
      unfold oneK at h
      rw [if_neg h17] at h
      simp only [Bool.and_eq_true] at h
      exact h.2.2.2.1
    exact takes_in hp

set_option maxRecDepth 100000 in
set_option maxHeartbeats 8000000 in
theorem chk_l4 {Av Ao Ar : Option Addr} {nv cv no co nr cr b0 bm gm : Nat} {k : Krn} {w0 : World} (w : World) (Q : Exit → Act → World → Prop) {u0 u3 u4 u5 u7 u8 u10 u11 u12 u13 u14 u15 u16 u17 u18 u19 u20 u21 u22 u23 u24 u25 u26 u27 u28 u29 u30 u31 u32 u33 u34 u35 u36 u37 u38 u39 u40 u41 u42 u43 u44 u45 u46 u47 u48 u49 u50 u51 u52 u53 u54 u55 u56 u57 u58 u59 u60 u61 u62 u63 u64 u65 u66 u67 u68 u69 u70 u71 u72 u73 u74 u75 u76 u77 u78 u82 u83 u84 u85 u86 u87 u88 u89 u90 u91 u92 u93 u94 u95 u96 u97 u98 u99 u100 u101 u102 u103 u104 u105 u106 u107 u108 u109 u110 u111 u112 u113 u114 u115 u116 u117 u118 u119 u120 u121 u122 u123 u124 u125 u126 u127 u128 u129 u130 u131 u132 u133 u134 u135 u136 u137 : Value} (hk : KBox w0 b0 Av nv cv Ao no co Ar nr cr k) (hm : MadeAt w0 w bm gm nv (k.vars.map givenK)) (hok : k.vars.length ≤ 100000 ∧ k.ops.length ≤ 4096) (hko : ∀ o ∈ k.ops, KOpOk o)
    (k1 : ∀ (made : List Bool) (d : Int) (v11 v81 v82 v83 v84 v85 v86 v87 v88 v89 v90 v91 v92 v93 v94 v95 v96 v97 v98 v99 v100 v101 v102 v103 v104 v105 v106 v107 v108 v109 v110 v111 v112 v113 v114 v115 v116 v117 v118 v119 : Value) (w' : World), (opTo k.vars k.ops k.ops.length = some (made, d) ∧ MadeAt w0 w' bm gm nv made) → Q ((.exit 4)) ⟨#[u0, .pointer (some ⟨b0, 0, none⟩), .int .i64 0, u3, u4, u5, .pointer (some ⟨bm, 0, none⟩), u7, u8, .int .i64 d, u10, v11, u12, u13, u14, u15, u16, u17, u18, u19, u20, u21, u22, u23, u24, u25, u26, u27, u28, u29, u30, u31, u32, u33, u34, u35, u36, u37, u38, u39, u40, u41, u42, u43, u44, u45, u46, u47, u48, u49, u50, u51, u52, u53, u54, u55, u56, u57, u58, u59, u60, u61, u62, u63, u64, u65, u66, u67, u68, u69, u70, u71, u72, u73, u74, u75, u76, u77, u78, .slice Ao no co, .int .i64 (no : Nat), v81, v82, v83, v84, v85, v86, v87, v88, v89, v90, v91, v92, v93, v94, v95, v96, v97, v98, v99, v100, v101, v102, v103, v104, v105, v106, v107, v108, v109, v110, v111, v112, v113, v114, v115, v116, v117, v118, v119, u120, u121, u122, u123, u124, u125, u126, u127, u128, u129, u130, u131, u132, u133, u134, u135, u136, u137], []⟩ w') (k2 : opTo k.vars k.ops k.ops.length = none → ∀ (v9 v11 v81 v82 v83 v84 v85 v86 v87 v88 v89 v90 v91 v92 v93 v94 v95 v96 v97 v98 v99 v100 v101 v102 v103 v104 v105 v106 v107 v108 v109 v110 v111 v112 v113 v114 v115 v116 v117 v118 v119 : Value) (w' : World), Below w0.heap.size w0 w' → Q (.ret) ⟨#[u0, .pointer (some ⟨b0, 0, none⟩), .int .i64 2, u3, u4, u5, .pointer (some ⟨bm, 0, none⟩), u7, u8, v9, u10, v11, u12, u13, u14, u15, u16, u17, u18, u19, u20, u21, u22, u23, u24, u25, u26, u27, u28, u29, u30, u31, u32, u33, u34, u35, u36, u37, u38, u39, u40, u41, u42, u43, u44, u45, u46, u47, u48, u49, u50, u51, u52, u53, u54, u55, u56, u57, u58, u59, u60, u61, u62, u63, u64, u65, u66, u67, u68, u69, u70, u71, u72, u73, u74, u75, u76, u77, u78, .slice Ao no co, .int .i64 (no : Nat), v81, v82, v83, v84, v85, v86, v87, v88, v89, v90, v91, v92, v93, v94, v95, v96, v97, v98, v99, v100, v101, v102, v103, v104, v105, v106, v107, v108, v109, v110, v111, v112, v113, v114, v115, v116, v117, v118, v119, u120, u121, u122, u123, u124, u125, u126, u127, u128, u129, u130, u131, u132, u133, u134, u135, u136, u137], []⟩ w') : (partL Tryz.f37 4).wp Tryz.prog Q ⟨#[u0, .pointer (some ⟨b0, 0, none⟩), .int .i64 0, u3, u4, u5, .pointer (some ⟨bm, 0, none⟩), u7, u8, .int .i64 0, u10, u11, u12, u13, u14, u15, u16, u17, u18, u19, u20, u21, u22, u23, u24, u25, u26, u27, u28, u29, u30, u31, u32, u33, u34, u35, u36, u37, u38, u39, u40, u41, u42, u43, u44, u45, u46, u47, u48, u49, u50, u51, u52, u53, u54, u55, u56, u57, u58, u59, u60, u61, u62, u63, u64, u65, u66, u67, u68, u69, u70, u71, u72, u73, u74, u75, u76, u77, u78, .slice Ao no co, .int .i64 (no : Nat), .int .i64 0, u82, u83, u84, u85, u86, u87, u88, u89, u90, u91, u92, u93, u94, u95, u96, u97, u98, u99, u100, u101, u102, u103, u104, u105, u106, u107, u108, u109, u110, u111, u112, u113, u114, u115, u116, u117, u118, u119, u120, u121, u122, u123, u124, u125, u126, u127, u128, u129, u130, u131, u132, u133, u134, u135, u136, u137], []⟩ w := by
  have HK := Lib.hid hk
  have HM := Lib.hid hm
  have K1 := Lib.hid k1
  have K2 := Lib.hid k2
  have HNV := Lib.hid hk.nv.1
  have HNO2 := Lib.hid hk.nv.2.1
  have HKO2 := Lib.hid hko
  have n5 : nv ≤ 100000 := by have := hk.nv.1; omega
  have n6 : no ≤ 4096 := by have := hk.nv.2.1; omega
  have hv5 := hok.1
  clear hk hok k1 k2 hm hko
  conv => arg 2; whnf
  go_wp2
  go_loopw [2, 9, 11, 81] (fun s2 s9 _ i wr => ∃ (j : Nat) (made : List Bool) (d : Int), j ≤ no ∧ i = .int .i64 j ∧ s9 = .int .i64 d ∧ s2 = .int .i64 0 ∧ Hid (opTo k.vars k.ops j = some (made, d)) ∧ MadeAt w0 wr bm gm nv made ∧ (0 ≤ d ∧ d ≤ 4)) (fun _ _ _ i _ => no - (intOf i).toNat)
  case atStart => exact ⟨0, _, 0, by omega, rfl, rfl, rfl, Lib.hid rfl, HM.out, by omega⟩
  case round =>
    obtain ⟨j, made, d, hj, rfl, rfl, rfl, HT, hm, hd⟩ := hrel
    have HMR := Lib.hid hm
    by_cases hlt : j < no
    · have d1 : decide (j < no) = true := decide_eq_true hlt
      obtain ⟨o, hx⟩ : ∃ v, k.ops[j]? = some v := ⟨_, List.getElem?_eq_getElem (by have := HNO2.out; omega)⟩
      have HNX := Lib.hid (opTo_next' HT.out hx)
      have HNO := Lib.hid (show opTo k.vars k.ops (j + 1) = none → opTo k.vars k.ops k.ops.length = none from fun h => opTo_none h _ (by have := HNO2.out; omega))
      have HKOP := Lib.hid (HKO2.out o (List.mem_of_getElem? hx))
      obtain ⟨g, off, hA, hg, x0, x1, x2, x3, x4, x5, x6⟩ := (HK.out.next hm.below).ops.at_ hx
      subst hA
      have i0 : (0 : Int) ≤ (j : Int) := by omega
      have i1 : (j : Int) < (no : Int) := by omega
      clear hm hg hx
      go_upto_region 20 with (first | go_in)
      obtain ⟨WO, hWO⟩ : ∃ W, W = wr.alloc (.cells #[.int .i64 o.kind, .int .i64 o.d, .int .i64 o.e, .int .i64 o.a, .int .i64 o.b, .int .i64 o.c, .int .u64 o.imm] 43) := ⟨_, rfl⟩
      rw [← hWO]
      have hbo : Below wr.heap.size wr WO := by rw [hWO]; exact (Below.refl _ _).alloc (Nat.le_refl _) _
      have hob : OpBox WO wr.heap.size o := OpBox.of (t := 43) (fr := (0, 0)) (by rw [hWO]; exact heap_alloc_new wr _)
      have hz : WO.heap.size = wr.heap.size + 1 := by rw [hWO]; simp
      have HO := Lib.hid hob
      have HMO := Lib.hid (HMR.out.next hbo)
      have HKO := Lib.hid (HK.out.next HMO.out.below)
      have HZ := Lib.hid (show wr.heap.size < WO.heap.size by omega)
      obtain ⟨bo, hbo2⟩ : ∃ b, b = wr.heap.size := ⟨_, rfl⟩
      rw [← hbo2] at HO HZ ⊢
      have y0 := HO.out.kind
      have y1 := HO.out.d
      have y2 := HO.out.e
      have y3 := HO.out.a
      have y4 := HO.out.b
      have y5 := HO.out.c
      have y6 := HO.out.imm
      have p0 := HKO.out.c0
      clear hWO hbo hob hz x0 x1 x2 x3 x4 x5 x6 hbo2
      have HONE := Lib.hid (fun (w1 : World) (h1 : Below WO.heap.size WO w1) => one_any Av nv cv k.vars o w1 _ (HKO.out.next h1).vars (fun k hk => hk) HKOP.out hv5)
      have HTK := Lib.hid (fun w1 => takes_any o w1)
      cases hok : oneK k.vars o
      · have HN := Lib.hid (show opTo k.vars k.ops (j + 1) = none by rw [HNX.out]; unfold opStep; rw [if_pos hok])
        rw [hok] at HONE
        clear hok
        go_upto_region 21 with (first
          | ((with_reducible refine (HONE.out _ (Below.refl _ _)).mono ?_); rintro e w1 ⟨rfl, hb1⟩; have HB1 := Lib.hid hb1; have y0 := (HO.out.next hb1 HZ.out).kind; have y1 := (HO.out.next hb1 HZ.out).d; have y2 := (HO.out.next hb1 HZ.out).e; have y3 := (HO.out.next hb1 HZ.out).a; have y4 := (HO.out.next hb1 HZ.out).b; have y5 := (HO.out.next hb1 HZ.out).c; have y6 := (HO.out.next hb1 HZ.out).imm; clear hb1)
          | ((with_reducible refine (HTK.out _).mono ?_); rintro e w2 ⟨A2, n2, e2, rfl, hn2, hb2⟩; have HN2 := Lib.hid hn2; have HB2 := Lib.hid (HB1.out.trans (hb2.mono HB1.out.size)); clear hn2 hb2)
          | ((with_reducible refine (HCF.out w2 A2 n2 e2 HB2.out HN2.out).mono ?_); rintro e w3 ⟨rfl, hb3⟩; have HB3 := Lib.hid (HB2.out.trans (hb3.mono HB2.out.size)); clear hb3)
          | go_in)
        go_wp2
        exact K2.out (HNO.out HN.out) _ _ _ _ _ _ _ _ _ _ _ _ _ _ _ _ _ _ _ _ _ _ _ _ _ _ _ _ _ _ _ _ _ _ _ _ _ _ _ _ _ _ (HMO.out.next HB1.out).below
      have hti := takes_ok hok
      have HONK := Lib.hid hok
      have HDL := Lib.hid (show o.d < (nv : Int) by
        have h1 := oneK_parts hok
        have h2 := h1.d
        have h3 := HNV.out
        split at h2
        · omega
        · omega)
      rw [hok] at HONE
      have HCF := Lib.hid (fun (w2 : World) (A : Option Addr) (n c : Nat) (h3 : Below WO.heap.size WO w2) (h4 : NumsAt w2 (fun k => k < w2.heap.size) (.slice A n c) (takesK o)) => ContainsFunc_Int (.slice A n c) 66 #[.pointer (some ⟨bm, 0, none⟩)] w2 (fun k => k < w2.heap.size) (takesK o) (fun v => !(made.getD v.toNat false)) (by unfold takesK; rw [List.length_append]; have := List.length_filter_le (fun v : Int => decide (0 ≤ v)) [o.a, o.b, o.c]; split <;> simp at * <;> omega) (enters_of Tryz.func66 (by kernel_rfl) rfl) h4 (fun k hk => hk)
        (fun x hx w4 h5 => chk2_any x made (some ⟨gm, 0, none⟩) nv nv bm w4 _ ((HMO.out.next h3).next h5).cell (bits_own ((HMO.out.next h3).next h5).row) (by have h1 := hti x hx; have h2 := HNV.out; have h3 := HMO.out.len; omega)))
      clear hti hok
      cases hany : ((takesK o).any fun v => !(made.getD v.toNat false))
      rotate_left
      · have HN := Lib.hid (show opTo k.vars k.ops (j + 1) = none by rw [HNX.out]; unfold opStep; rw [if_neg (by rw [HONK.out]; simp), if_pos hany])
        rw [hany] at HCF
        clear hany
        go_upto_region 21 with (first
          | ((with_reducible refine (HONE.out _ (Below.refl _ _)).mono ?_); rintro e w1 ⟨rfl, hb1⟩; have HB1 := Lib.hid hb1; have y0 := (HO.out.next hb1 HZ.out).kind; have y1 := (HO.out.next hb1 HZ.out).d; have y2 := (HO.out.next hb1 HZ.out).e; have y3 := (HO.out.next hb1 HZ.out).a; have y4 := (HO.out.next hb1 HZ.out).b; have y5 := (HO.out.next hb1 HZ.out).c; have y6 := (HO.out.next hb1 HZ.out).imm; clear hb1)
          | ((with_reducible refine (HTK.out _).mono ?_); rintro e w2 ⟨A2, n2, e2, rfl, hn2, hb2⟩; have HN2 := Lib.hid hn2; have HB2 := Lib.hid (HB1.out.trans (hb2.mono HB1.out.size)); clear hn2 hb2)
          | ((with_reducible refine (HCF.out w2 A2 n2 e2 HB2.out HN2.out).mono ?_); rintro e w3 ⟨rfl, hb3⟩; have HB3 := Lib.hid (HB2.out.trans (hb3.mono HB2.out.size)); clear hb3)
          | go_in)
        go_wp2
        exact K2.out (HNO.out HN.out) _ _ _ _ _ _ _ _ _ _ _ _ _ _ _ _ _ _ _ _ _ _ _ _ _ _ _ _ _ _ _ _ _ _ _ _ _ _ _ _ _ _ (HMO.out.next HB3.out).below
      have HANY := Lib.hid hany
      rw [hany] at HCF
      clear hany
      go_upto_region 22 with (first
        | ((with_reducible refine (HONE.out _ (Below.refl _ _)).mono ?_); rintro e w1 ⟨rfl, hb1⟩; have HB1 := Lib.hid hb1; have y0 := (HO.out.next hb1 HZ.out).kind; have y1 := (HO.out.next hb1 HZ.out).d; have y2 := (HO.out.next hb1 HZ.out).e; have y3 := (HO.out.next hb1 HZ.out).a; have y4 := (HO.out.next hb1 HZ.out).b; have y5 := (HO.out.next hb1 HZ.out).c; have y6 := (HO.out.next hb1 HZ.out).imm; clear hb1)
        | ((with_reducible refine (HTK.out _).mono ?_); rintro e w2 ⟨A2, n2, e2, rfl, hn2, hb2⟩; have HN2 := Lib.hid hn2; have HB2 := Lib.hid (HB1.out.trans (hb2.mono HB1.out.size)); clear hn2 hb2)
        | ((with_reducible refine (HCF.out w2 A2 n2 e2 HB2.out HN2.out).mono ?_); rintro e w3 ⟨rfl, hb3⟩; have HB3 := Lib.hid (HB2.out.trans (hb3.mono HB2.out.size)); clear hb3)
        | go_in)
      have HMW := Lib.hid (HMO.out.next HB3.out)
      have HOW := Lib.hid (HO.out.next HB3.out HZ.out)
      clear y0 y1 y2 y3 y4 y5 y6 p0
      have y0 := (HOW.out).kind
      have y1 := (HOW.out).d
      have y2 := (HOW.out).e
      have y3 := (HOW.out).a
      have y4 := (HOW.out).b
      have y5 := (HOW.out).c
      have y6 := (HOW.out).imm
      by_cases h15 : o.kind = 15
      · have e15 : (o.kind == 15) = true := by rw [beq_iff_eq]; exact h15
        have HE := Lib.hid (show (if o.kind = 15 then d + 1 else if o.kind = 16 then d - 1 else d) = d + 1 by rw [if_pos h15])
        have hw1 : IntKind.i64.wrap (d + 1) = d + 1 := by rw [IntKind.wrap_i64]; omega
        clear h15
        cases d6 : decide ((d + 1) < 0)
        rotate_left
        · have HN := Lib.hid (show opTo k.vars k.ops (j + 1) = none by rw [HNX.out]; unfold opStep; rw [if_neg (by rw [HONK.out]; simp), if_neg (by rw [HANY.out]; simp)]; dsimp only; rw [HE.out, if_pos (.inl (by simpa using d6))])
          go_wp2
          exact K2.out (HNO.out HN.out) _ _ _ _ _ _ _ _ _ _ _ _ _ _ _ _ _ _ _ _ _ _ _ _ _ _ _ _ _ _ _ _ _ _ _ _ _ _ _ _ _ _ HMW.out.below
        cases d7 : decide (4 < (d + 1))
        rotate_left
        · have HN := Lib.hid (show opTo k.vars k.ops (j + 1) = none by rw [HNX.out]; unfold opStep; rw [if_neg (by rw [HONK.out]; simp), if_neg (by rw [HANY.out]; simp)]; dsimp only; rw [HE.out, if_pos (.inr (by simpa using d7))])
          go_wp2
          exact K2.out (HNO.out HN.out) _ _ _ _ _ _ _ _ _ _ _ _ _ _ _ _ _ _ _ _ _ _ _ _ _ _ _ _ _ _ _ _ _ _ _ _ _ _ _ _ _ _ HMW.out.below
        have hbd : 0 ≤ (d + 1) ∧ (d + 1) ≤ 4 := by have := of_decide_eq_false d6; have := of_decide_eq_false d7; omega
        have HBD := Lib.hid hbd
        by_cases hd0 : 0 ≤ o.d
        · have d8 : decide (0 ≤ o.d) = true := decide_eq_true hd0
          have HN := Lib.hid (show opTo k.vars k.ops (j + 1) = some (made.set o.d.toNat true, (d + 1)) by rw [HNX.out]; unfold opStep; rw [if_neg (by rw [HONK.out]; simp), if_neg (by rw [HANY.out]; simp)]; dsimp only; rw [HE.out, if_neg (by omega), if_pos hd0])
          obtain ⟨m, hm⟩ : ∃ m : Nat, o.d = m := ⟨o.d.toNat, by omega⟩
          have hml : m < nv := by have := HDL.out; omega
          obtain ⟨b, hb⟩ : ∃ b, made[m]? = some b := ⟨_, List.getElem?_eq_getElem (by rw [HMW.out.len]; exact hml)⟩
          have g0 := HMW.out.cell
          have g1 := HMW.out.at_ hb
          have g2 := HMW.out.frozen m
          have HS := Lib.hid (HMW.out.set m true)
          have HDM := Lib.hid hm
          have i5 : (0 : Int) ≤ (m : Int) := by omega
          have i6 : (m : Int) < (nv : Int) := by omega
          have i7 : IntKind.i64.wrap (m : Int) = m := by rw [IntKind.wrap_i64]; omega
          rw [hm] at y1 d8 HN
          rw [Int.toNat_natCast] at HN
          clear hm hml hb hbd hd0
          go_wp2
          go_roundw
          case rel => exact ⟨j + 1, _, _, hlt, by go_num, rfl, rfl, HN, HS.out, HBD.out⟩
          case measure => simp [intOf]; omega
        · have d8 : decide (0 ≤ o.d) = false := decide_eq_false hd0
          have HN := Lib.hid (show opTo k.vars k.ops (j + 1) = some (made, (d + 1)) by rw [HNX.out]; unfold opStep; rw [if_neg (by rw [HONK.out]; simp), if_neg (by rw [HANY.out]; simp)]; dsimp only; rw [HE.out, if_neg (by omega), if_neg hd0])
          clear hbd hd0
          go_wp2
          go_roundw
          case rel => exact ⟨j + 1, _, _, hlt, by go_num, rfl, rfl, HN, HMW.out, HBD.out⟩
          case measure => simp [intOf]; omega
      have e15 : (o.kind == 15) = false := beq_eq_false_iff_ne.2 h15
      by_cases h16 : o.kind = 16
      · have e16 : (o.kind == 16) = true := by rw [beq_iff_eq]; exact h16
        have HE := Lib.hid (show (if o.kind = 15 then d + 1 else if o.kind = 16 then d - 1 else d) = d - 1 by rw [if_neg h15, if_pos h16])
        have hw1 : IntKind.i64.wrap (d - 1) = d - 1 := by rw [IntKind.wrap_i64]; omega
        clear h15 h16
        cases d6 : decide ((d - 1) < 0)
        rotate_left
        · have HN := Lib.hid (show opTo k.vars k.ops (j + 1) = none by rw [HNX.out]; unfold opStep; rw [if_neg (by rw [HONK.out]; simp), if_neg (by rw [HANY.out]; simp)]; dsimp only; rw [HE.out, if_pos (.inl (by simpa using d6))])
          go_wp2
          exact K2.out (HNO.out HN.out) _ _ _ _ _ _ _ _ _ _ _ _ _ _ _ _ _ _ _ _ _ _ _ _ _ _ _ _ _ _ _ _ _ _ _ _ _ _ _ _ _ _ HMW.out.below
        cases d7 : decide (4 < (d - 1))
        rotate_left
        · have HN := Lib.hid (show opTo k.vars k.ops (j + 1) = none by rw [HNX.out]; unfold opStep; rw [if_neg (by rw [HONK.out]; simp), if_neg (by rw [HANY.out]; simp)]; dsimp only; rw [HE.out, if_pos (.inr (by simpa using d7))])
          go_wp2
          exact K2.out (HNO.out HN.out) _ _ _ _ _ _ _ _ _ _ _ _ _ _ _ _ _ _ _ _ _ _ _ _ _ _ _ _ _ _ _ _ _ _ _ _ _ _ _ _ _ _ HMW.out.below
        have hbd : 0 ≤ (d - 1) ∧ (d - 1) ≤ 4 := by have := of_decide_eq_false d6; have := of_decide_eq_false d7; omega
        have HBD := Lib.hid hbd
        by_cases hd0 : 0 ≤ o.d
        · have d8 : decide (0 ≤ o.d) = true := decide_eq_true hd0
          have HN := Lib.hid (show opTo k.vars k.ops (j + 1) = some (made.set o.d.toNat true, (d - 1)) by rw [HNX.out]; unfold opStep; rw [if_neg (by rw [HONK.out]; simp), if_neg (by rw [HANY.out]; simp)]; dsimp only; rw [HE.out, if_neg (by omega), if_pos hd0])
          obtain ⟨m, hm⟩ : ∃ m : Nat, o.d = m := ⟨o.d.toNat, by omega⟩
          have hml : m < nv := by have := HDL.out; omega
          obtain ⟨b, hb⟩ : ∃ b, made[m]? = some b := ⟨_, List.getElem?_eq_getElem (by rw [HMW.out.len]; exact hml)⟩
          have g0 := HMW.out.cell
          have g1 := HMW.out.at_ hb
          have g2 := HMW.out.frozen m
          have HS := Lib.hid (HMW.out.set m true)
          have HDM := Lib.hid hm
          have i5 : (0 : Int) ≤ (m : Int) := by omega
          have i6 : (m : Int) < (nv : Int) := by omega
          have i7 : IntKind.i64.wrap (m : Int) = m := by rw [IntKind.wrap_i64]; omega
          rw [hm] at y1 d8 HN
          rw [Int.toNat_natCast] at HN
          clear hm hml hb hbd hd0
          go_wp2
          go_roundw
          case rel => exact ⟨j + 1, _, _, hlt, by go_num, rfl, rfl, HN, HS.out, HBD.out⟩
          case measure => simp [intOf]; omega
        · have d8 : decide (0 ≤ o.d) = false := decide_eq_false hd0
          have HN := Lib.hid (show opTo k.vars k.ops (j + 1) = some (made, (d - 1)) by rw [HNX.out]; unfold opStep; rw [if_neg (by rw [HONK.out]; simp), if_neg (by rw [HANY.out]; simp)]; dsimp only; rw [HE.out, if_neg (by omega), if_neg hd0])
          clear hbd hd0
          go_wp2
          go_roundw
          case rel => exact ⟨j + 1, _, _, hlt, by go_num, rfl, rfl, HN, HMW.out, HBD.out⟩
          case measure => simp [intOf]; omega
      have e16 : (o.kind == 16) = false := beq_eq_false_iff_ne.2 h16
      have HE := Lib.hid (show (if o.kind = 15 then d + 1 else if o.kind = 16 then d - 1 else d) = d by rw [if_neg h15, if_neg h16])
      clear h15 h16
      cases d6 : decide (d < 0)
      rotate_left
      · have HN := Lib.hid (show opTo k.vars k.ops (j + 1) = none by rw [HNX.out]; unfold opStep; rw [if_neg (by rw [HONK.out]; simp), if_neg (by rw [HANY.out]; simp)]; dsimp only; rw [HE.out, if_pos (.inl (by simpa using d6))])
        go_wp2
        exact K2.out (HNO.out HN.out) _ _ _ _ _ _ _ _ _ _ _ _ _ _ _ _ _ _ _ _ _ _ _ _ _ _ _ _ _ _ _ _ _ _ _ _ _ _ _ _ _ _ HMW.out.below
      cases d7 : decide (4 < d)
      rotate_left
      · have HN := Lib.hid (show opTo k.vars k.ops (j + 1) = none by rw [HNX.out]; unfold opStep; rw [if_neg (by rw [HONK.out]; simp), if_neg (by rw [HANY.out]; simp)]; dsimp only; rw [HE.out, if_pos (.inr (by simpa using d7))])
        go_wp2
        exact K2.out (HNO.out HN.out) _ _ _ _ _ _ _ _ _ _ _ _ _ _ _ _ _ _ _ _ _ _ _ _ _ _ _ _ _ _ _ _ _ _ _ _ _ _ _ _ _ _ HMW.out.below
      have hbd : 0 ≤ d ∧ d ≤ 4 := by have := of_decide_eq_false d6; have := of_decide_eq_false d7; omega
      have HBD := Lib.hid hbd
      by_cases hd0 : 0 ≤ o.d
      · have d8 : decide (0 ≤ o.d) = true := decide_eq_true hd0
        have HN := Lib.hid (show opTo k.vars k.ops (j + 1) = some (made.set o.d.toNat true, d) by rw [HNX.out]; unfold opStep; rw [if_neg (by rw [HONK.out]; simp), if_neg (by rw [HANY.out]; simp)]; dsimp only; rw [HE.out, if_neg (by omega), if_pos hd0])
        obtain ⟨m, hm⟩ : ∃ m : Nat, o.d = m := ⟨o.d.toNat, by omega⟩
        have hml : m < nv := by have := HDL.out; omega
        obtain ⟨b, hb⟩ : ∃ b, made[m]? = some b := ⟨_, List.getElem?_eq_getElem (by rw [HMW.out.len]; exact hml)⟩
        have g0 := HMW.out.cell
        have g1 := HMW.out.at_ hb
        have g2 := HMW.out.frozen m
        have HS := Lib.hid (HMW.out.set m true)
        have HDM := Lib.hid hm
        have i5 : (0 : Int) ≤ (m : Int) := by omega
        have i6 : (m : Int) < (nv : Int) := by omega
        have i7 : IntKind.i64.wrap (m : Int) = m := by rw [IntKind.wrap_i64]; omega
        rw [hm] at y1 d8 HN
        rw [Int.toNat_natCast] at HN
        clear hm hml hb hbd hd0
        go_wp2
        go_roundw
        case rel => exact ⟨j + 1, _, _, hlt, by go_num, rfl, rfl, HN, HS.out, HBD.out⟩
        case measure => simp [intOf]; omega
      · have d8 : decide (0 ≤ o.d) = false := decide_eq_false hd0
        have HN := Lib.hid (show opTo k.vars k.ops (j + 1) = some (made, d) by rw [HNX.out]; unfold opStep; rw [if_neg (by rw [HONK.out]; simp), if_neg (by rw [HANY.out]; simp)]; dsimp only; rw [HE.out, if_neg (by omega), if_neg hd0])
        clear hbd hd0
        go_wp2
        go_roundw
        case rel => exact ⟨j + 1, _, _, hlt, by go_num, rfl, rfl, HN, HMW.out, HBD.out⟩
        case measure => simp [intOf]; omega
    · have d1 : decide (j < no) = false := decide_eq_false hlt
      have HN := Lib.hid (show opTo k.vars k.ops k.ops.length = some (made, d) by rw [← HT.out]; congr 1; have := HNO2.out; omega)
      clear hm
      go_wp2
      exact K1.out made d _ _ _ _ _ _ _ _ _ _ _ _ _ _ _ _ _ _ _ _ _ _ _ _ _ _ _ _ _ _ _ _ _ _ _ _ _ _ _ _ _ ⟨HN.out, HMR.out⟩

set_option maxRecDepth 100000 in
set_option maxHeartbeats 8000000 in
theorem chk_l7 {Av Ao Ar : Option Addr} {nv cv no co nr cr b0 bm gm : Nat} {k : Krn} {w0 : World} {made : List Bool} (w : World) (Q : Exit → Act → World → Prop) {u0 u4 u5 u7 u8 u9 u10 u11 u12 u13 u14 u15 u16 u17 u18 u19 u20 u21 u22 u23 u24 u25 u26 u27 u28 u29 u30 u31 u32 u33 u34 u35 u36 u37 u38 u39 u40 u41 u42 u43 u44 u45 u46 u47 u48 u49 u50 u51 u52 u53 u54 u55 u56 u57 u58 u59 u60 u61 u62 u63 u64 u65 u66 u67 u68 u69 u70 u71 u72 u73 u74 u75 u76 u77 u78 u79 u80 u81 u82 u83 u84 u85 u86 u87 u88 u89 u90 u91 u92 u93 u94 u95 u96 u97 u98 u99 u100 u101 u102 u103 u104 u105 u106 u107 u108 u109 u110 u111 u112 u113 u114 u115 u116 u117 u118 u119 u120 u123 u124 u125 u126 u127 u128 u129 u130 u131 u132 u133 u134 u135 u136 u137 : Value} (hk : KBox w0 b0 Av nv cv Ao no co Ar nr cr k) (hm : MadeAt w0 w bm gm nv made) (hok : k.vars.length ≤ 100000)
    (k1 : (List.range k.vars.length).all (fun i : Nat => !outK k.vars (i : Nat) || made.getD i false) = true → ∀ (v12 v122 v123 v124 v125 v126 v127 v128 v129 v130 v131 v132 v133 v134 v135 : Value) (w' : World), MadeAt w0 w' bm gm nv made → Q ((.exit 7)) ⟨#[u0, .pointer (some ⟨b0, 0, none⟩), .int .i64 0, .func (.func 60) #[] #[.pointer (some ⟨b0, 0, none⟩)], u4, u5, .pointer (some ⟨bm, 0, none⟩), u7, u8, u9, u10, u11, v12, u13, u14, u15, u16, u17, u18, u19, u20, u21, u22, u23, u24, u25, u26, u27, u28, u29, u30, u31, u32, u33, u34, u35, u36, u37, u38, u39, u40, u41, u42, u43, u44, u45, u46, u47, u48, u49, u50, u51, u52, u53, u54, u55, u56, u57, u58, u59, u60, u61, u62, u63, u64, u65, u66, u67, u68, u69, u70, u71, u72, u73, u74, u75, u76, u77, u78, u79, u80, u81, u82, u83, u84, u85, u86, u87, u88, u89, u90, u91, u92, u93, u94, u95, u96, u97, u98, u99, u100, u101, u102, u103, u104, u105, u106, u107, u108, u109, u110, u111, u112, u113, u114, u115, u116, u117, u118, u119, u120, .int .i64 (nv : Nat), v122, v123, v124, v125, v126, v127, v128, v129, v130, v131, v132, v133, v134, v135, u136, u137], []⟩ w') (k2 : (List.range k.vars.length).all (fun i : Nat => !outK k.vars (i : Nat) || made.getD i false) = false → ∀ (v12 v122 v123 v124 v125 v126 v127 v128 v129 v130 v131 v132 v133 v134 v135 : Value) (w' : World), Below w0.heap.size w0 w' → Q (.ret) ⟨#[u0, .pointer (some ⟨b0, 0, none⟩), .int .i64 2, .func (.func 60) #[] #[.pointer (some ⟨b0, 0, none⟩)], u4, u5, .pointer (some ⟨bm, 0, none⟩), u7, u8, u9, u10, u11, v12, u13, u14, u15, u16, u17, u18, u19, u20, u21, u22, u23, u24, u25, u26, u27, u28, u29, u30, u31, u32, u33, u34, u35, u36, u37, u38, u39, u40, u41, u42, u43, u44, u45, u46, u47, u48, u49, u50, u51, u52, u53, u54, u55, u56, u57, u58, u59, u60, u61, u62, u63, u64, u65, u66, u67, u68, u69, u70, u71, u72, u73, u74, u75, u76, u77, u78, u79, u80, u81, u82, u83, u84, u85, u86, u87, u88, u89, u90, u91, u92, u93, u94, u95, u96, u97, u98, u99, u100, u101, u102, u103, u104, u105, u106, u107, u108, u109, u110, u111, u112, u113, u114, u115, u116, u117, u118, u119, u120, .int .i64 (nv : Nat), v122, v123, v124, v125, v126, v127, v128, v129, v130, v131, v132, v133, v134, v135, u136, u137], []⟩ w') : (partL Tryz.f37 7).wp Tryz.prog Q ⟨#[u0, .pointer (some ⟨b0, 0, none⟩), .int .i64 0, .func (.func 60) #[] #[.pointer (some ⟨b0, 0, none⟩)], u4, u5, .pointer (some ⟨bm, 0, none⟩), u7, u8, u9, u10, u11, u12, u13, u14, u15, u16, u17, u18, u19, u20, u21, u22, u23, u24, u25, u26, u27, u28, u29, u30, u31, u32, u33, u34, u35, u36, u37, u38, u39, u40, u41, u42, u43, u44, u45, u46, u47, u48, u49, u50, u51, u52, u53, u54, u55, u56, u57, u58, u59, u60, u61, u62, u63, u64, u65, u66, u67, u68, u69, u70, u71, u72, u73, u74, u75, u76, u77, u78, u79, u80, u81, u82, u83, u84, u85, u86, u87, u88, u89, u90, u91, u92, u93, u94, u95, u96, u97, u98, u99, u100, u101, u102, u103, u104, u105, u106, u107, u108, u109, u110, u111, u112, u113, u114, u115, u116, u117, u118, u119, u120, .int .i64 (nv : Nat), .int .i64 0, u123, u124, u125, u126, u127, u128, u129, u130, u131, u132, u133, u134, u135, u136, u137], []⟩ w := by
  have HK := Lib.hid hk
  have HM := Lib.hid hm
  have K1 := Lib.hid k1
  have K2 := Lib.hid k2
  have HNV := Lib.hid hk.nv.1
  have n5 : nv ≤ 100000 := by have := hk.nv.1; omega
  clear hk hok k1 k2 hm
  conv => arg 2; whnf
  go_wp2
  go_loopw [2, 12, 122] (fun s2 _ i wr => ∃ j : Nat, j ≤ nv ∧ i = .int .i64 j ∧ s2 = .int .i64 0 ∧ Hid (((List.range k.vars.length).take j).all (fun i : Nat => !outK k.vars (i : Nat) || made.getD i false) = true) ∧ MadeAt w0 wr bm gm nv made) (fun _ _ i _ => nv - (intOf i).toNat)
  case atStart => exact ⟨0, by omega, rfl, rfl, Lib.hid rfl, HM.out⟩
  case round =>
    obtain ⟨j, hj, rfl, rfl, HT, hm⟩ := hrel
    have HMR := Lib.hid hm
    by_cases hlt : j < nv
    · have d1 : decide (j < nv) = true := decide_eq_true hlt
      obtain ⟨b, hb⟩ : ∃ b, made[j]? = some b := ⟨_, List.getElem?_eq_getElem (by rw [hm.len]; exact hlt)⟩
      have hbd : made.getD j false = b := by rw [List.getD_eq_getElem?_getD, hb]; rfl
      have hr : (List.range k.vars.length)[j]? = some j := by rw [List.getElem?_range (by have := HNV.out; omega)]
      have HC1 := Lib.hid (fun (w1 : World) (h1 : Below w0.heap.size w0 w1) => chk1_any (j : Int) k.vars Av nv cv b0 w1 _ (HK.out.next h1).c0 (HK.out.next h1).vars (by have := HNV.out; omega))
      have i0 : (0 : Int) ≤ (j : Int) := by omega
      have i1 : (j : Int) < (nv : Int) := by omega
      have i2 : IntKind.i64.wrap (j : Int) = j := by rw [IntKind.wrap_i64]; omega
      have HB := Lib.hid hb
      have HR := Lib.hid hr
      have HBD := Lib.hid hbd
      obtain ⟨q, hq⟩ : ∃ q, outK k.vars (j : Int) = q := ⟨_, rfl⟩
      have HQ := Lib.hid hq
      rw [hq] at HC1
      clear hm hb hr hbd hq
      cases q
      · have HN := Lib.hid (alls_next HT.out HR.out (by rw [HQ.out]; rfl))
        go_wp2_with (first | ((with_reducible refine (HC1.out _ HMR.out.below).mono ?_); rintro e w1 ⟨rfl, hb1⟩; have HM1 := Lib.hid (HMR.out.next hb1); clear hb1) | go_in)
        go_roundw
        case rel => exact ⟨j + 1, hlt, by go_num, rfl, HN, HM1.out⟩
        case measure => simp [intOf]; omega
      · cases b
        · have HN := Lib.hid (alls_here (l := List.range k.vars.length) (p := fun i : Nat => !outK k.vars (i : Nat) || made.getD i false) HR.out (by rw [HQ.out, HBD.out]; rfl))
          go_wp2_with (first | ((with_reducible refine (HC1.out _ HMR.out.below).mono ?_); rintro e w1 ⟨rfl, hb1⟩; have HM1 := Lib.hid (HMR.out.next hb1); have g0 := HM1.out.cell; have g1 := HM1.out.at_ HB.out; clear hb1) | go_in)
          exact K2.out HN.out _ _ _ _ _ _ _ _ _ _ _ _ _ _ _ _ HM1.out.below
        · have HN := Lib.hid (alls_next HT.out HR.out (by rw [HQ.out, HBD.out]; rfl))
          go_wp2_with (first | ((with_reducible refine (HC1.out _ HMR.out.below).mono ?_); rintro e w1 ⟨rfl, hb1⟩; have HM1 := Lib.hid (HMR.out.next hb1); have g0 := HM1.out.cell; have g1 := HM1.out.at_ HB.out; clear hb1) | go_in)
          go_roundw
          case rel => exact ⟨j + 1, hlt, by go_num, rfl, HN, HM1.out⟩
          case measure => simp [intOf]; omega
    · have d1 : decide (j < nv) = false := decide_eq_false hlt
      have HN := Lib.hid (alls_whole HT.out (by rw [List.length_range]; have := HNV.out; omega))
      clear hm
      go_wp2
      exact K1.out HN.out _ _ _ _ _ _ _ _ _ _ _ _ _ _ _ _ HMR.out
end Go.Proofs.YtjbabpnepjhllaaGreat
