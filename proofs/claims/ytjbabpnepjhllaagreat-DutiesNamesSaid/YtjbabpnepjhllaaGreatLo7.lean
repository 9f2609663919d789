/- keysmithref19.Check: its loop over the operations. -/
import Derived.Test.YtjbabpnepjhllaaGreatLo6
import Derived.Test.YtjbabpnepjhllaaGreatLo2
import Derived.Test.YtjbabpnepjhllaaGreatWordsA
import Derived.Test.YtjbabpnepjhllaaGreatLo5
namespace Go.Proofs.YtjbabpnepjhllaaGreat
open Go.RowKit

theorem one_ranges {vs : List KVar} {o : KOp} (h : oneK vs o = true) : (o.d < (vs.length : Int) ∧ o.e < (vs.length : Int) ∧ o.a < (vs.length : Int) ∧ o.b < (vs.length : Int) ∧ o.c < (vs.length : Int)) ∧ (o.kind = 14 → 0 ≤ o.d ∧ 0 ≤ o.e) := by
  by_cases h17 : o.kind = 17
  · unfold oneK at h
    rw [if_pos h17] at h
    have h1 := need_in h
    unfold needK at h
    simp only [Bool.and_eq_true, beq_iff_eq] at h
    refine ⟨?_, fun h14 => by omega⟩
    omega
  · unfold oneK at h
    rw [if_neg h17] at h
    simp only [Bool.and_eq_true] at h
    have hp := h.2.2.2.1
    unfold partsK at hp
    simp only [Bool.and_eq_true] at hp
    have h1 := part_in hp.1
    have h2 := part_in hp.2.1
    have h3 := part_in hp.2.2.1
    have h4 := part_in hp.2.2.2.1
    have h5 := part_in hp.2.2.2.2
    refine ⟨by omega, fun h14 => ?_⟩
    rw [show kHasD o.kind = true by rw [h14]; rfl] at h1
    rw [show kHasE o.kind = true by rw [h14]; rfl] at h2
    simp only [Bool.true_eq_false, false_and, or_false] at h1 h2
    omega
theorem step_lack {vs : List KVar} {o : KOp} {made : List Bool} {d : Int} (h : lackF made o = true) : opStep vs o (made, d) = none := by
  unfold opStep
  split
  · rfl
  · exact if_pos h
theorem step_one {vs : List KVar} {o : KOp} {made : List Bool} {d : Int} (h : oneK vs o = false) : opStep vs o (made, d) = none := by
  unfold opStep
  rw [if_pos h]
theorem step_yes {vs : List KVar} {o : KOp} {made : List Bool} {d d' : Int} (h1 : oneK vs o = true) (h2 : lackF made o = false) (hd : (if o.kind = 15 then d + 1 else if o.kind = 16 then d - 1 else d) = d') : opStep vs o (made, d) = if d' < 0 ∨ 4 < d' then none else some (madeK made o, d') := by
  unfold opStep
  rw [if_neg (by rw [h1]; simp), if_neg (by show ¬ (lackF made o = true); rw [h2]; simp)]
  rw [show madeK made o = (if 0 ≤ o.d then made.set o.d.toNat true else made) by unfold madeK; rw [if_neg (by rw [h2]; simp)]]
  subst hd
  rfl

set_option maxRecDepth 100000 in
set_option maxHeartbeats 20000000 in
theorem rchk_b6 {Av Ao Ar : Option Addr} {nv cv no co nr cr b0 gm : Nat} {k : Krn} {w0 : World} (w : World) (Q : Exit → Act → World → Prop) {u0 u3 u4 u5 u6 u7 u10 u12 u13 u14 u15 u16 u17 u18 u19 u20 u21 u22 u23 u24 u25 u26 u27 u28 u29 u30 u31 u32 u33 u34 u35 u36 u37 u38 u39 u40 u41 u42 u43 u44 u45 u46 u47 u48 u49 u50 u51 u52 u53 u54 u55 u56 u57 u58 u59 u60 u61 u62 u63 u64 u65 u66 u67 u68 u69 u70 u71 u72 u73 u74 u75 u76 u77 u78 u79 u80 u81 u82 u83 u84 u85 u86 u87 u88 u89 u90 u91 u92 u93 u94 u95 u96 u97 u98 u99 u100 u101 u102 u103 u104 u105 u106 u107 u108 u109 u110 u111 u112 u113 u114 u115 u116 u117 u118 u119 u120 u121 u122 u123 u124 u125 u126 u127 u128 u129 u130 u131 u132 u133 u134 u135 u136 u137 u138 u139 u140 u141 u142 u143 u144 u145 u146 u147 u148 u149 u150 u151 u152 u153 u154 u155 u156 u157 u158 u159 u160 u161 u162 u163 u164 u165 u166 u167 u168 u169 u170 u171 u172 u173 u174 u175 u176 u177 u178 u179 u180 u181 u182 u183 u184 u185 u186 u187 u188 u189 u190 u191 u192 u193 u194 u195 u196 u197 u198 u199 u200 u201 u202 u203 u204 u205 u206 u207 u208 u209 u210 u211 u212 u213 u214 u215 u216 u217 u218 u219 u220 u221 u222 u223 u224 u225 u226 u227 u228 u229 u230 u231 u232 u233 u234 u235 u236 u237 u238 u239 u240 u241 u242 u243 u244 u245 u246 : Value} (hk : KBox w0 b0 Av nv cv Ao no co Ar nr cr k) (hok : k.vars.length ≤ 100000 ∧ k.ops.length ≤ 4096) (hm : MadeR w0 w gm nv (k.vars.map givenK))
    (k1 : ∀ (made : List Bool) (d : Int), opTo k.vars k.ops k.ops.length = some (made, d) → ∀ (v11 v178 v179 v180 v181 v182 v183 v184 v185 v186 v187 v188 v189 v190 v191 v192 v193 v194 v195 v196 v197 v198 v199 v200 v201 v202 v203 v204 v205 v206 v207 v208 v209 v210 v211 v212 v213 v214 v215 v216 v217 v218 v219 v220 v221 v222 v223 : Value) (w' : World), MadeR w0 w' gm nv made → Q ((.exit 6)) ⟨#[u0, .pointer (some ⟨b0, 0, none⟩), .int .i64 0, u3, u4, u5, u6, u7, .int .i64 d, .slice (some ⟨gm, 0, none⟩) nv nv, u10, v11, u12, u13, u14, u15, u16, u17, u18, u19, u20, u21, u22, u23, u24, u25, u26, u27, u28, u29, u30, u31, u32, u33, u34, u35, u36, u37, u38, u39, u40, u41, u42, u43, u44, u45, u46, u47, u48, u49, u50, u51, u52, u53, u54, u55, u56, u57, u58, u59, u60, u61, u62, u63, u64, u65, u66, u67, u68, u69, u70, u71, u72, u73, u74, u75, u76, u77, u78, u79, u80, u81, u82, u83, u84, u85, u86, u87, u88, u89, u90, u91, u92, u93, u94, u95, u96, u97, u98, u99, u100, u101, u102, u103, u104, u105, u106, u107, u108, u109, u110, u111, u112, u113, u114, u115, u116, u117, u118, u119, u120, u121, u122, u123, u124, u125, u126, u127, u128, u129, u130, u131, u132, u133, u134, u135, u136, u137, u138, u139, u140, u141, u142, u143, u144, u145, u146, u147, u148, u149, u150, u151, u152, u153, u154, u155, u156, u157, u158, u159, u160, u161, u162, u163, u164, u165, u166, u167, u168, u169, u170, u171, u172, u173, u174, u175, u176, u177, v178, v179, v180, v181, v182, v183, v184, v185, v186, v187, v188, v189, v190, v191, v192, v193, v194, v195, v196, v197, v198, v199, v200, v201, v202, v203, v204, v205, v206, v207, v208, v209, v210, v211, v212, v213, v214, v215, v216, v217, v218, v219, v220, v221, v222, v223, u224, u225, u226, u227, u228, u229, u230, u231, u232, u233, u234, u235, u236, u237, u238, u239, u240, u241, u242, u243, u244, u245, u246], []⟩ w') (k2 : opTo k.vars k.ops k.ops.length = none → ∀ (v8 v11 v178 v179 v180 v181 v182 v183 v184 v185 v186 v187 v188 v189 v190 v191 v192 v193 v194 v195 v196 v197 v198 v199 v200 v201 v202 v203 v204 v205 v206 v207 v208 v209 v210 v211 v212 v213 v214 v215 v216 v217 v218 v219 v220 v221 v222 v223 : Value) (w' : World), Below w0.heap.size w0 w' → Q (.ret) ⟨#[u0, .pointer (some ⟨b0, 0, none⟩), .int .i64 2, u3, u4, u5, u6, u7, v8, .slice (some ⟨gm, 0, none⟩) nv nv, u10, v11, u12, u13, u14, u15, u16, u17, u18, u19, u20, u21, u22, u23, u24, u25, u26, u27, u28, u29, u30, u31, u32, u33, u34, u35, u36, u37, u38, u39, u40, u41, u42, u43, u44, u45, u46, u47, u48, u49, u50, u51, u52, u53, u54, u55, u56, u57, u58, u59, u60, u61, u62, u63, u64, u65, u66, u67, u68, u69, u70, u71, u72, u73, u74, u75, u76, u77, u78, u79, u80, u81, u82, u83, u84, u85, u86, u87, u88, u89, u90, u91, u92, u93, u94, u95, u96, u97, u98, u99, u100, u101, u102, u103, u104, u105, u106, u107, u108, u109, u110, u111, u112, u113, u114, u115, u116, u117, u118, u119, u120, u121, u122, u123, u124, u125, u126, u127, u128, u129, u130, u131, u132, u133, u134, u135, u136, u137, u138, u139, u140, u141, u142, u143, u144, u145, u146, u147, u148, u149, u150, u151, u152, u153, u154, u155, u156, u157, u158, u159, u160, u161, u162, u163, u164, u165, u166, u167, u168, u169, u170, u171, u172, u173, u174, u175, u176, u177, v178, v179, v180, v181, v182, v183, v184, v185, v186, v187, v188, v189, v190, v191, v192, v193, v194, v195, v196, v197, v198, v199, v200, v201, v202, v203, v204, v205, v206, v207, v208, v209, v210, v211, v212, v213, v214, v215, v216, v217, v218, v219, v220, v221, v222, v223, u224, u225, u226, u227, u228, u229, u230, u231, u232, u233, u234, u235, u236, u237, u238, u239, u240, u241, u242, u243, u244, u245, u246], []⟩ w') : (partL Tryz.f11 6).wp Tryz.prog Q ⟨#[u0, .pointer (some ⟨b0, 0, none⟩), .int .i64 0, u3, u4, u5, u6, u7, .int .i64 0, .slice (some ⟨gm, 0, none⟩) nv nv, u10, .int .i64 0, u12, u13, u14, u15, u16, u17, u18, u19, u20, u21, u22, u23, u24, u25, u26, u27, u28, u29, u30, u31, u32, u33, u34, u35, u36, u37, u38, u39, u40, u41, u42, u43, u44, u45, u46, u47, u48, u49, u50, u51, u52, u53, u54, u55, u56, u57, u58, u59, u60, u61, u62, u63, u64, u65, u66, u67, u68, u69, u70, u71, u72, u73, u74, u75, u76, u77, u78, u79, u80, u81, u82, u83, u84, u85, u86, u87, u88, u89, u90, u91, u92, u93, u94, u95, u96, u97, u98, u99, u100, u101, u102, u103, u104, u105, u106, u107, u108, u109, u110, u111, u112, u113, u114, u115, u116, u117, u118, u119, u120, u121, u122, u123, u124, u125, u126, u127, u128, u129, u130, u131, u132, u133, u134, u135, u136, u137, u138, u139, u140, u141, u142, u143, u144, u145, u146, u147, u148, u149, u150, u151, u152, u153, u154, u155, u156, u157, u158, u159, u160, u161, u162, u163, u164, u165, u166, u167, u168, u169, u170, u171, u172, u173, u174, u175, u176, u177, u178, u179, u180, u181, u182, u183, u184, u185, u186, u187, u188, u189, u190, u191, u192, u193, u194, u195, u196, u197, u198, u199, u200, u201, u202, u203, u204, u205, u206, u207, u208, u209, u210, u211, u212, u213, u214, u215, u216, u217, u218, u219, u220, u221, u222, u223, u224, u225, u226, u227, u228, u229, u230, u231, u232, u233, u234, u235, u236, u237, u238, u239, u240, u241, u242, u243, u244, u245, u246], []⟩ w := by
  
  have HK := Lib.hid hk
  have HM := Lib.hid hm
  have K1 := Lib.hid k1
  have K2 := Lib.hid k2
  have HNV := Lib.hid hk.nv.1
  have HNO2 := Lib.hid hk.nv.2.1
  have n5 : nv ≤ 100000 := by have := hk.nv.1; omega
  have n6 : no ≤ 4096 := by have := hk.nv.2.1; omega
  clear hk hok k1 k2 hm
  conv => arg 2; whnf
  go_wp2
  go_loopw [2, 8, 11] (fun s2 s8 s11 wr => ∃ (j : Nat) (made : List Bool) (d : Int), j ≤ no ∧ s11 = .int .i64 (j : Nat) ∧ s8 = .int .i64 d ∧ s2 = .int .i64 0 ∧ Hid (opTo k.vars k.ops j = some (made, d)) ∧ MadeR w0 wr gm nv made ∧ (0 ≤ d ∧ d ≤ 4)) (fun _ _ s11 _ => no - (intOf s11).toNat)
  case atStart => exact ⟨0, _, 0, by omega, rfl, rfl, rfl, Lib.hid rfl, HM.out, by omega⟩
  case round =>
    obtain ⟨j, made, d, hj, rfl, rfl, rfl, HT, hm, hd⟩ := hrel
    have HMR := Lib.hid hm
    have hkr := HK.out.next hm.below
    have p0 := hkr.c0
    have p1 := hkr.c1
    have p2 := hkr.c2
    by_cases hlt : j < no
    · have d1 : decide (j < no) = true := decide_eq_true hlt
      obtain ⟨o, hx⟩ : ∃ v, k.ops[j]? = some v := ⟨_, List.getElem?_eq_getElem (by have := HNO2.out; omega)⟩
      have HNX := Lib.hid (opTo_next' HT.out hx)
      have HNO := Lib.hid (show opTo k.vars k.ops (j + 1) = none → opTo k.vars k.ops k.ops.length = none from fun h => opTo_none h _ (by have := HNO2.out; omega))
      obtain ⟨g, off, hA, hg, x0, x1, x2, x3, x4, x5, x6⟩ := HK.out.ops.at_ hx
      have HFA := Lib.hid (show ∀ w_, Below w0.heap.size w0 w_ → (w_.cell? ⟨b0, 0, none⟩ = some (.slice Av nv cv) ∧ w_.cell? ⟨b0, 1, none⟩ = some (.slice Ao no co) ∧ w_.cell? ⟨b0, 2, none⟩ = some (.slice Ar nr cr)) ∧ (w_.cell? ⟨g, off + j * 7, none⟩ = some (.int .i64 o.kind) ∧ w_.cell? ⟨g, off + j * 7 + 1, none⟩ = some (.int .i64 o.d) ∧ w_.cell? ⟨g, off + j * 7 + 2, none⟩ = some (.int .i64 o.e) ∧ w_.cell? ⟨g, off + j * 7 + 3, none⟩ = some (.int .i64 o.a) ∧ w_.cell? ⟨g, off + j * 7 + 4, none⟩ = some (.int .i64 o.b) ∧ w_.cell? ⟨g, off + j * 7 + 5, none⟩ = some (.int .i64 o.c) ∧ w_.cell? ⟨g, off + j * 7 + 6, none⟩ = some (.int .u64 o.imm)) from fun w_ h =>
        ⟨⟨(HK.out.next h).c0, (HK.out.next h).c1, (HK.out.next h).c2⟩, (h.cell (p := ⟨g, off + j * 7, none⟩) hg).trans x0, (h.cell (p := ⟨g, off + j * 7 + 1, none⟩) hg).trans x1, (h.cell (p := ⟨g, off + j * 7 + 2, none⟩) hg).trans x2, (h.cell (p := ⟨g, off + j * 7 + 3, none⟩) hg).trans x3, (h.cell (p := ⟨g, off + j * 7 + 4, none⟩) hg).trans x4, (h.cell (p := ⟨g, off + j * 7 + 5, none⟩) hg).trans x5, (h.cell (p := ⟨g, off + j * 7 + 6, none⟩) hg).trans x6⟩)
      subst hA
      have HONE := Lib.hid (fun (w1 : World) (h1 : Below w0.heap.size w0 w1) => rone_any Av nv cv k.vars o w1 _ (HK.out.next h1).vars (fun k hk => hk) (by have := HNV.out; omega))
      have i0 : (0 : Int) ≤ (j : Int) := by omega
      have i1 : (j : Int) < (no : Int) := by omega
      have i2 : IntKind.i64.wrap (j : Int) = j := by rw [IntKind.wrap_i64]; omega
      clear hm hg hx hkr x0 x1 x2 x3 x4 x5 x6
      go_upto_region 29 with (first | go_in)
      clear p0 p1 p2
      have hS : Below w0.heap.size w0 wr.drew := HMR.out.below.drew
      cases hok : oneK k.vars o
      · have HN := Lib.hid (show opTo k.vars k.ops (j + 1) = none by rw [HNX.out]; exact step_one hok)
        rw [hok] at HONE
        clear hok
        (refine wp_region_lines (Below w0.heap.size w0) (by kernel_rfl) (by kernel_rfl) (HMR.out.below.drew) ?_)
        (try simp only [])
        repeat (first | (refine runL_no (by rfl) ?_; (try simp only [Act.put, List.setIfInBounds_toArray, List.set_cons_zero, List.set_cons_succ])) | (refine runL_val (v := ?_) (by rfl) ?_ ?_; rotate_left; (focus (intro w_ hw_; obtain ⟨⟨f0_, f1_, f2_⟩, f3_, f4_, f5_, f6_, f7_, f8_, f9_⟩ := HFA.out w_ hw_; go_simp; (try with_reducible rfl); done)); (try simp only [Act.put, List.setIfInBounds_toArray, List.set_cons_zero, List.set_cons_succ])) | (refine runL_call (f := ?_) (args := ?_) (w1 := ?_) (by rfl) (by rfl) ?_ ?_; rotate_left 3; (focus (go_simp; refine ⟨⟨?_, ?_⟩, ?_⟩ <;> with_reducible rfl)); (with_reducible refine (HONE.out _ hS).mono ?_); rintro e w5 ⟨rfl, hb5⟩; replace hS := hS.trans (hb5.mono hS.size); clear hb5; refine ⟨_, rfl, .inr hS, ?_⟩; (try simp only [Act.put, List.setIfInBounds_toArray, List.set_cons_zero, List.set_cons_succ])))
        (refine runL_nil ?_)
        go_wp2
        exact K2.out (HNO.out HN.out) _ _ _ _ _ _ _ _ _ _ _ _ _ _ _ _ _ _ _ _ _ _ _ _ _ _ _ _ _ _ _ _ _ _ _ _ _ _ _ _ _ _ _ _ _ _ _ _ _ hS
      have hrg := one_ranges hok
      rw [← HNV.out] at hrg
      have HMK := Lib.hid (fun (w5 : World) (h5 : MadeR w0 w5 gm nv made) => makes_any gm nv made o w0 w5 h5 hrg.1 hrg.2 n5)
      have HOK := Lib.hid hok
      rw [hok] at HONE
      clear hok hrg
      have hm0 : MadeR w0 wr.drew gm nv made := HMR.out.next (Below.refl _ _).drew
      cases hlk : lackF made o
      rotate_left
      · have HN := Lib.hid (show opTo k.vars k.ops (j + 1) = none by rw [HNX.out]; exact step_lack hlk)
        rw [hlk] at HMK
        clear hlk
        (refine wp_region_lines (Below w0.heap.size w0) (by kernel_rfl) (by kernel_rfl) (HMR.out.below.drew) ?_)
        (try simp only [])
        repeat (first | (refine runL_no (by rfl) ?_; (try simp only [Act.put, List.setIfInBounds_toArray, List.set_cons_zero, List.set_cons_succ])) | (refine runL_val (v := ?_) (by rfl) ?_ ?_; rotate_left; (focus (intro w_ hw_; obtain ⟨⟨f0_, f1_, f2_⟩, f3_, f4_, f5_, f6_, f7_, f8_, f9_⟩ := HFA.out w_ hw_; go_simp; (try with_reducible rfl); done)); (try simp only [Act.put, List.setIfInBounds_toArray, List.set_cons_zero, List.set_cons_succ])) | (refine runL_call (f := ?_) (args := ?_) (w1 := ?_) (by rfl) (by rfl) ?_ ?_; rotate_left 3; (focus (go_simp; refine ⟨⟨?_, ?_⟩, ?_⟩ <;> with_reducible rfl)); (with_reducible refine (HONE.out _ hS).mono ?_); rintro e w5 ⟨rfl, hb5⟩; replace hS := hS.trans (hb5.mono hS.size); have HM5 := Lib.hid (hm0.next hb5); clear hb5; refine ⟨_, rfl, .inr hS, ?_⟩; (try simp only [Act.put, List.setIfInBounds_toArray, List.set_cons_zero, List.set_cons_succ])) | (refine runL_call (f := ?_) (args := ?_) (w1 := ?_) (by rfl) (by rfl) ?_ ?_; rotate_left 3; (focus (go_simp; refine ⟨⟨?_, ?_⟩, ?_⟩ <;> with_reducible rfl)); (with_reducible refine (HMK.out _ HM5.out).mono ?_); rintro e w6 ⟨rfl, hm6⟩; have HM6 := Lib.hid hm6; replace hS := hm6.below; clear hm6; refine ⟨_, rfl, .inr hS, ?_⟩; (try simp only [Act.put, List.setIfInBounds_toArray, List.set_cons_zero, List.set_cons_succ])))
        (refine runL_nil ?_)
        go_wp2
        exact K2.out (HNO.out HN.out) _ _ _ _ _ _ _ _ _ _ _ _ _ _ _ _ _ _ _ _ _ _ _ _ _ _ _ _ _ _ _ _ _ _ _ _ _ _ _ _ _ _ _ _ _ _ _ _ _ hS
      have HLK := Lib.hid hlk
      rw [hlk] at HMK
      clear hlk
      (refine wp_region_lines (Below w0.heap.size w0) (by kernel_rfl) (by kernel_rfl) (HMR.out.below.drew) ?_)
      (try simp only [])
      repeat (first | (refine runL_no (by rfl) ?_; (try simp only [Act.put, List.setIfInBounds_toArray, List.set_cons_zero, List.set_cons_succ])) | (refine runL_val (v := ?_) (by rfl) ?_ ?_; rotate_left; (focus (intro w_ hw_; obtain ⟨⟨f0_, f1_, f2_⟩, f3_, f4_, f5_, f6_, f7_, f8_, f9_⟩ := HFA.out w_ hw_; go_simp; (try with_reducible rfl); done)); (try simp only [Act.put, List.setIfInBounds_toArray, List.set_cons_zero, List.set_cons_succ])) | (refine runL_call (f := ?_) (args := ?_) (w1 := ?_) (by rfl) (by rfl) ?_ ?_; rotate_left 3; (focus (go_simp; refine ⟨⟨?_, ?_⟩, ?_⟩ <;> with_reducible rfl)); (with_reducible refine (HONE.out _ hS).mono ?_); rintro e w5 ⟨rfl, hb5⟩; replace hS := hS.trans (hb5.mono hS.size); have HM5 := Lib.hid (hm0.next hb5); clear hb5; refine ⟨_, rfl, .inr hS, ?_⟩; (try simp only [Act.put, List.setIfInBounds_toArray, List.set_cons_zero, List.set_cons_succ])) | (refine runL_call (f := ?_) (args := ?_) (w1 := ?_) (by rfl) (by rfl) ?_ ?_; rotate_left 3; (focus (go_simp; refine ⟨⟨?_, ?_⟩, ?_⟩ <;> with_reducible rfl)); (with_reducible refine (HMK.out _ HM5.out).mono ?_); rintro e w6 ⟨rfl, hm6⟩; have HM6 := Lib.hid hm6; replace hS := hm6.below; clear hm6; refine ⟨_, rfl, .inr hS, ?_⟩; (try simp only [Act.put, List.setIfInBounds_toArray, List.set_cons_zero, List.set_cons_succ])))
      (refine runL_nil ?_)
      obtain ⟨⟨p0, p1, p2⟩, x0, x1, x2, x3, x4, x5, x6⟩ := HFA.out _ hS
      clear hS hm0
      by_cases h15 : o.kind = 15
      · have e15 : (o.kind == 15) = true := by rw [beq_iff_eq]; exact h15
        have hw1 : IntKind.i64.wrap (d + 1) = d + 1 := by rw [IntKind.wrap_i64]; omega
        have HS := Lib.hid (show opTo k.vars k.ops (j + 1) = _ from HNX.out.trans (step_yes (d' := d + 1) HOK.out HLK.out (by rw [if_pos h15])))
        clear h15
        cases g1 : decide ((d + 1) < 0)
        rotate_left
        · have HN := Lib.hid (show opTo k.vars k.ops (j + 1) = none by rw [HS.out, if_pos (.inl (of_decide_eq_true g1))])
          go_wp2
          exact K2.out (HNO.out HN.out) _ _ _ _ _ _ _ _ _ _ _ _ _ _ _ _ _ _ _ _ _ _ _ _ _ _ _ _ _ _ _ _ _ _ _ _ _ _ _ _ _ _ _ _ _ _ _ _ _ HM6.out.below
        cases g2 : decide (4 < (d + 1))
        rotate_left
        · have HN := Lib.hid (show opTo k.vars k.ops (j + 1) = none by rw [HS.out, if_pos (.inr (of_decide_eq_true g2))])
          go_wp2
          exact K2.out (HNO.out HN.out) _ _ _ _ _ _ _ _ _ _ _ _ _ _ _ _ _ _ _ _ _ _ _ _ _ _ _ _ _ _ _ _ _ _ _ _ _ _ _ _ _ _ _ _ _ _ _ _ _ HM6.out.below
        have HN := Lib.hid (show opTo k.vars k.ops (j + 1) = some (madeK made o, (d + 1)) by rw [HS.out, if_neg (by have := of_decide_eq_false g1; have := of_decide_eq_false g2; omega)])
        have HD := Lib.hid (show 0 ≤ (d + 1) ∧ (d + 1) ≤ 4 by have := of_decide_eq_false g1; have := of_decide_eq_false g2; omega)
        go_wp2
        go_roundw
        case rel => exact ⟨j + 1, madeK made o, (d + 1), hlt, by go_num, rfl, rfl, HN, HM6.out, HD.out⟩
        case measure => simp [intOf]; omega
      have e15 : (o.kind == 15) = false := beq_eq_false_iff_ne.2 h15
      by_cases h16 : o.kind = 16
      · have e16 : (o.kind == 16) = true := by rw [beq_iff_eq]; exact h16
        have hw1 : IntKind.i64.wrap (d - 1) = d - 1 := by rw [IntKind.wrap_i64]; omega
        have HS := Lib.hid (show opTo k.vars k.ops (j + 1) = _ from HNX.out.trans (step_yes (d' := d - 1) HOK.out HLK.out (by rw [if_neg h15, if_pos h16])))
        clear h15 h16
        cases g1 : decide ((d - 1) < 0)
        rotate_left
        · have HN := Lib.hid (show opTo k.vars k.ops (j + 1) = none by rw [HS.out, if_pos (.inl (of_decide_eq_true g1))])
          go_wp2
          exact K2.out (HNO.out HN.out) _ _ _ _ _ _ _ _ _ _ _ _ _ _ _ _ _ _ _ _ _ _ _ _ _ _ _ _ _ _ _ _ _ _ _ _ _ _ _ _ _ _ _ _ _ _ _ _ _ HM6.out.below
        cases g2 : decide (4 < (d - 1))
        rotate_left
        · have HN := Lib.hid (show opTo k.vars k.ops (j + 1) = none by rw [HS.out, if_pos (.inr (of_decide_eq_true g2))])
          go_wp2
          exact K2.out (HNO.out HN.out) _ _ _ _ _ _ _ _ _ _ _ _ _ _ _ _ _ _ _ _ _ _ _ _ _ _ _ _ _ _ _ _ _ _ _ _ _ _ _ _ _ _ _ _ _ _ _ _ _ HM6.out.below
        have HN := Lib.hid (show opTo k.vars k.ops (j + 1) = some (madeK made o, (d - 1)) by rw [HS.out, if_neg (by have := of_decide_eq_false g1; have := of_decide_eq_false g2; omega)])
        have HD := Lib.hid (show 0 ≤ (d - 1) ∧ (d - 1) ≤ 4 by have := of_decide_eq_false g1; have := of_decide_eq_false g2; omega)
        go_wp2
        go_roundw
        case rel => exact ⟨j + 1, madeK made o, (d - 1), hlt, by go_num, rfl, rfl, HN, HM6.out, HD.out⟩
        case measure => simp [intOf]; omega
      have e16 : (o.kind == 16) = false := beq_eq_false_iff_ne.2 h16
      have HS := Lib.hid (show opTo k.vars k.ops (j + 1) = _ from HNX.out.trans (step_yes (d' := d) HOK.out HLK.out (by rw [if_neg h15, if_neg h16])))
      clear h15 h16
      cases g1 : decide (d < 0)
      rotate_left
      · have HN := Lib.hid (show opTo k.vars k.ops (j + 1) = none by rw [HS.out, if_pos (.inl (of_decide_eq_true g1))])
        go_wp2
        exact K2.out (HNO.out HN.out) _ _ _ _ _ _ _ _ _ _ _ _ _ _ _ _ _ _ _ _ _ _ _ _ _ _ _ _ _ _ _ _ _ _ _ _ _ _ _ _ _ _ _ _ _ _ _ _ _ HM6.out.below
      cases g2 : decide (4 < d)
      rotate_left
      · have HN := Lib.hid (show opTo k.vars k.ops (j + 1) = none by rw [HS.out, if_pos (.inr (of_decide_eq_true g2))])
        go_wp2
        exact K2.out (HNO.out HN.out) _ _ _ _ _ _ _ _ _ _ _ _ _ _ _ _ _ _ _ _ _ _ _ _ _ _ _ _ _ _ _ _ _ _ _ _ _ _ _ _ _ _ _ _ _ _ _ _ _ HM6.out.below
      have HN := Lib.hid (show opTo k.vars k.ops (j + 1) = some (madeK made o, d) by rw [HS.out, if_neg (by have := of_decide_eq_false g1; have := of_decide_eq_false g2; omega)])
      have HD := Lib.hid (show 0 ≤ d ∧ d ≤ 4 by have := of_decide_eq_false g1; have := of_decide_eq_false g2; omega)
      go_wp2
      go_roundw
      case rel => exact ⟨j + 1, madeK made o, d, hlt, by go_num, rfl, rfl, HN, HM6.out, HD.out⟩
      case measure => simp [intOf]; omega
    · have d1 : decide (j < no) = false := decide_eq_false hlt
      have HN := Lib.hid (show opTo k.vars k.ops k.ops.length = some (made, d) by rw [← HT.out]; congr 1; have := HNO2.out; omega)
      clear hm hkr
      go_wp2
      exact K1.out made d HN.out _ _ _ _ _ _ _ _ _ _ _ _ _ _ _ _ _ _ _ _ _ _ _ _ _ _ _ _ _ _ _ _ _ _ _ _ _ _ _ _ _ _ _ _ _ _ _ _ HMR.out

end Go.Proofs.YtjbabpnepjhllaaGreat

/- keysmithref19.Check. -/
namespace Go.Proofs.YtjbabpnepjhllaaGreat
open Go.RowKit

theorem vars_some {vs : List KVar} {m : Nat} (h : varTo vs vs.length = some m) : varsK vs = (decide (1 ≤ vs.length) && (decide (vs.length ≤ 256) && decide (m ≤ 12))) := by
  unfold varsK; rw [h]
set_option maxRecDepth 100000 in
set_option maxHeartbeats 20000000 in
theorem rcheck_any (Av Ao Ar : Option Addr) (nv cv no co nr cr : Nat) (k : Krn) (w : World) (F : Nat → Prop) (hk : KernAt w F [.slice Av nv cv, .slice Ao no co, .slice Ar nr cr] k) (hF : ∀ k, F k → k < w.heap.size) (hvn : k.vars.length ≤ 100000) :
    Calls Tryz.prog 11 #[.agg #[.slice Av nv cv, .slice Ao no co, .slice Ar nr cr]] w fun e w' => e = .returned (.int .i64 (errK k)) ∧ Below w.heap.size w w' := by
  obtain ⟨W, hW⟩ : ∃ W, W = w.alloc (.cells #[.slice Av nv cv, .slice Ao no co, .slice Ar nr cr] 25) := ⟨_, rfl⟩
  have hb : Below w.heap.size w W := by rw [hW]; exact (Below.refl _ _).alloc (Nat.le_refl _) _
  have hz : W.heap.size = w.heap.size + 1 := by rw [hW]; simp
  have hbox : W.heap[w.heap.size]? = some (.cells #[.slice Av nv cv, .slice Ao no co, .slice Ar nr cr] 25 (0, 0)) := by rw [hW]; exact heap_alloc_new w _
  have hk2 : KernAt W (fun k => k < W.heap.size) [.slice Av nv cv, .slice Ao no co, .slice Ar nr cr] k := (hk.keep (SameOn.of_below hb hF)).mono fun j hj => by have := hF j hj; omega
  have hkb := kbox_of hbox hk2
  have HW := Lib.hid hW
  have HB := Lib.hid hb
  have HK := Lib.hid hkb
  have HNN := Lib.hid hkb.nv
  have n5 : nv ≤ 100000 := by have := hkb.nv; omega
  have n6 : no ≤ 9223372036854775807 := by have := hkb.nv; have := hk.no; omega
  have n7 : nr ≤ 9223372036854775807 := by have := hkb.nv; have := hk.nr; omega
  have he := errK_eq k
  have c0 := hkb.c0
  have c1 := hkb.c1
  have c2 := hkb.c2
  clear hW hb hz hbox hk2 hkb hk hF
  cases d1 : decide ((nv : Int) < 1)
  rotate_left
  · have HX := Lib.hid (show errK k = 2 by
      rw [he, show varsK k.vars = false by
        cases hv : varsK k.vars
        · rfl
        · have := varsK_len hv; have := of_decide_eq_true d1; have := HNN.out; omega]
      rfl)
    clear he
    go_enter Tryz.func11, Tryz.ntmps11
    go_upto_region 1 with (first | go_in)
    rw [← HW.out]
    clear HW
    go_wp2
    go_ret
    exact ⟨by rw [HX.out]; rfl, HB.out⟩
  cases d2 : decide ((256 : Int) < (nv : Int))
  rotate_left
  · have HX := Lib.hid (show errK k = 2 by
      rw [he, show varsK k.vars = false by
        cases hv : varsK k.vars
        · rfl
        · have := varsK_len hv; have := of_decide_eq_true d2; have := HNN.out; omega]
      rfl)
    clear he
    go_enter Tryz.func11, Tryz.ntmps11
    go_upto_region 1 with (first | go_in)
    rw [← HW.out]
    clear HW
    go_wp2
    go_ret
    exact ⟨by rw [HX.out]; rfl, HB.out⟩
  cases d3 : decide ((4096 : Int) < (no : Int))
  rotate_left
  · have HX := Lib.hid (show errK k = 2 by rw [he, decide_eq_false (p := k.ops.length ≤ 4096) (by have := of_decide_eq_true d3; have := HNN.out; omega), Bool.false_and, Bool.and_false]; rfl)
    clear he
    go_enter Tryz.func11, Tryz.ntmps11
    go_upto_region 1 with (first | go_in)
    rw [← HW.out]
    clear HW
    go_wp2
    go_ret
    exact ⟨by rw [HX.out]; rfl, HB.out⟩
  rw [decide_eq_true (p := k.ops.length ≤ 4096) (by have := of_decide_eq_false d3; have := HNN.out; omega), Bool.true_and] at he
  cases d4 : decide ((4096 : Int) < (nr : Int))
  rotate_left
  · have HX := Lib.hid (show errK k = 2 by rw [he, decide_eq_false (p := k.reqs.length ≤ 4096) (by have := of_decide_eq_true d4; have := HNN.out; omega), Bool.false_and, Bool.and_false]; rfl)
    clear he
    go_enter Tryz.func11, Tryz.ntmps11
    go_upto_region 1 with (first | go_in)
    rw [← HW.out]
    clear HW
    go_wp2
    go_ret
    exact ⟨by rw [HX.out]; rfl, HB.out⟩
  rw [decide_eq_true (p := k.reqs.length ≤ 4096) (by have := of_decide_eq_false d4; have := HNN.out; omega), Bool.true_and] at he
  have HE := Lib.hid he
  have HLE := Lib.hid (show 1 ≤ nv ∧ nv ≤ 256 ∧ no ≤ 4096 ∧ nr ≤ 4096 by have := of_decide_eq_false d1; have := of_decide_eq_false d2; have := of_decide_eq_false d3; have := of_decide_eq_false d4; omega)
  clear he
  go_enter Tryz.func11, Tryz.ntmps11
  go_upto_region 1 with (first | go_in)
  rw [← HW.out]
  clear HW
  go_wp2
  clear d1 d2 d3 d4 c0 c1 c2
  refine wp_code (c := partL Tryz.f11 0) (by kernel_rfl) ?_
  refine rchk_b0 _ _ HK.out hvn ?_ ?_
  rotate_left
  · intro hno a3 a4 a5 a35 a36 a37 a38 a39 a40 a41 a42 a43 a44 a45 a46 a47 a48 a49 a50 a51 a52 a53 a54 a55 a56 a57 a58 a59 a60 a61 a62 a63 a64 a65 a66 a67 a68 a69 a70 a71 a72 a73 a74 a75 a76 a77 a78 a79 a80 a81 a82 a83 a84 a85 a86 a87 a88 a89 a90 a91 a92 a93 a94 a95 a96 a97 a98 w2 hb2
    have HX := Lib.hid (show errK k = 2 by rw [HE.out, hno]; rfl)
    clear hno
    go_wp2
    go_ret
    exact ⟨by rw [HX.out]; rfl, HB.out.trans (hb2.mono HB.out.size)⟩
  intro m hm12 a4 a5 a35 a36 a37 a38 a39 a40 a41 a42 a43 a44 a45 a46 a47 a48 a49 a50 a51 a52 a53 a54 a55 a56 a57 a58 a59 a60 a61 a62 a63 a64 a65 a66 a67 a68 a69 a70 a71 a72 a73 a74 a75 a76 a77 a78 a79 a80 a81 a82 a83 a84 a85 a86 a87 a88 a89 a90 a91 a92 a93 a94 a95 a96 a97 a98 w2 hb2
  have hvk := vars_some hm12
  rw [decide_eq_true (p := 1 ≤ k.vars.length) (by have := HLE.out; have := HNN.out; omega), decide_eq_true (p := k.vars.length ≤ 256) (by have := HLE.out; have := HNN.out; omega), Bool.true_and, Bool.true_and] at hvk
  have HB2 := Lib.hid (HB.out.trans (hb2.mono HB.out.size))
  have HK2 := Lib.hid (HK.out.next hb2)
  have hml : m ≤ 100000 := by have := varTo_le hm12; omega
  clear hb2 hm12
  cases d5 : decide ((12 : Int) < (m : Int))
  rotate_left
  · have HX := Lib.hid (show errK k = 2 by rw [HE.out, hvk, decide_eq_false (p := m ≤ 12) (by have := of_decide_eq_true d5; omega)]; rfl)
    clear hvk
    go_wp2
    go_ret
    exact ⟨by rw [HX.out]; rfl, HB2.out⟩
  have hx := HE.out
  rw [hvk, decide_eq_true (p := m ≤ 12) (by have := of_decide_eq_false d5; omega), Bool.true_and] at hx
  have HE := Lib.hid hx
  clear hvk hx
  go_wp2
  clear d5
  refine wp_code (c := partL Tryz.f11 2) (by kernel_rfl) ?_
  refine rchk_b2 _ _ HK2.out (by have := HNN.out; have := HLE.out; omega) ?_ ?_
  rotate_left
  · intro hno b6 b7 b101 b102 b103 b104 b105 b106 b107 b108 b109 b110 b111 b112 b113 b114 b115 b116 b117 b118 b119 b120 b121 b122 b123 b124 b125 b126 b127 b128 b129 b130 b131 b132 b133 b134 b135 b136 b137 b138 b139 b140 b141 b142 b143 b144 b145 b146 b147 w3 hb3
    have HX := Lib.hid (show errK k = 2 by rw [HE.out, hno]; rfl)
    clear hno
    go_wp2
    go_ret
    exact ⟨by rw [HX.out]; rfl, HB2.out.trans (hb3.mono HB2.out.size)⟩
  intro hall b6 b7 b101 b102 b103 b104 b105 b106 b107 b108 b109 b110 b111 b112 b113 b114 b115 b116 b117 b118 b119 b120 b121 b122 b123 b124 b125 b126 b127 b128 b129 b130 b131 b132 b133 b134 b135 b136 b137 b138 b139 b140 b141 b142 b143 b144 b145 b146 b147 w3 hb3
  have hx := HE.out
  rw [hall, Bool.true_and] at hx
  have HE := Lib.hid hx
  have HK3 := Lib.hid (HK2.out.next hb3)
  have HB3 := Lib.hid (HB2.out.trans (hb3.mono HB2.out.size))
  clear hall hx hb3
  have c0 := HK3.out.c0
  have c1 := HK3.out.c1
  have c2 := HK3.out.c2
  have hmk := make_bool nv n5
  go_upto_region 22 with (first | go_in)
  obtain ⟨W4, hW4⟩ : ∃ W, W = w3.alloc (.cells (Array.replicate nv (Value.bool false)) 4) := ⟨_, rfl⟩
  rw [← hW4]
  have hb4 : Below w3.heap.size w3 W4 := by rw [hW4]; exact (Below.refl _ _).alloc (Nat.le_refl _) _
  have hrow : W4.ownsRow w3.heap.size 4 1 (.slice (some ⟨w3.heap.size, 0, none⟩) nv nv) nv ((List.replicate nv false).map Value.bool) := by rw [hW4]; exact own_made (Nat.le_refl _) n5
  have HM4 := Lib.hid (show MadeR w3 W4 w3.heap.size nv (madeTo k.vars 0) from ⟨hb4, by unfold madeTo; rw [List.take_zero, List.map_nil, List.nil_append, Nat.sub_zero, ← HNN.out.1]; exact hrow⟩)
  obtain ⟨gm, hgm⟩ : ∃ b, b = w3.heap.size := ⟨_, rfl⟩
  rw [← hgm] at HM4 ⊢
  clear hW4 hb4 hrow hgm hmk c0 c1 c2
  go_wp2
  refine wp_code (c := partL Tryz.f11 4) (by kernel_rfl) ?_
  refine rchk_b4 (w0 := w3) (gm := gm) _ _ HK3.out hvn HM4.out ?_
  intro c10 c152 c153 c154 c155 c156 c157 c158 c159 c160 c161 c162 c163 c164 c165 c166 c167 c168 c169 c170 c171 c172 c173 c174 c175 c176 c177 w5 hm5
  have HM5 := Lib.hid hm5
  clear hm5
  go_wp2
  refine wp_code (c := partL Tryz.f11 6) (by kernel_rfl) ?_
  refine rchk_b6 (w0 := w3) (gm := gm) _ _ HK3.out (by have := HNN.out; have := HLE.out; omega) HM5.out ?_ ?_
  rotate_left
  · intro hnone d8 d11 d178 d179 d180 d181 d182 d183 d184 d185 d186 d187 d188 d189 d190 d191 d192 d193 d194 d195 d196 d197 d198 d199 d200 d201 d202 d203 d204 d205 d206 d207 d208 d209 d210 d211 d212 d213 d214 d215 d216 d217 d218 d219 d220 d221 d222 d223 w6 hb6
    have HX := Lib.hid (show errK k = 2 by rw [HE.out]; unfold opsK; rw [hnone]; rfl)
    clear hnone
    go_wp2
    go_ret
    exact ⟨by rw [HX.out]; rfl, HB3.out.trans (hb6.mono HB3.out.size)⟩
  intro made dd hops d11 d178 d179 d180 d181 d182 d183 d184 d185 d186 d187 d188 d189 d190 d191 d192 d193 d194 d195 d196 d197 d198 d199 d200 d201 d202 d203 d204 d205 d206 d207 d208 d209 d210 d211 d212 d213 d214 d215 d216 d217 d218 d219 d220 d221 d222 d223 w6 hm6
  have hek := HE.out
  unfold opsK at hek
  rw [hops] at hek
  have HE := Lib.hid hek
  have HM6 := Lib.hid hm6
  clear hops hek hm6
  go_wp2
  refine wp_code (c := partL Tryz.f11 9) (by kernel_rfl) ?_
  refine rchk_b9 (w0 := w3) (gm := gm) (made := made) _ _ HK3.out hvn HM6.out ?_ ?_
  rotate_left
  · intro hno e12 e224 e225 e226 e227 e228 e229 e230 e231 e232 e233 e234 e235 e236 e237 e238 e239 e240 e241 e242 e243 e244
    have HX := Lib.hid (show errK k = 2 by rw [HE.out]; simp only [hno, Bool.false_and]; rfl)
    clear hno
    go_wp2
    go_ret
    exact ⟨by rw [HX.out]; rfl, HB3.out.trans (HM6.out.below.mono HB3.out.size)⟩
  intro hyes e12 e224 e225 e226 e227 e228 e229 e230 e231 e232 e233 e234 e235 e236 e237 e238 e239 e240 e241 e242 e243 e244
  have hek := HE.out
  simp only [hyes, Bool.true_and] at hek
  clear hyes
  cases d6 : (dd == 0)
  · have d7 : (dd != 0) = true := by rw [bne, d6]; rfl
    rw [d6] at hek
    have HX := Lib.hid (show errK k = 2 by rw [hek]; rfl)
    clear hek
    go_wp2
    go_ret
    exact ⟨by rw [HX.out]; rfl, HB3.out.trans (HM6.out.below.mono HB3.out.size)⟩
  · have d7 : (dd != 0) = false := by rw [bne, d6]; rfl
    rw [d6] at hek
    have HX := Lib.hid (show errK k = 0 by rw [hek]; rfl)
    clear hek
    go_wp2
    go_ret
    exact ⟨by rw [HX.out]; rfl, HB3.out.trans (HM6.out.below.mono HB3.out.size)⟩
end Go.Proofs.YtjbabpnepjhllaaGreat

/- keysmithref19.Ends, plain: its row as it grows. -/
namespace Go.Proofs.YtjbabpnepjhllaaGreat
open Go.RowKit

def outR (ops : List KOp) (j : Nat) : List Int := (kTo ops j).1.take j ++ List.replicate (ops.length - j) 0
theorem outR_len (ops : List KOp) {j : Nat} (hj : j ≤ ops.length) : (outR ops j).length = ops.length := by
  unfold outR
  rw [List.length_append, List.length_take, kTo_len, List.length_replicate]
  omega
theorem outR_zero (ops : List KOp) : outR ops 0 = List.replicate ops.length 0 := by unfold outR; simp
theorem outR_end (ops : List KOp) : outR ops ops.length = kEnds ops := by
  unfold outR kEnds
  rw [Nat.sub_self, List.replicate_zero, List.append_nil, List.take_of_length_le (by rw [kTo_len]; exact Nat.le_refl _)]
theorem outR_get (ops : List KOp) {j i : Nat} : (outR ops j)[i]? = if i < j then (kTo ops j).1[i]? else if i < ops.length then some 0 else none := by
  unfold outR
  by_cases h : i < j
  · rw [if_pos h]
    by_cases hn : i < ops.length
    · rw [List.getElem?_append_left (by rw [List.length_take, kTo_len]; omega), List.getElem?_take_of_lt h]
    · rw [List.getElem?_append_right (by rw [List.length_take, kTo_len]; omega), List.getElem?_eq_none (by rw [List.length_replicate, List.length_take, kTo_len]; omega), List.getElem?_eq_none (by rw [kTo_len]; omega)]
  · rw [if_neg h]
    by_cases hn : i < ops.length
    · rw [if_pos hn, List.getElem?_append_right (by rw [List.length_take, kTo_len]; omega), List.getElem?_replicate, if_pos (by rw [List.length_take, kTo_len]; omega)]
    · rw [if_neg hn, List.getElem?_append_right (by rw [List.length_take, kTo_len]; omega), List.getElem?_eq_none (by rw [List.length_replicate, List.length_take, kTo_len]; omega)]
theorem kTo_rest (ops : List KOp) : ∀ j i, j ≤ i → i < ops.length → (kTo ops j).1[i]? = some (-1) := by
  intro j
  induction j with
  | zero => intro i _ hi; show (List.replicate ops.length (-1 : Int))[i]? = _; rw [List.getElem?_replicate, if_pos hi]
  | succ j ih =>
    intro i hji hi
    have h0 := ih i (by omega) hi
    have hlt := kS_lt ops j
    cases ho : ops[j]? with
    | none => simp only [kTo, ho]; exact h0
    | some o =>
      rw [kTo_next ho]
      unfold kStep
      split
      · exact h0
      · split
        · split
          · rename_i m r hs
            have hm : m < j := hlt m (by unfold kS; rw [hs]; simp)
            simp only
            rw [List.getElem?_set_ne (by omega), List.getElem?_set_ne (by omega)]
            exact h0
          · exact h0
        · exact h0
theorem out_same {ops : List KOp} {j : Nat} {o : KOp} (ho : ops[j]? = some o) (h16 : o.kind ≠ 16) : outR ops (j + 1) = (outR ops j).set j (-1) := by
  have hj := (List.getElem?_eq_some_iff.1 ho).1
  have hk : (kTo ops (j + 1)).1 = (kTo ops j).1 := by
    rw [kTo_next ho]
    unfold kStep
    rw [if_neg h16]
    split <;> rfl
  refine List.ext_getElem? fun i => ?_
  rw [List.getElem?_set, outR_get, outR_get, outR_len ops (by omega), hk]
  by_cases h1 : j = i
  · subst h1
    have h := kTo_rest ops j j (Nat.le_refl _) hj
    simp [h, hj]
  · rw [if_neg h1]
    by_cases h2 : i < j
    · rw [if_pos h2, if_pos (by omega)]
    · rw [if_neg h2, if_neg (by omega)]
theorem out_close {ops : List KOp} {j q : Nat} {st : List Nat} {o : KOp} (ho : ops[j]? = some o) (h16 : o.kind = 16) (hs : (kTo ops j).2 = q :: st) : outR ops (j + 1) = (((outR ops j).set j (-1)).set j (q : Int)).set q (j : Int) := by
  have hj := (List.getElem?_eq_some_iff.1 ho).1
  have hq : q < j := kS_lt ops j q (by unfold kS; rw [hs]; simp)
  have hk : (kTo ops (j + 1)).1 = ((kTo ops j).1.set q (j : Int)).set j (q : Int) := by
    rw [kTo_next ho]
    unfold kStep
    rw [if_neg (by omega), if_pos h16, hs]
  refine List.ext_getElem? fun i => ?_
  rw [List.getElem?_set, List.getElem?_set, List.getElem?_set, outR_get, outR_get, List.length_set, List.length_set, outR_len ops (by omega), hk, List.getElem?_set, List.getElem?_set, List.length_set, kTo_len]
  by_cases h1 : q = i
  · subst h1
    have h2 : ¬ j = q := by omega
    have h3 : q < ops.length := by omega
    have h4 : q < j + 1 := by omega
    simp [h2, h3, h4]
  · by_cases h2 : j = i
    · subst h2
      simp [hj, h1]
    · rw [if_neg h2, if_neg h1, if_neg h1, if_neg h2, if_neg h2]
      by_cases h3 : i < j
      · rw [if_pos (by omega), if_pos h3]
      · rw [if_neg (by omega), if_neg h3]
end Go.Proofs.YtjbabpnepjhllaaGreat

/- keysmithref19.Ends. -/
namespace Go.Proofs.YtjbabpnepjhllaaGreat
open Go.RowKit

theorem make_ints (n : Nat) (hn : n ≤ 65536) (w : World) : (Instr.makeSlice 50 (.int .i64 n) (.int .i64 n)).run Tryz.prog w = .ok (.slice (some ⟨w.heap.size, 0, none⟩) n n) (w.alloc (.cells (intV (List.replicate n 0)).toArray 3)) := by
  obtain ⟨i0, hi, hz0, hz1, hz2⟩ := info_parts infoI
  have h := run_make (P := Tryz.prog) w 50 3 i0 (.int .i64 0) Tryz.underlying50 hi hz0 .i64 .i64 n n (by omega) (by omega) (by rw [hz2]; omega) (by omega)
  rw [hz1] at h
  have e : (Value.int .i64 0).cells = #[.int .i64 0] := rfl
  have e2 : madeCells #[.int .i64 0] n = (intV (List.replicate n 0)).toArray := by
    refine Array.ext (by simp [size_madeCells, intV]) fun i h1 h2 => ?_
    simp [madeCells, Nat.mod_one, intV]
  rw [e] at h
  simp only [Int.toNat_natCast, Nat.mul_one, e2] at h
  exact h
set_option maxRecDepth 100000 in
set_option maxHeartbeats 20000000 in
theorem rends_any (Av Ao Ar : Option Addr) (nv cv no co nr cr : Nat) (k : Krn) (w : World) (F : Nat → Prop) (hk : KernAt w F [.slice Av nv cv, .slice Ao no co, .slice Ar nr cr] k) (hF : ∀ k, F k → k < w.heap.size) (hvn : k.vars.length ≤ 100000) (hc : checkK k = true) :
    Calls Tryz.prog 20 #[.agg #[.slice Av nv cv, .slice Ao no co, .slice Ar nr cr]] w (NumsSay (kEnds k.ops) w) := by
  obtain ⟨W, hW⟩ : ∃ W, W = w.alloc (.cells #[.slice Av nv cv, .slice Ao no co, .slice Ar nr cr] 25) := ⟨_, rfl⟩
  have hb : Below w.heap.size w W := by rw [hW]; exact (Below.refl _ _).alloc (Nat.le_refl _) _
  have hz : W.heap.size = w.heap.size + 1 := by rw [hW]; simp
  have hbox : W.heap[w.heap.size]? = some (.cells #[.slice Av nv cv, .slice Ao no co, .slice Ar nr cr] 25 (0, 0)) := by rw [hW]; exact heap_alloc_new w _
  have hk2 : KernAt W (fun k => k < W.heap.size) [.slice Av nv cv, .slice Ao no co, .slice Ar nr cr] k := (hk.keep (SameOn.of_below hb hF)).mono fun j hj => by have := hF j hj; omega
  have hkb := kbox_of hbox hk2
  have hchk := rcheck_any Av Ao Ar nv cv no co nr cr k W _ hk2 (fun k hk => hk) hvn
  rw [show errK k = 0 by unfold errK; rw [hc]; rfl] at hchk
  have HW := Lib.hid hW
  have HB := Lib.hid hb
  have HK := Lib.hid hkb
  have HCH := Lib.hid hchk
  have HNO := Lib.hid hkb.nv.2.1
  have HBAL := Lib.hid (check_bal hc)
  have n6 : no ≤ 4096 := by have := hkb.nv; have := (checkK_parts hc).2.1; omega
  have c0 := hkb.c0
  have c1 := hkb.c1
  have c2 := hkb.c2
  clear hW hb hz hbox hk2 hkb hk hF hc hchk
  obtain ⟨i0, hi, hz0, hz1, hz2⟩ := info_parts infoI
  go_enter Tryz.func20, Tryz.ntmps20
  go_upto_region 1 with (first | go_in)
  rw [← HW.out]
  clear HW
  go_upto_region 3 with (first | ((with_reducible refine HCH.out.mono ?_); rintro e w1 ⟨rfl, hb1⟩; have HK1 := Lib.hid (HK.out.next hb1); have HB1 := Lib.hid (HB.out.trans (hb1.mono HB.out.size)); clear hb1) | go_in)
  clear c0 c1 c2 HCH
  have c0 := HK1.out.c0
  have c1 := HK1.out.c1
  have c2 := HK1.out.c2
  have hmk := make_ints no (by omega)
  go_upto_region 4 with (first | go_in)
  obtain ⟨w2, hw2⟩ : ∃ W, W = w1.alloc (.cells (intV (List.replicate no 0)).toArray 3) := ⟨_, rfl⟩
  rw [show w1.alloc (.cells (intV (List.replicate no 0)).toArray 3) = w2 from hw2.symm]
  obtain ⟨g, hg⟩ : ∃ g, g = w1.heap.size := ⟨_, rfl⟩
  have HST := Lib.hid (show EndAt w1 w2 g (outR k.ops 0) (kTo k.ops 0).2 (.slice none 0 0) 0 from ⟨by rw [hw2]; exact (Below.refl _ _).alloc (Nat.le_refl _) _, by omega, by
    rw [outR_zero, ← HNO.out, hw2, hg]
    exact heap_alloc_new w1 _, World.ownsRow_nil _ _ _ _, by simp [Value.ownBlock]⟩)
  rw [← hg]
  clear c0 c1 c2 hmk hw2 hg
  go_wp2
  go_loopw [4, 5, 6] (fun s4 s5 _ wr => ∃ (j m : Nat) (A : Option Addr) (c : Nat), j ≤ no ∧ s5 = .int .i64 (j : Nat) ∧ s4 = .slice A m c ∧ EndAt w1 wr g (outR k.ops j) (kTo k.ops j).2 (.slice A m c) m) (fun _ s5 _ _ => no - (intOf s5).toNat)
  case atStart => exact ⟨0, 0, none, 0, by omega, rfl, rfl, HST.out⟩
  case round =>
    obtain ⟨j, m, A, c, hj, rfl, rfl, he⟩ := hrel
    have HER := Lib.hid he
    have hkr := HK1.out.next he.below
    have c0 := hkr.c0
    have c1 := hkr.c1
    have c2 := hkr.c2
    by_cases hlt : j < no
    · have d1 : decide (j < no) = true := decide_eq_true hlt
      obtain ⟨o, hx⟩ : ∃ v, k.ops[j]? = some v := ⟨_, List.getElem?_eq_getElem (by have := HNO.out; omega)⟩
      obtain ⟨u, hu⟩ : ∃ u, (outR k.ops j)[j]? = some u := ⟨_, List.getElem?_eq_getElem (by rw [outR_len _ (by have := HNO.out; omega)]; have := HNO.out; omega)⟩
      have q0 := he.cell hu
      have q1 := he.frozen j
      have HS1 := Lib.hid (he.set j (-1))
      have i0' : (0 : Int) ≤ (j : Int) := by omega
      have i1 : (j : Int) < (no : Int) := by omega
      have i2 : IntKind.i64.wrap (j : Int) = j := by rw [IntKind.wrap_i64]; omega
      have HX := Lib.hid hx
      clear he hx hu hkr
      go_upto_region 9 with (first | go_in)
      obtain ⟨WO, hWO⟩ : ∃ q, q = wr.setCell ⟨g, j, none⟩ (.int .i64 (-1)) := ⟨_, rfl⟩
      rw [← hWO] at HS1 ⊢
      clear hWO q0 q1 c0 c1 c2
      have hkr := HK1.out.next HS1.out.below
      have c0 := hkr.c0
      have c1 := hkr.c1
      have c2 := hkr.c2
      obtain ⟨gg, off, hA, hgg, x0, x1, x2, x3, x4, x5, x6⟩ := hkr.ops.at_ HX.out
      subst hA
      have HEO := Lib.hid HS1.out
      have hsl : m ≤ j := by
        have h1 := HS1.out.len
        have h2 : ∀ i, (kTo k.ops i).2.length ≤ i := by
          intro i
          induction i with
          | zero => simp [kTo]
          | succ i ih =>
            unfold kTo
            split
            · unfold kStep
              split
              · simp only [List.length_cons]; omega
              · split
                · split
                  · rename_i h; rw [h] at ih; simp only [List.length_cons] at ih; simp only; omega
                  · omega
                · omega
            · omega
        have := h2 j
        omega
      clear hkr hgg
      by_cases h15 : o.kind = 15
      · have e15 : (o.kind == 15) = true := by rw [beq_iff_eq]; exact h15
        have HN := Lib.hid (show outR k.ops (j + 1) = (outR k.ops j).set j (-1) ∧ (kTo k.ops (j + 1)).2 = j :: (kTo k.ops j).2 from ⟨out_same HX.out (by omega), by rw [kTo_next HX.out]; unfold kStep; rw [if_pos h15]⟩)
        clear h15
        go_wp2_with (first
          | (at_builtin; refine wpList_append_own_at _ rfl _ _ 50 rfl w1.heap.size 3 i0 (.int .i64 0) 1 8 Tryz.underlying50 hi hz0 hz1 hz2 rfl (by decide) (.slice A m c) m _ rfl (HEO.out.row.alloc _) ⟨WO.heap.size, 0, none⟩ 1 1 [Value.int .i64 (j : Int)] rfl (by rfl) (cells_new_at WO #[Value.int .i64 (j : Int)] 3) (by simp [Value.oneCell']) (by unfold maxLen; omega) (by omega) (by have := HEO.out.below.size; simp; omega) ?_; intro v' w6 ho6 hg6 _ hw6
             have HO6 := Lib.hid ho6
             have HG6 := Lib.hid hg6
             have HW6 := Lib.hid hw6
             obtain ⟨A6, c6, rfl⟩ := own_form ho6
             clear ho6 hg6 hw6)
          | go_in)
        go_roundw
        case rel =>
          refine ⟨j + 1, m + 1, A6, c6, hlt, by go_num, rfl, ?_⟩
          rw [HN.out.1, HN.out.2]
          have hlt2 := lt_of_block HEO.out.blk
          refine ⟨(HEO.out.below.alloc HEO.out.below.size _).grown HG6.out (by have := HEO.out.below.size; simp; omega) (fun q e => (own_lt HEO.out.row q e).2), HEO.out.ge, ?_, ?_, ?_⟩
          · refine (HG6.out.block g (by simp; omega) (fun e => HEO.out.ne e.symm)).trans ((Below.heap_alloc WO _ g hlt2).trans HEO.out.blk)
          · have := HO6.out
            simpa [intV] using this
          · rcases HW6.out with h | h
            · rw [h]; exact HEO.out.ne
            · rw [h]; intro e
              have e2 := Option.some.inj e
              simp at e2
              omega
        case measure => simp [intOf]; omega
      have e15 : (o.kind == 15) = false := beq_eq_false_iff_ne.2 h15
      by_cases h16 : o.kind = 16
      · have e16 : (o.kind == 16) = true := by rw [beq_iff_eq]; exact h16
        obtain ⟨q, st, hst⟩ : ∃ q st, (kTo k.ops j).2 = q :: st := by
          cases h : (kTo k.ops j).2 with
          | nil => exact absurd h (HBAL.out.some_ j o HX.out h16)
          | cons q st => exact ⟨q, st, rfl⟩
        have hqj : q < j := kS_lt k.ops j q (by unfold kS; rw [hst]; exact List.mem_cons_self ..)
        have HN := Lib.hid (show outR k.ops (j + 1) = (((outR k.ops j).set j (-1)).set j (q : Int)).set q (j : Int) ∧ (kTo k.ops (j + 1)).2 = st from ⟨out_close HX.out h16 hst, by rw [kTo_next HX.out]; unfold kStep; rw [if_neg h15, if_pos h16, hst]⟩)
        have hml : m = st.length + 1 := by rw [← HEO.out.len, hst]; rfl
        have hol := outR_len k.ops (j := j) (by have := HNO.out; omega)
        obtain ⟨uj, huj⟩ : ∃ u, ((outR k.ops j).set j (-1))[j]? = some u := ⟨_, List.getElem?_eq_getElem (by rw [List.length_set]; have := HNO.out; omega)⟩
        obtain ⟨uq, huq⟩ : ∃ u, (((outR k.ops j).set j (-1)).set j (q : Int))[q]? = some u := ⟨_, List.getElem?_eq_getElem (by rw [List.length_set, List.length_set]; have := HNO.out; omega)⟩
        have HEO := Lib.hid (hst ▸ HEO.out)
        have HS2 := Lib.hid (HEO.out.set j (q : Int))
        have HS3 := Lib.hid (HS2.out.set q (j : Int))
        obtain ⟨gl, cl, hA, hgl, hcl⟩ := own_some HEO.out.row (by omega)
        cases hA
        have f1 : WO.cell? ⟨gl, st.length, none⟩ = some (.int .i64 (q : Int)) := own_cell HEO.out.row (by simp [intV])
        have f2 := HEO.out.cell huj
        have f3 := HEO.out.frozen j
        have f4 := HS2.out.cell huq
        have f5 := HS2.out.frozen q
        have i4 : IntKind.i64.wrap (st.length : Int) = st.length := by rw [IntKind.wrap_i64]; omega
        have i5 : (0 : Int) ≤ (q : Int) := by omega
        have i6 : (q : Int) < (no : Int) := by omega
        have i7 : IntKind.i64.wrap (q : Int) = q := by rw [IntKind.wrap_i64]; omega
        have i9 : (m : Int) - 1 = (st.length : Int) := by omega
        have j2 : (0 : Int) ≤ (st.length : Int) := by omega
        have j3 : (st.length : Int) < (m : Int) := by omega
        obtain ⟨sl, hsl2⟩ : ∃ n, n = st.length := ⟨_, rfl⟩
        rw [← hsl2] at i4 i9 j2 j3 f1 hml
        have hcl2 : sl ≤ c := by omega
        have HML := Lib.hid hml
        have HSL := Lib.hid hsl2
        clear h15 h16 hst hqj hol huj huq hml hsl2 hgl hcl
        go_wp2
        go_roundw
        case rel =>
          refine ⟨j + 1, sl, _, c, hlt, by go_num, rfl, ?_⟩
          rw [HN.out.1, HN.out.2]
          refine ⟨HS3.out.below, HS3.out.ge, HS3.out.blk, ?_, HS3.out.ne⟩
          have h2 := own_cut HS3.out.row (m := sl) (by have := HML.out; omega)
          rw [HSL.out] at h2 ⊢
          simpa [intV] using h2
        case measure => simp [intOf]; omega
      · have e16 : (o.kind == 16) = false := beq_eq_false_iff_ne.2 h16
        have HN := Lib.hid (show outR k.ops (j + 1) = (outR k.ops j).set j (-1) ∧ (kTo k.ops (j + 1)).2 = (kTo k.ops j).2 from ⟨out_same HX.out h16, by rw [kTo_next HX.out]; unfold kStep; rw [if_neg h15, if_neg h16]⟩)
        clear h15 h16
        go_wp2
        go_roundw
        case rel => exact ⟨j + 1, m, A, c, hlt, by go_num, rfl, by rw [HN.out.1, HN.out.2]; exact HEO.out⟩
        case measure => simp [intOf]; omega
    · have d1 : decide (j < no) = false := decide_eq_false hlt
      have e : j = no := by omega
      subst e
      have HL := Lib.hid (show outR k.ops j = kEnds k.ops by rw [← outR_end, ← HNO.out])
      have hlen : (kEnds k.ops).length = j := by unfold kEnds; rw [kTo_len, ← HNO.out]
      have HLN := Lib.hid hlen
      clear he hlen hkr
      go_wp2
      go_ret
      have hblk := HER.out.blk
      rw [HL.out] at hblk
      have hn := nums_blk hblk
      rw [HLN.out] at hn
      exact ⟨_, _, _, rfl, Rows.mono hn (fun q hq => by subst hq; exact lt_of_block hblk), HB1.out.trans (HER.out.below.mono HB1.out.size)⟩
end Go.Proofs.YtjbabpnepjhllaaGreat

/- keysmithkit.Pick. -/
namespace Go.Proofs.YtjbabpnepjhllaaGreat
open Go.RowKit

/-- What Pick tells, said by what is known of it. -/
def Picked (m : Nat) (w : World) (e : Ending) (w' : World) : Prop := ∃ p : Nat, p < m ∧ e = .returned (.int .i64 p) ∧ w = w'

theorem tmod_range (a : Int) (m : Nat) (hm : 1 ≤ m) : -(m : Int) < a.tmod m ∧ a.tmod m < m := by
  have e1 := Int.emod_nonneg a (b := m) (by omega)
  have e2 := Int.emod_lt_of_pos a (b := m) (by omega)
  have e3 := Int.emod_nonneg (-a) (b := m) (by omega)
  have e4 := Int.emod_lt_of_pos (-a) (b := m) (by omega)
  rcases Int.le_total 0 a with h | h
  · rw [Int.tmod_eq_emod_of_nonneg h]; omega
  · have h := Int.tmod_eq_emod_of_nonneg (a := -a) (b := m) (by omega)
    rw [Int.neg_tmod] at h; omega

set_option maxHeartbeats 400000 in
theorem Pick_any (a : Int) (m : Nat) (hm : 1 ≤ m) (hm2 : m ≤ 4096) (w : World) :
    Calls Tryz.prog 21 #[.int .i64 a, .int .i64 m] w (Picked m w) := by
  have d1 : decide ((m : Int) < 1) = false := by simp; omega
  have d2 : ((m : Int) == 0) = false := beq_eq_false_iff_ne.2 (by omega)
  have d3 : ((m : Int) == -1) = false := beq_eq_false_iff_ne.2 (by omega)
  obtain ⟨hlo, hhi⟩ := tmod_range a m hm
  generalize ht : a.tmod m = t at *
  by_cases hn : t < 0
  · have d4 : decide (t < 0) = true := by simp; omega
    go_enter Tryz.func21, Tryz.ntmps21
    go_wp2
    go_ret
    exact ⟨(t + m).toNat, by omega, ret_int (by omega), rfl⟩
  · have d4 : decide (t < 0) = false := by simp; omega
    go_enter Tryz.func21, Tryz.ntmps21
    go_wp2
    go_ret
    exact ⟨t.toNat, by omega, ret_int (by omega), rfl⟩
end Go.Proofs.YtjbabpnepjhllaaGreat

/- law21: DutiesLoops, plain. -/
namespace Go.Proofs.YtjbabpnepjhllaaGreat
open Go.RowKit

theorem ahead_good {k : Krn} {A : List (List Fct)} (hc : checkK k = true) (h : AheadIs k A) : ∃ l', A.length = k.ops.length ∧ GoodD k.vars k.ops 0 k.ops.length l' A := by
  unfold AheadIs at h
  rw [if_pos hc] at h
  obtain ⟨l', h⟩ := h
  obtain ⟨g1, _, g3, _⟩ := runD_good (check_bal hc) h (by simp) (start_well hc).fine (live_all k)
  exact ⟨l', by rw [g1]; simp, g3⟩
/-- Behind an operation that is no loop's beginning or end. -/
theorem ahead_op {k : Krn} {A : List (List Fct)} (hc : checkK k = true) (h : AheadIs k A) {j : Nat} {o : KOp} (ho : k.ops[j]? = some o) (h15 : o.kind ≠ 15) (h16 : o.kind ≠ 16) (hj : j + 1 < k.ops.length) : A.getD (j + 1) [] = after_at k j (A.getD j []) := by
  obtain ⟨l', hl, hg⟩ := ahead_good hc h
  have h1 := hg.op j o (Nat.zero_le _) (by omega) ho h15 h16
  rw [gv_in (by omega), gv_in (by omega)] at h1
  rw [h1]
  have hf := hg.fine j (Nat.zero_le _) (by omega)
  rw [gv_in (by omega)] at hf
  unfold after_at
  rw [if_pos ⟨hc, by omega, by omega⟩, Int.toNat_natCast, show k.ops.getD j ⟨0, 0, 0, 0, 0, 0, 0⟩ = o by rw [List.getD_eq_getElem?_getD, ho]; rfl, sortF_id hf.ord hf.may]
/-- At a loop: its beginning, its end, behind it. -/
theorem ahead_loop {k : Krn} {A : List (List Fct)} (hc : checkK k = true) (h : AheadIs k A) {j : Nat} {o : KOp} (ho : k.ops[j]? = some o) (h15 : o.kind = 15) : ∃ e : Nat, (kEnds k.ops)[j]? = some (e : Int) ∧ j < e ∧ e < k.ops.length ∧ (∀ f ∈ A.getD (j + 1) [], knowsF (A.getD j []) f = true ∧ knowsF (A.getD e []) f = true) ∧ (e + 1 < k.ops.length → A.getD (e + 1) [] = A.getD e []) := by
  obtain ⟨l', hl, hg⟩ := ahead_good hc h
  obtain ⟨e, q, g1, g2, g3, g4, _⟩ := k_loop (check_bal hc) ho h15
  have hj := (List.getElem?_eq_some_iff.1 ho).1
  have he := (List.getElem?_eq_some_iff.1 g4).1
  obtain ⟨h1, h2⟩ := hg.loop j o e (Nat.zero_le _) hj ho h15 g3
  refine ⟨e, ?_, g1, he, fun f hf => ?_, fun hlt => ?_⟩
  · have hel : j < (kEnds k.ops).length := by unfold kEnds; rw [kTo_len]; exact hj
    rw [List.getD_eq_getElem?_getD, List.getElem?_eq_getElem hel] at g3
    rw [List.getElem?_eq_getElem hel]
    simpa using g3
  · have := h1 f (by rw [gv_in (by omega)]; exact hf)
    rw [gv_in (by omega), gv_in (by omega)] at this
    exact this
  · rw [gv_in (by omega), gv_in (by omega)] at h2
    exact h2
end Go.Proofs.YtjbabpnepjhllaaGreat
