/- ref12.Check: its inner loops. -/
import Derived.Test.YtppoiahhaclleaaDoorRLimbF
namespace Go.Proofs.YtppoiahhaclleaaDoor
open Go.RowKit

/-- The block of a number in a text. -/
def findB (n : Nat) : Code → Option Code
  | .block id c => if id = n then some (.block id c) else findB n c
  | .seq a b => match findB n a with
    | some c => some c
    | none => findB n b
  | .cond _ a b => match findB n a with
    | some c => some c
    | none => findB n b
  | .loop c => findB n c
  | .scope c => findB n c
  | .rangeFunc _ _ a b => match findB n a with
    | some c => some c
    | none => findB n b
  | _ => none
/-- What stands in the block of a number. -/
noncomputable def partL (f : Func) (n : Nat) : Code := match f.body.bind (findB n) with | some (.block _ c) => c | _ => .skip
theorem any_next {T : Type} {p : T → Bool} {l : List T} {k : Nat} {x : T} (h : (l.take k).any p = false) (hx : l[k]? = some x) (hp : p x = false) : (l.take (k + 1)).any p = false := by
  rw [List.take_add_one, hx, List.any_append, h]
  simp [hp]
theorem any_whole {T : Type} {p : T → Bool} {l : List T} {k : Nat} (h : (l.take k).any p = false) (hk : l.length ≤ k) : l.any p = false := by rwa [List.take_of_length_le hk] at h
theorem any_here {T : Type} {p : T → Bool} {l : List T} {k : Nat} {x : T} (hx : l[k]? = some x) (hp : p x = true) : l.any p = true := List.any_eq_true.2 ⟨x, List.mem_of_getElem? hx, hp⟩

set_option maxRecDepth 100000 in
set_option maxHeartbeats 4000000 in
theorem rchk_b6 {A A2 : Option Addr} {n c n2 c2 : Nat} {i : Int} {loops makes : List Int} {G G2 : Nat → Prop} (w : World) (Q : Exit → Act → World → Prop) {u0 u1 u2 u3 u4 u5 u6 u9 u11 u13 u14 u15 u16 u17 u18 u19 u20 u21 u22 u23 u24 u25 u26 u27 u28 u29 u30 u31 u32 u33 u34 u35 u36 u37 u38 u39 u40 u41 u42 u43 u44 u45 u46 u47 u48 u49 u50 u51 u52 u53 u54 u55 u56 u57 u58 u59 u60 u61 u62 u63 u64 u65 u66 u67 u68 u69 u70 u71 u72 u73 u74 u75 u76 u77 u78 u79 u80 u81 u82 u83 u84 u85 u86 u87 u88 u89 u90 u91 u92 u93 u94 u95 u96 u97 u98 u99 u100 u101 u102 u103 u104 u105 u106 u107 u108 u109 u110 u111 u112 u113 u114 u115 u116 u117 u118 u119 u120 u121 u122 u123 u124 u125 u126 u127 u128 u129 u130 u131 u132 u133 u134 u135 u136 u137 u138 u139 u140 u141 u142 u143 u144 u145 u146 u147 u148 u149 u150 u151 u152 u153 u154 u155 u156 u157 u158 u159 u160 u161 u162 u163 u164 u165 u166 u167 u168 u169 u170 u171 u172 u173 u174 u175 u176 u177 u178 u179 u180 u181 u182 u183 u184 u185 u186 u187 u188 u189 u190 u191 u192 u193 u194 u195 u196 u197 u198 u199 : Value} (hl : NumsAt w G (.slice A n c) loops) (hm : NumsAt w G2 (.slice A2 n2 c2) makes) (hn : loops.length ≤ 9223372036854775807) (hn2 : makes.length = n2) (hn3 : n2 ≤ 1000)
    (k1 : makes.any (fun r => loops.contains r) = false → ∀ (v12 v123 v124 v125 v126 v127 v128 v129 v130 v131 v132 v133 v134 v135 v2 v3 : Value), Q (.exit 6) ⟨#[u0, u1, v2, v3, u4, u5, u6, .slice A n c, .int .i64 i, u9, .slice A2 n2 c2, u11, v12, u13, u14, u15, u16, u17, u18, u19, u20, u21, u22, u23, u24, u25, u26, u27, u28, u29, u30, u31, u32, u33, u34, u35, u36, u37, u38, u39, u40, u41, u42, u43, u44, u45, u46, u47, u48, u49, u50, u51, u52, u53, u54, u55, u56, u57, u58, u59, u60, u61, u62, u63, u64, u65, u66, u67, u68, u69, u70, u71, u72, u73, u74, u75, u76, u77, u78, u79, u80, u81, u82, u83, u84, u85, u86, u87, u88, u89, u90, u91, u92, u93, u94, u95, u96, u97, u98, u99, u100, u101, u102, u103, u104, u105, u106, u107, u108, u109, u110, u111, u112, u113, u114, u115, u116, u117, u118, u119, u120, u121, u122, v123, v124, v125, v126, v127, v128, v129, v130, v131, v132, v133, v134, v135, u136, u137, u138, u139, u140, u141, u142, u143, u144, u145, u146, u147, u148, u149, u150, u151, u152, u153, u154, u155, u156, u157, u158, u159, u160, u161, u162, u163, u164, u165, u166, u167, u168, u169, u170, u171, u172, u173, u174, u175, u176, u177, u178, u179, u180, u181, u182, u183, u184, u185, u186, u187, u188, u189, u190, u191, u192, u193, u194, u195, u196, u197, u198, u199], []⟩ w) (k2 : makes.any (fun r => loops.contains r) = true → ∀ (v12 v123 v124 v125 v126 v127 v128 v129 v130 v131 v132 v133 v134 v135 : Value), Q (.ret) ⟨#[u0, u1, .int .i64 i, .int .i64 9, u4, u5, u6, .slice A n c, .int .i64 i, u9, .slice A2 n2 c2, u11, v12, u13, u14, u15, u16, u17, u18, u19, u20, u21, u22, u23, u24, u25, u26, u27, u28, u29, u30, u31, u32, u33, u34, u35, u36, u37, u38, u39, u40, u41, u42, u43, u44, u45, u46, u47, u48, u49, u50, u51, u52, u53, u54, u55, u56, u57, u58, u59, u60, u61, u62, u63, u64, u65, u66, u67, u68, u69, u70, u71, u72, u73, u74, u75, u76, u77, u78, u79, u80, u81, u82, u83, u84, u85, u86, u87, u88, u89, u90, u91, u92, u93, u94, u95, u96, u97, u98, u99, u100, u101, u102, u103, u104, u105, u106, u107, u108, u109, u110, u111, u112, u113, u114, u115, u116, u117, u118, u119, u120, u121, u122, v123, v124, v125, v126, v127, v128, v129, v130, v131, v132, v133, v134, v135, u136, u137, u138, u139, u140, u141, u142, u143, u144, u145, u146, u147, u148, u149, u150, u151, u152, u153, u154, u155, u156, u157, u158, u159, u160, u161, u162, u163, u164, u165, u166, u167, u168, u169, u170, u171, u172, u173, u174, u175, u176, u177, u178, u179, u180, u181, u182, u183, u184, u185, u186, u187, u188, u189, u190, u191, u192, u193, u194, u195, u196, u197, u198, u199], []⟩ w) : (partL Tryd.f8 6).wp Tryd.prog Q ⟨#[u0, u1, u2, u3, u4, u5, u6, .slice A n c, .int .i64 i, u9, .slice A2 n2 c2, u11, .int .i64 0, u13, u14, u15, u16, u17, u18, u19, u20, u21, u22, u23, u24, u25, u26, u27, u28, u29, u30, u31, u32, u33, u34, u35, u36, u37, u38, u39, u40, u41, u42, u43, u44, u45, u46, u47, u48, u49, u50, u51, u52, u53, u54, u55, u56, u57, u58, u59, u60, u61, u62, u63, u64, u65, u66, u67, u68, u69, u70, u71, u72, u73, u74, u75, u76, u77, u78, u79, u80, u81, u82, u83, u84, u85, u86, u87, u88, u89, u90, u91, u92, u93, u94, u95, u96, u97, u98, u99, u100, u101, u102, u103, u104, u105, u106, u107, u108, u109, u110, u111, u112, u113, u114, u115, u116, u117, u118, u119, u120, u121, u122, u123, u124, u125, u126, u127, u128, u129, u130, u131, u132, u133, u134, u135, u136, u137, u138, u139, u140, u141, u142, u143, u144, u145, u146, u147, u148, u149, u150, u151, u152, u153, u154, u155, u156, u157, u158, u159, u160, u161, u162, u163, u164, u165, u166, u167, u168, u169, u170, u171, u172, u173, u174, u175, u176, u177, u178, u179, u180, u181, u182, u183, u184, u185, u186, u187, u188, u189, u190, u191, u192, u193, u194, u195, u196, u197, u198, u199], []⟩ w := by
  have HIN := Lib.hid (fun r => Rin_any (.slice A n c) r w G loops hn hl)
  have HM := Lib.hid hm
  have HN2 := Lib.hid hn2
  have K1 := Lib.hid k1
  have K2 := Lib.hid k2
  clear hl hm hn hn2 k1 k2
  conv => arg 2; whnf
  go_wp2
  go_loop [12] (fun j => ∃ k : Nat, k ≤ n2 ∧ j = .int .i64 k ∧ Hid ((makes.take k).any (fun r => loops.contains r) = false)) (fun j => n2 - (intOf j).toNat)
  case atStart => exact ⟨0, by omega, rfl, Lib.hid (by simp)⟩
  case round =>
    obtain ⟨k, hk, rfl, HT⟩ := hrel
    by_cases hlt : k < n2
    · obtain ⟨x, hx⟩ : ∃ x, makes[k]? = some x := ⟨_, List.getElem?_eq_getElem (by have := HN2.out; omega)⟩
      obtain ⟨b, o, rfl, _, hc⟩ := HM.out.at_ hx
      have HX := Lib.hid hx
      have HI := HIN.out x
      have i0 : (0 : Int) ≤ (k : Int) := by omega
      have i1 : (k : Int) < (n2 : Int) := by omega
      clear hx
      cases he : loops.contains x
      · rw [he] at HI
        have HI := Lib.hid HI
        have HN := Lib.hid (any_next (p := fun r => loops.contains r) HT.out HX.out he)
        clear he
        go_wp2_with ((with_reducible refine (HI.out).mono ?_); rintro e w1 ⟨rfl, rfl⟩)
        go_round
        case rel => exact ⟨k + 1, by omega, by go_num, HN⟩
        case measure => simp [intOf]; omega
      · rw [he] at HI
        have HI := Lib.hid HI
        have HN := Lib.hid (any_here (p := fun r => loops.contains r) HX.out he)
        clear he
        go_wp2_with ((with_reducible refine (HI.out).mono ?_); rintro e w1 ⟨rfl, rfl⟩)
        exact K2.out HN.out _ _ _ _ _ _ _ _ _ _ _ _ _ _
    · have HN := Lib.hid (any_whole HT.out (by have := HN2.out; omega))
      go_wp2
      exact K1.out HN.out _ _ _ _ _ _ _ _ _ _ _ _ _ _ _ _

/-- A list of Bools in a block of their own, that may be written. -/
def MadeAt (w : World) (g : Nat) (m : List Bool) : Prop := w.heap[g]? = some (.cells (m.map Value.bool).toArray 4 (0, 0))
theorem MadeAt.cell {w : World} {g : Nat} {m : List Bool} (h : MadeAt w g m) {q : Nat} {x : Bool} (hx : m[q]? = some x) : w.cell? ⟨g, q, none⟩ = some (.bool x) := cell_row h (by rw [List.getElem?_map, hx]; rfl)
theorem MadeAt.set {w : World} {g : Nat} {m : List Bool} (h : MadeAt w g m) (q : Nat) (x : Bool) : MadeAt (w.setCell ⟨g, q, none⟩ (.bool x)) g (m.set q x) := by
  have := setCell_row h q (.bool x)
  unfold MadeAt
  rw [this, List.map_set]
theorem madeF_get {m : List Bool} {q : Nat} {x : Bool} (h : m[q]? = some x) : madeF m (q : Int) = x := by unfold madeF; rw [Int.toNat_natCast, List.getD_eq_getElem?_getD, h]; rfl

set_option maxRecDepth 100000 in
set_option maxHeartbeats 4000000 in
theorem rchk_b8 {A2 : Option Addr} {gm nr cr n2 c2 : Nat} {i : Int} {m : List Bool} {takes : List Int} {G2 : Nat → Prop} (w : World) (Q : Exit → Act → World → Prop) {u0 u1 u2 u3 u4 u5 u7 u9 u10 u12 u14 u15 u16 u17 u18 u19 u20 u21 u22 u23 u24 u25 u26 u27 u28 u29 u30 u31 u32 u33 u34 u35 u36 u37 u38 u39 u40 u41 u42 u43 u44 u45 u46 u47 u48 u49 u50 u51 u52 u53 u54 u55 u56 u57 u58 u59 u60 u61 u62 u63 u64 u65 u66 u67 u68 u69 u70 u71 u72 u73 u74 u75 u76 u77 u78 u79 u80 u81 u82 u83 u84 u85 u86 u87 u88 u89 u90 u91 u92 u93 u94 u95 u96 u97 u98 u99 u100 u101 u102 u103 u104 u105 u106 u107 u108 u109 u110 u111 u112 u113 u114 u115 u116 u117 u118 u119 u120 u121 u122 u123 u124 u125 u126 u127 u128 u129 u130 u131 u132 u133 u134 u135 u136 u137 u138 u139 u140 u141 u142 u143 u144 u145 u146 u147 u148 u149 u150 u151 u152 u153 u154 u155 u156 u157 u158 u159 u160 u161 u162 u163 u164 u165 u166 u167 u168 u169 u170 u171 u172 u173 u174 u175 u176 u177 u178 u179 u180 u181 u182 u183 u184 u185 u186 u187 u188 u189 u190 u191 u192 u193 u194 u195 u196 u197 u198 u199 : Value} (hg : MadeAt w gm m) (hnr : m.length = nr) (hm : NumsAt w G2 (.slice A2 n2 c2) takes) (hn2 : takes.length = n2) (hn3 : n2 ≤ 1000) (hr : ∀ r ∈ takes, 0 ≤ r ∧ r < nr)
    (k1 : takes.any (fun r => !madeF m r) = false → ∀ (v13 v156 v157 v158 v159 v160 v161 v162 v163 v164 v165 v166 v167 v168 v169 v170 v2 v3 : Value), Q (.exit 8) ⟨#[u0, u1, v2, v3, u4, u5, .slice (some ⟨gm, 0, none⟩) nr cr, u7, .int .i64 i, u9, u10, .slice A2 n2 c2, u12, v13, u14, u15, u16, u17, u18, u19, u20, u21, u22, u23, u24, u25, u26, u27, u28, u29, u30, u31, u32, u33, u34, u35, u36, u37, u38, u39, u40, u41, u42, u43, u44, u45, u46, u47, u48, u49, u50, u51, u52, u53, u54, u55, u56, u57, u58, u59, u60, u61, u62, u63, u64, u65, u66, u67, u68, u69, u70, u71, u72, u73, u74, u75, u76, u77, u78, u79, u80, u81, u82, u83, u84, u85, u86, u87, u88, u89, u90, u91, u92, u93, u94, u95, u96, u97, u98, u99, u100, u101, u102, u103, u104, u105, u106, u107, u108, u109, u110, u111, u112, u113, u114, u115, u116, u117, u118, u119, u120, u121, u122, u123, u124, u125, u126, u127, u128, u129, u130, u131, u132, u133, u134, u135, u136, u137, u138, u139, u140, u141, u142, u143, u144, u145, u146, u147, u148, u149, u150, u151, u152, u153, u154, u155, v156, v157, v158, v159, v160, v161, v162, v163, v164, v165, v166, v167, v168, v169, v170, u171, u172, u173, u174, u175, u176, u177, u178, u179, u180, u181, u182, u183, u184, u185, u186, u187, u188, u189, u190, u191, u192, u193, u194, u195, u196, u197, u198, u199], []⟩ w) (k2 : takes.any (fun r => !madeF m r) = true → ∀ (v13 v156 v157 v158 v159 v160 v161 v162 v163 v164 v165 v166 v167 v168 v169 v170 : Value), Q (.ret) ⟨#[u0, u1, .int .i64 i, .int .i64 5, u4, u5, .slice (some ⟨gm, 0, none⟩) nr cr, u7, .int .i64 i, u9, u10, .slice A2 n2 c2, u12, v13, u14, u15, u16, u17, u18, u19, u20, u21, u22, u23, u24, u25, u26, u27, u28, u29, u30, u31, u32, u33, u34, u35, u36, u37, u38, u39, u40, u41, u42, u43, u44, u45, u46, u47, u48, u49, u50, u51, u52, u53, u54, u55, u56, u57, u58, u59, u60, u61, u62, u63, u64, u65, u66, u67, u68, u69, u70, u71, u72, u73, u74, u75, u76, u77, u78, u79, u80, u81, u82, u83, u84, u85, u86, u87, u88, u89, u90, u91, u92, u93, u94, u95, u96, u97, u98, u99, u100, u101, u102, u103, u104, u105, u106, u107, u108, u109, u110, u111, u112, u113, u114, u115, u116, u117, u118, u119, u120, u121, u122, u123, u124, u125, u126, u127, u128, u129, u130, u131, u132, u133, u134, u135, u136, u137, u138, u139, u140, u141, u142, u143, u144, u145, u146, u147, u148, u149, u150, u151, u152, u153, u154, u155, v156, v157, v158, v159, v160, v161, v162, v163, v164, v165, v166, v167, v168, v169, v170, u171, u172, u173, u174, u175, u176, u177, u178, u179, u180, u181, u182, u183, u184, u185, u186, u187, u188, u189, u190, u191, u192, u193, u194, u195, u196, u197, u198, u199], []⟩ w) : (partL Tryd.f8 8).wp Tryd.prog Q ⟨#[u0, u1, u2, u3, u4, u5, .slice (some ⟨gm, 0, none⟩) nr cr, u7, .int .i64 i, u9, u10, .slice A2 n2 c2, u12, .int .i64 0, u14, u15, u16, u17, u18, u19, u20, u21, u22, u23, u24, u25, u26, u27, u28, u29, u30, u31, u32, u33, u34, u35, u36, u37, u38, u39, u40, u41, u42, u43, u44, u45, u46, u47, u48, u49, u50, u51, u52, u53, u54, u55, u56, u57, u58, u59, u60, u61, u62, u63, u64, u65, u66, u67, u68, u69, u70, u71, u72, u73, u74, u75, u76, u77, u78, u79, u80, u81, u82, u83, u84, u85, u86, u87, u88, u89, u90, u91, u92, u93, u94, u95, u96, u97, u98, u99, u100, u101, u102, u103, u104, u105, u106, u107, u108, u109, u110, u111, u112, u113, u114, u115, u116, u117, u118, u119, u120, u121, u122, u123, u124, u125, u126, u127, u128, u129, u130, u131, u132, u133, u134, u135, u136, u137, u138, u139, u140, u141, u142, u143, u144, u145, u146, u147, u148, u149, u150, u151, u152, u153, u154, u155, u156, u157, u158, u159, u160, u161, u162, u163, u164, u165, u166, u167, u168, u169, u170, u171, u172, u173, u174, u175, u176, u177, u178, u179, u180, u181, u182, u183, u184, u185, u186, u187, u188, u189, u190, u191, u192, u193, u194, u195, u196, u197, u198, u199], []⟩ w := by
  have HG := Lib.hid hg
  have HNR := Lib.hid hnr
  have HM := Lib.hid hm
  have HN2 := Lib.hid hn2
  have HR := Lib.hid hr
  have K1 := Lib.hid k1
  have K2 := Lib.hid k2
  clear hg hnr hm hn2 hr k1 k2
  conv => arg 2; whnf
  go_wp2
  go_loop [13] (fun j => ∃ k : Nat, k ≤ n2 ∧ j = .int .i64 k ∧ Hid ((takes.take k).any (fun r => !madeF m r) = false)) (fun j => n2 - (intOf j).toNat)
  case atStart => exact ⟨0, by omega, rfl, Lib.hid (by simp)⟩
  case round =>
    obtain ⟨k, hk, rfl, HT⟩ := hrel
    by_cases hlt : k < n2
    · obtain ⟨x, hx⟩ : ∃ x, takes[k]? = some x := ⟨_, List.getElem?_eq_getElem (by have := HN2.out; omega)⟩
      obtain ⟨b, o, rfl, _, hc⟩ := HM.out.at_ hx
      have hx2 := HR.out x (List.mem_of_getElem? hx)
      obtain ⟨q, rfl⟩ : ∃ q : Nat, x = q := ⟨x.toNat, by omega⟩
      obtain ⟨y, hy⟩ : ∃ y, m[q]? = some y := ⟨_, List.getElem?_eq_getElem (by have := HNR.out; omega)⟩
      have hd := HG.out.cell hy
      have HX := Lib.hid hx
      have HY := Lib.hid (madeF_get hy)
      have i0 : (0 : Int) ≤ (k : Int) := by omega
      have i1 : (k : Int) < (n2 : Int) := by omega
      have q0 : (0 : Int) ≤ (q : Int) := by omega
      have q1 : (q : Int) < (nr : Int) := by omega
      clear hx hy hx2
      cases y
      · have HN := Lib.hid (any_here (p := fun r => !madeF m r) HX.out (by rw [HY.out]; rfl))
        go_wp2
        exact K2.out HN.out _ _ _ _ _ _ _ _ _ _ _ _ _ _ _ _
      · have HN := Lib.hid (any_next (p := fun r => !madeF m r) HT.out HX.out (by rw [HY.out]; rfl))
        go_wp2
        go_round
        case rel => exact ⟨k + 1, by omega, by go_num, HN⟩
        case measure => simp [intOf]; omega
    · have HN := Lib.hid (any_whole HT.out (by have := HN2.out; omega))
      go_wp2
      exact K1.out HN.out _ _ _ _ _ _ _ _ _ _ _ _ _ _ _ _ _ _

set_option maxRecDepth 100000 in
set_option maxHeartbeats 4000000 in
theorem rchk_b10 {A2 : Option Addr} {gm nr cr n2 c2 : Nat} {m : List Bool} {makes : List Int} {G2 : Nat → Prop} (w : World) (Q : Exit → Act → World → Prop) {u0 u1 u2 u3 u4 u5 u7 u8 u9 u11 u12 u13 u15 u16 u17 u18 u19 u20 u21 u22 u23 u24 u25 u26 u27 u28 u29 u30 u31 u32 u33 u34 u35 u36 u37 u38 u39 u40 u41 u42 u43 u44 u45 u46 u47 u48 u49 u50 u51 u52 u53 u54 u55 u56 u57 u58 u59 u60 u61 u62 u63 u64 u65 u66 u67 u68 u69 u70 u71 u72 u73 u74 u75 u76 u77 u78 u79 u80 u81 u82 u83 u84 u85 u86 u87 u88 u89 u90 u91 u92 u93 u94 u95 u96 u97 u98 u99 u100 u101 u102 u103 u104 u105 u106 u107 u108 u109 u110 u111 u112 u113 u114 u115 u116 u117 u118 u119 u120 u121 u122 u123 u124 u125 u126 u127 u128 u129 u130 u131 u132 u133 u134 u135 u136 u137 u138 u139 u140 u141 u142 u143 u144 u145 u146 u147 u148 u149 u150 u151 u152 u153 u154 u155 u156 u157 u158 u159 u160 u161 u162 u163 u164 u165 u166 u167 u168 u169 u170 u171 u172 u173 u174 u175 u176 u177 u178 u179 u180 u181 u182 u183 u184 u185 u186 u187 u188 u189 u190 u191 u192 u193 u194 u195 u196 u197 u198 u199 : Value} (hg : MadeAt w gm m) (hnr : m.length = nr) (hm : NumsAt w G2 (.slice A2 n2 c2) makes) (hG : ∀ k, G2 k → k ≠ gm ∧ k < w.heap.size) (hn2 : makes.length = n2) (hn3 : n2 ≤ 1000) (hr : ∀ r ∈ makes, 0 ≤ r ∧ r < nr)
    (k1 : ∀ (v14 v171 v172 v173 v174 v175 v176 v177 v178 v179 v180 v181 v182 : Value) (w' : World), Chg (fun k => k = gm) w w' → MadeAt w' gm (putL makes m true) → Q (.exit 10) ⟨#[u0, u1, u2, u3, u4, u5, .slice (some ⟨gm, 0, none⟩) nr cr, u7, u8, u9, .slice A2 n2 c2, u11, u12, u13, v14, u15, u16, u17, u18, u19, u20, u21, u22, u23, u24, u25, u26, u27, u28, u29, u30, u31, u32, u33, u34, u35, u36, u37, u38, u39, u40, u41, u42, u43, u44, u45, u46, u47, u48, u49, u50, u51, u52, u53, u54, u55, u56, u57, u58, u59, u60, u61, u62, u63, u64, u65, u66, u67, u68, u69, u70, u71, u72, u73, u74, u75, u76, u77, u78, u79, u80, u81, u82, u83, u84, u85, u86, u87, u88, u89, u90, u91, u92, u93, u94, u95, u96, u97, u98, u99, u100, u101, u102, u103, u104, u105, u106, u107, u108, u109, u110, u111, u112, u113, u114, u115, u116, u117, u118, u119, u120, u121, u122, u123, u124, u125, u126, u127, u128, u129, u130, u131, u132, u133, u134, u135, u136, u137, u138, u139, u140, u141, u142, u143, u144, u145, u146, u147, u148, u149, u150, u151, u152, u153, u154, u155, u156, u157, u158, u159, u160, u161, u162, u163, u164, u165, u166, u167, u168, u169, u170, v171, v172, v173, v174, v175, v176, v177, v178, v179, v180, v181, v182, u183, u184, u185, u186, u187, u188, u189, u190, u191, u192, u193, u194, u195, u196, u197, u198, u199], []⟩ w') : (partL Tryd.f8 10).wp Tryd.prog Q ⟨#[u0, u1, u2, u3, u4, u5, .slice (some ⟨gm, 0, none⟩) nr cr, u7, u8, u9, .slice A2 n2 c2, u11, u12, u13, .int .i64 0, u15, u16, u17, u18, u19, u20, u21, u22, u23, u24, u25, u26, u27, u28, u29, u30, u31, u32, u33, u34, u35, u36, u37, u38, u39, u40, u41, u42, u43, u44, u45, u46, u47, u48, u49, u50, u51, u52, u53, u54, u55, u56, u57, u58, u59, u60, u61, u62, u63, u64, u65, u66, u67, u68, u69, u70, u71, u72, u73, u74, u75, u76, u77, u78, u79, u80, u81, u82, u83, u84, u85, u86, u87, u88, u89, u90, u91, u92, u93, u94, u95, u96, u97, u98, u99, u100, u101, u102, u103, u104, u105, u106, u107, u108, u109, u110, u111, u112, u113, u114, u115, u116, u117, u118, u119, u120, u121, u122, u123, u124, u125, u126, u127, u128, u129, u130, u131, u132, u133, u134, u135, u136, u137, u138, u139, u140, u141, u142, u143, u144, u145, u146, u147, u148, u149, u150, u151, u152, u153, u154, u155, u156, u157, u158, u159, u160, u161, u162, u163, u164, u165, u166, u167, u168, u169, u170, u171, u172, u173, u174, u175, u176, u177, u178, u179, u180, u181, u182, u183, u184, u185, u186, u187, u188, u189, u190, u191, u192, u193, u194, u195, u196, u197, u198, u199], []⟩ w := by
  have HG := Lib.hid hg
  have HGG := Lib.hid hG
  have HNR := Lib.hid hnr
  have HM := Lib.hid hm
  have HN2 := Lib.hid hn2
  have HR := Lib.hid hr
  have K1 := Lib.hid k1
  clear hg hG hnr hm hn2 hr k1
  conv => arg 2; whnf
  go_wp2
  go_loopw [14] (fun j wr => ∃ k : Nat, k ≤ n2 ∧ j = .int .i64 k ∧ Chg (fun k => k = gm) w wr ∧ MadeAt wr gm (putL (makes.take k) m true)) (fun j _ => n2 - (intOf j).toNat)
  case atStart => exact ⟨0, by omega, rfl, Chg.refl _ _, by simpa [putL] using HG.out⟩
  case round =>
    obtain ⟨k, hk, rfl, hch, hca⟩ := hrel
    have HCH := Lib.hid hch
    have HCA := Lib.hid hca
    clear hch hca
    by_cases hlt : k < n2
    · obtain ⟨x, hx⟩ : ∃ x, makes[k]? = some x := ⟨_, List.getElem?_eq_getElem (by have := HN2.out; omega)⟩
      obtain ⟨b, o, rfl, hb, hc⟩ := HM.out.at_ hx
      have hc2 := (World.cell?_of_block (w := w) (w' := wr) (a := ⟨b, o + k, none⟩) (HCH.out.block b (HGG.out b hb).2 (HGG.out b hb).1)).trans hc
      have hx2 := HR.out x (List.mem_of_getElem? hx)
      obtain ⟨q, rfl⟩ : ∃ q : Nat, x = q := ⟨x.toNat, by omega⟩
      have hlen : (putL (makes.take k) m true).length = nr := by rw [putL_len]; exact HNR.out
      obtain ⟨y, hy⟩ : ∃ y, (putL (makes.take k) m true)[q]? = some y := ⟨_, List.getElem?_eq_getElem (by omega)⟩
      have hd := HCA.out.cell hy
      have hf : wr.frozen? ⟨gm, q, none⟩ = false := frozen_row HCA.out q
      have HN := Lib.hid (show MadeAt (wr.setCell ⟨gm, q, none⟩ (.bool true)) gm (putL (makes.take (k + 1)) m true) by
        rw [putL_take hx]
        unfold putF
        rw [if_pos (by omega), Int.toNat_natCast]
        exact HCA.out.set q true)
      have i0 : (0 : Int) ≤ (k : Int) := by omega
      have i1 : (k : Int) < (n2 : Int) := by omega
      have q0 : (0 : Int) ≤ (q : Int) := by omega
      have q1 : (q : Int) < (nr : Int) := by omega
      clear hx hy hx2 hlen hc hb
      go_wp2
      go_roundw
      case rel => exact ⟨k + 1, by omega, by go_num, HCH.out.setCell (.inl rfl) _, HN.out⟩
      case measure => simp [intOf]; omega
    · have HN := Lib.hid (show MadeAt wr gm (putL makes m true) by have := HCA.out; rwa [List.take_of_length_le (by have := HN2.out; omega)] at this)
      go_wp2
      exact K1.out _ _ _ _ _ _ _ _ _ _ _ _ _ _ HCH.out HN.out

end Go.Proofs.YtppoiahhaclleaaDoor
