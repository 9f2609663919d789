/- ref12.Check: whether a program may be. -/
import Derived.Test.YtppoiahhaclleaaDoorRLimbH
import Derived.Test.YtppoiahhaclleaaDoorLimbK
namespace Go.Proofs.YtppoiahhaclleaaDoor
open Go.RowKit

theorem infoB : (Tryd.prog.info? 4).map (fun i => (i.zero, i.size, i.bytes)) = some (some (.bool false), 1, 1) := by kernel_rfl
theorem make_bool (n : Nat) (hn : n ≤ 64) (w : World) : (Instr.makeSlice 61 (.int .i64 n) (.int .i64 n)).run Tryd.prog w = .ok (.slice (some ⟨w.heap.size, 0, none⟩) n n) (w.alloc (.cells ((List.replicate n false).map Value.bool).toArray 4)) := by
  obtain ⟨i0, hi, hz0, hz1, hz2⟩ := info_parts infoB
  have h := run_make (P := Tryd.prog) w 61 4 i0 (.bool false) Tryd.underlying61 hi hz0 .i64 .i64 n n (by omega) (by omega) (by rw [hz2]; omega) (by omega)
  rw [hz1] at h
  have e : (Value.bool false).cells = #[.bool false] := rfl
  have e2 : madeCells #[.bool false] n = ((List.replicate n false).map Value.bool).toArray := by
    refine Array.ext (by simp [size_madeCells]) fun i h1 h2 => ?_
    simp [madeCells, Nat.mod_one]
  rw [e] at h
  simp only [Int.toNat_natCast, Nat.mul_one, e2] at h
  exact h

set_option maxRecDepth 100000 in
set_option maxHeartbeats 4000000 in
theorem rchk_l0 {Ab : Option Addr} {nb cb bp : Nat} {l : List Bf} {G : Nat → Prop} (w : World) (Q : Exit → Act → World → Prop) {u0 u2 u3 u5 u6 u7 u8 u9 u10 u11 u12 u13 u14 u15 u16 u17 u18 u19 u20 u21 u22 u23 u24 u25 u26 u27 u28 u29 u30 u31 u32 u33 u34 u35 u36 u37 u38 u39 u40 u41 u42 u43 u44 u45 u46 u47 u48 u49 u50 u51 u52 u53 u54 u55 u56 u57 u58 u59 u60 u61 u62 u63 u64 u65 u66 u67 u68 u69 u70 u71 u72 u73 u74 u75 u76 u77 u78 u79 u80 u81 u82 u83 u84 u85 u86 u87 u88 u89 u90 u91 u92 u93 u94 u95 u96 u97 u98 u99 u100 u101 u102 u103 u104 u105 u106 u107 u108 u109 u110 u111 u112 u113 u114 u115 u116 u117 u118 u119 u120 u121 u122 u123 u124 u125 u126 u127 u128 u129 u130 u131 u132 u133 u134 u135 u136 u137 u138 u139 u140 u141 u142 u143 u144 u145 u146 u147 u148 u149 u150 u151 u152 u153 u154 u155 u156 u157 u158 u159 u160 u161 u162 u163 u164 u165 u166 u167 u168 u169 u170 u171 u172 u173 u174 u175 u176 u177 u178 u179 u180 u181 u182 u183 u184 u185 u186 u187 u188 u189 u190 u191 u192 u193 u194 u195 u196 u197 u198 u199 : Value} (p1 : w.cell? ⟨bp, 1, none⟩ = some (.slice Ab nb cb)) (hl : BufsAt w G (.slice Ab nb cb) l) (hn : l.length = nb) (hn2 : nb ≤ 32)
    (k1 : l.any big1 = false → ∀ (v4 v30 v31 v32 v33 v34 v35 v36 v37 v38 v39 v40 v41 v42 v43 v2 v3 : Value), Q (.exit 0) ⟨#[u0, .pointer (some ⟨bp, 0, none⟩), v2, v3, v4, u5, u6, u7, u8, u9, u10, u11, u12, u13, u14, u15, u16, u17, u18, u19, u20, u21, u22, u23, u24, u25, u26, u27, u28, u29, v30, v31, v32, v33, v34, v35, v36, v37, v38, v39, v40, v41, v42, v43, u44, u45, u46, u47, u48, u49, u50, u51, u52, u53, u54, u55, u56, u57, u58, u59, u60, u61, u62, u63, u64, u65, u66, u67, u68, u69, u70, u71, u72, u73, u74, u75, u76, u77, u78, u79, u80, u81, u82, u83, u84, u85, u86, u87, u88, u89, u90, u91, u92, u93, u94, u95, u96, u97, u98, u99, u100, u101, u102, u103, u104, u105, u106, u107, u108, u109, u110, u111, u112, u113, u114, u115, u116, u117, u118, u119, u120, u121, u122, u123, u124, u125, u126, u127, u128, u129, u130, u131, u132, u133, u134, u135, u136, u137, u138, u139, u140, u141, u142, u143, u144, u145, u146, u147, u148, u149, u150, u151, u152, u153, u154, u155, u156, u157, u158, u159, u160, u161, u162, u163, u164, u165, u166, u167, u168, u169, u170, u171, u172, u173, u174, u175, u176, u177, u178, u179, u180, u181, u182, u183, u184, u185, u186, u187, u188, u189, u190, u191, u192, u193, u194, u195, u196, u197, u198, u199], []⟩ w) (k2 : l.any big1 = true → ∀ (v4 v30 v31 v32 v33 v34 v35 v36 v37 v38 v39 v40 v41 v42 v43 : Value), Q (.ret) ⟨#[u0, .pointer (some ⟨bp, 0, none⟩), .int .i64 0, .int .i64 3, v4, u5, u6, u7, u8, u9, u10, u11, u12, u13, u14, u15, u16, u17, u18, u19, u20, u21, u22, u23, u24, u25, u26, u27, u28, u29, v30, v31, v32, v33, v34, v35, v36, v37, v38, v39, v40, v41, v42, v43, u44, u45, u46, u47, u48, u49, u50, u51, u52, u53, u54, u55, u56, u57, u58, u59, u60, u61, u62, u63, u64, u65, u66, u67, u68, u69, u70, u71, u72, u73, u74, u75, u76, u77, u78, u79, u80, u81, u82, u83, u84, u85, u86, u87, u88, u89, u90, u91, u92, u93, u94, u95, u96, u97, u98, u99, u100, u101, u102, u103, u104, u105, u106, u107, u108, u109, u110, u111, u112, u113, u114, u115, u116, u117, u118, u119, u120, u121, u122, u123, u124, u125, u126, u127, u128, u129, u130, u131, u132, u133, u134, u135, u136, u137, u138, u139, u140, u141, u142, u143, u144, u145, u146, u147, u148, u149, u150, u151, u152, u153, u154, u155, u156, u157, u158, u159, u160, u161, u162, u163, u164, u165, u166, u167, u168, u169, u170, u171, u172, u173, u174, u175, u176, u177, u178, u179, u180, u181, u182, u183, u184, u185, u186, u187, u188, u189, u190, u191, u192, u193, u194, u195, u196, u197, u198, u199], []⟩ w) : (partL Tryd.f8 0).wp Tryd.prog Q ⟨#[u0, .pointer (some ⟨bp, 0, none⟩), u2, u3, .int .i64 0, u5, u6, u7, u8, u9, u10, u11, u12, u13, u14, u15, u16, u17, u18, u19, u20, u21, u22, u23, u24, u25, u26, u27, u28, u29, u30, u31, u32, u33, u34, u35, u36, u37, u38, u39, u40, u41, u42, u43, u44, u45, u46, u47, u48, u49, u50, u51, u52, u53, u54, u55, u56, u57, u58, u59, u60, u61, u62, u63, u64, u65, u66, u67, u68, u69, u70, u71, u72, u73, u74, u75, u76, u77, u78, u79, u80, u81, u82, u83, u84, u85, u86, u87, u88, u89, u90, u91, u92, u93, u94, u95, u96, u97, u98, u99, u100, u101, u102, u103, u104, u105, u106, u107, u108, u109, u110, u111, u112, u113, u114, u115, u116, u117, u118, u119, u120, u121, u122, u123, u124, u125, u126, u127, u128, u129, u130, u131, u132, u133, u134, u135, u136, u137, u138, u139, u140, u141, u142, u143, u144, u145, u146, u147, u148, u149, u150, u151, u152, u153, u154, u155, u156, u157, u158, u159, u160, u161, u162, u163, u164, u165, u166, u167, u168, u169, u170, u171, u172, u173, u174, u175, u176, u177, u178, u179, u180, u181, u182, u183, u184, u185, u186, u187, u188, u189, u190, u191, u192, u193, u194, u195, u196, u197, u198, u199], []⟩ w := by
  have HL := Lib.hid hl
  have HN := Lib.hid hn
  have K1 := Lib.hid k1
  have K2 := Lib.hid k2
  clear hl hn k1 k2
  conv => arg 2; whnf
  go_wp2
  go_loop [4] (fun j => ∃ k : Nat, k ≤ nb ∧ j = .int .i64 k ∧ Hid ((l.take k).any big1 = false)) (fun j => nb - (intOf j).toNat)
  case atStart => exact ⟨0, by omega, rfl, Lib.hid (by simp)⟩
  case round =>
    obtain ⟨k, hk, rfl, HT⟩ := hrel
    by_cases hlt : k < nb
    · obtain ⟨x, hx⟩ : ∃ x, l[k]? = some x := ⟨_, List.getElem?_eq_getElem (by have := HN.out; omega)⟩
      obtain ⟨b, o, rfl, _, c0, c1, _⟩ := HL.out.at_ hx
      have HX := Lib.hid hx
      have i0 : (0 : Int) ≤ (k : Int) := by omega
      have i1 : (k : Int) < (nb : Int) := by omega
      obtain ⟨sz, hsz⟩ : ∃ q, x.size = q := ⟨_, rfl⟩
      obtain ⟨kd, hkd⟩ : ∃ q, x.kind = q := ⟨_, rfl⟩
      rw [hsz] at c0
      rw [hkd] at c1
      have HSZ := Lib.hid (And.intro hsz hkd)
      clear hx hsz hkd
      cases d1 : decide ((65536 : Int) < sz)
      · have HN := Lib.hid (any_next (p := big1) HT.out HX.out (by unfold big1; rw [HSZ.out.1]; exact d1))
        go_wp2
        go_round
        case rel => exact ⟨k + 1, by omega, by go_num, HN⟩
        case measure => simp [intOf]; omega
      · have HN := Lib.hid (any_here (p := big1) HX.out (by unfold big1; rw [HSZ.out.1]; exact d1))
        go_wp2
        exact K2.out HN.out _ _ _ _ _ _ _ _ _ _ _ _ _ _ _
    · have HN := Lib.hid (any_whole HT.out (by have := HN.out; omega))
      go_wp2
      exact K1.out HN.out _ _ _ _ _ _ _ _ _ _ _ _ _ _ _ _ _

set_option maxRecDepth 100000 in
set_option maxHeartbeats 4000000 in
theorem rchk_l2 {Ab : Option Addr} {nb cb bp : Nat} {l : List Bf} {G : Nat → Prop} (w : World) (Q : Exit → Act → World → Prop) {u0 u2 u3 u4 u6 u7 u8 u9 u10 u11 u12 u13 u14 u15 u16 u17 u18 u19 u20 u21 u22 u23 u24 u25 u26 u27 u28 u29 u30 u31 u32 u33 u34 u35 u36 u37 u38 u39 u40 u41 u42 u43 u44 u45 u46 u47 u48 u49 u50 u51 u52 u53 u54 u55 u56 u57 u58 u59 u60 u61 u62 u63 u64 u65 u66 u67 u68 u69 u70 u71 u72 u73 u74 u75 u76 u77 u78 u79 u80 u81 u82 u83 u84 u85 u86 u87 u88 u89 u90 u91 u92 u93 u94 u95 u96 u97 u98 u99 u100 u101 u102 u103 u104 u105 u106 u107 u108 u109 u110 u111 u112 u113 u114 u115 u116 u117 u118 u119 u120 u121 u122 u123 u124 u125 u126 u127 u128 u129 u130 u131 u132 u133 u134 u135 u136 u137 u138 u139 u140 u141 u142 u143 u144 u145 u146 u147 u148 u149 u150 u151 u152 u153 u154 u155 u156 u157 u158 u159 u160 u161 u162 u163 u164 u165 u166 u167 u168 u169 u170 u171 u172 u173 u174 u175 u176 u177 u178 u179 u180 u181 u182 u183 u184 u185 u186 u187 u188 u189 u190 u191 u192 u193 u194 u195 u196 u197 u198 u199 : Value} (p1 : w.cell? ⟨bp, 1, none⟩ = some (.slice Ab nb cb)) (hl : BufsAt w G (.slice Ab nb cb) l) (hn : l.length = nb) (hn2 : nb ≤ 32)
    (k1 : l.any bad1 = false → ∀ (v5 v47 v48 v49 v50 v51 v52 v53 v54 v55 v56 v57 v58 v59 v60 v61 v62 v63 v64 v65 v66 v67 v68 v69 v70 v71 v72 v73 v74 v75 v76 v77 v78 v2 v3 : Value), Q (.exit 2) ⟨#[u0, .pointer (some ⟨bp, 0, none⟩), v2, v3, u4, v5, u6, u7, u8, u9, u10, u11, u12, u13, u14, u15, u16, u17, u18, u19, u20, u21, u22, u23, u24, u25, u26, u27, u28, u29, u30, u31, u32, u33, u34, u35, u36, u37, u38, u39, u40, u41, u42, u43, u44, u45, u46, v47, v48, v49, v50, v51, v52, v53, v54, v55, v56, v57, v58, v59, v60, v61, v62, v63, v64, v65, v66, v67, v68, v69, v70, v71, v72, v73, v74, v75, v76, v77, v78, u79, u80, u81, u82, u83, u84, u85, u86, u87, u88, u89, u90, u91, u92, u93, u94, u95, u96, u97, u98, u99, u100, u101, u102, u103, u104, u105, u106, u107, u108, u109, u110, u111, u112, u113, u114, u115, u116, u117, u118, u119, u120, u121, u122, u123, u124, u125, u126, u127, u128, u129, u130, u131, u132, u133, u134, u135, u136, u137, u138, u139, u140, u141, u142, u143, u144, u145, u146, u147, u148, u149, u150, u151, u152, u153, u154, u155, u156, u157, u158, u159, u160, u161, u162, u163, u164, u165, u166, u167, u168, u169, u170, u171, u172, u173, u174, u175, u176, u177, u178, u179, u180, u181, u182, u183, u184, u185, u186, u187, u188, u189, u190, u191, u192, u193, u194, u195, u196, u197, u198, u199], []⟩ w) (k2 : l.any bad1 = true → ∀ (v5 v47 v48 v49 v50 v51 v52 v53 v54 v55 v56 v57 v58 v59 v60 v61 v62 v63 v64 v65 v66 v67 v68 v69 v70 v71 v72 v73 v74 v75 v76 v77 v78 : Value), Q (.ret) ⟨#[u0, .pointer (some ⟨bp, 0, none⟩), .int .i64 0, .int .i64 2, u4, v5, u6, u7, u8, u9, u10, u11, u12, u13, u14, u15, u16, u17, u18, u19, u20, u21, u22, u23, u24, u25, u26, u27, u28, u29, u30, u31, u32, u33, u34, u35, u36, u37, u38, u39, u40, u41, u42, u43, u44, u45, u46, v47, v48, v49, v50, v51, v52, v53, v54, v55, v56, v57, v58, v59, v60, v61, v62, v63, v64, v65, v66, v67, v68, v69, v70, v71, v72, v73, v74, v75, v76, v77, v78, u79, u80, u81, u82, u83, u84, u85, u86, u87, u88, u89, u90, u91, u92, u93, u94, u95, u96, u97, u98, u99, u100, u101, u102, u103, u104, u105, u106, u107, u108, u109, u110, u111, u112, u113, u114, u115, u116, u117, u118, u119, u120, u121, u122, u123, u124, u125, u126, u127, u128, u129, u130, u131, u132, u133, u134, u135, u136, u137, u138, u139, u140, u141, u142, u143, u144, u145, u146, u147, u148, u149, u150, u151, u152, u153, u154, u155, u156, u157, u158, u159, u160, u161, u162, u163, u164, u165, u166, u167, u168, u169, u170, u171, u172, u173, u174, u175, u176, u177, u178, u179, u180, u181, u182, u183, u184, u185, u186, u187, u188, u189, u190, u191, u192, u193, u194, u195, u196, u197, u198, u199], []⟩ w) : (partL Tryd.f8 2).wp Tryd.prog Q ⟨#[u0, .pointer (some ⟨bp, 0, none⟩), u2, u3, u4, .int .i64 0, u6, u7, u8, u9, u10, u11, u12, u13, u14, u15, u16, u17, u18, u19, u20, u21, u22, u23, u24, u25, u26, u27, u28, u29, u30, u31, u32, u33, u34, u35, u36, u37, u38, u39, u40, u41, u42, u43, u44, u45, u46, u47, u48, u49, u50, u51, u52, u53, u54, u55, u56, u57, u58, u59, u60, u61, u62, u63, u64, u65, u66, u67, u68, u69, u70, u71, u72, u73, u74, u75, u76, u77, u78, u79, u80, u81, u82, u83, u84, u85, u86, u87, u88, u89, u90, u91, u92, u93, u94, u95, u96, u97, u98, u99, u100, u101, u102, u103, u104, u105, u106, u107, u108, u109, u110, u111, u112, u113, u114, u115, u116, u117, u118, u119, u120, u121, u122, u123, u124, u125, u126, u127, u128, u129, u130, u131, u132, u133, u134, u135, u136, u137, u138, u139, u140, u141, u142, u143, u144, u145, u146, u147, u148, u149, u150, u151, u152, u153, u154, u155, u156, u157, u158, u159, u160, u161, u162, u163, u164, u165, u166, u167, u168, u169, u170, u171, u172, u173, u174, u175, u176, u177, u178, u179, u180, u181, u182, u183, u184, u185, u186, u187, u188, u189, u190, u191, u192, u193, u194, u195, u196, u197, u198, u199], []⟩ w := by
  have HL := Lib.hid hl
  have HN := Lib.hid hn
  have K1 := Lib.hid k1
  have K2 := Lib.hid k2
  clear hl hn k1 k2
  conv => arg 2; whnf
  go_wp2
  go_loop [5] (fun j => ∃ k : Nat, k ≤ nb ∧ j = .int .i64 k ∧ Hid ((l.take k).any bad1 = false)) (fun j => nb - (intOf j).toNat)
  case atStart => exact ⟨0, by omega, rfl, Lib.hid (by simp)⟩
  case round =>
    obtain ⟨k, hk, rfl, HT⟩ := hrel
    by_cases hlt : k < nb
    · obtain ⟨x, hx⟩ : ∃ x, l[k]? = some x := ⟨_, List.getElem?_eq_getElem (by have := HN.out; omega)⟩
      obtain ⟨b, o, rfl, _, c0, c1, _⟩ := HL.out.at_ hx
      have HX := Lib.hid hx
      have i0 : (0 : Int) ≤ (k : Int) := by omega
      have i1 : (k : Int) < (nb : Int) := by omega
      obtain ⟨sz, hsz⟩ : ∃ q, x.size = q := ⟨_, rfl⟩
      obtain ⟨kd, hkd⟩ : ∃ q, x.kind = q := ⟨_, rfl⟩
      rw [hsz] at c0
      rw [hkd] at c1
      have HSZ := Lib.hid (And.intro hsz hkd)
      clear hx hsz hkd
      cases d1 : decide (sz < (1 : Int))
      · cases d2 : decide (kd < (1 : Int))
        · cases d3 : decide ((3 : Int) < kd)
          · have HN := Lib.hid (any_next (p := bad1) HT.out HX.out (by unfold bad1; rw [HSZ.out.1, HSZ.out.2, d1, d2, d3]; rfl))
            go_wp2
            go_round
            case rel => exact ⟨k + 1, by omega, by go_num, HN⟩
            case measure => simp [intOf]; omega
          · have HN := Lib.hid (any_here (p := bad1) HX.out (by unfold bad1; rw [HSZ.out.1, HSZ.out.2, d1, d2, d3]; rfl))
            go_wp2
            exact K2.out HN.out _ _ _ _ _ _ _ _ _ _ _ _ _ _ _ _ _ _ _ _ _ _ _ _ _ _ _ _ _ _ _ _ _
        · have HN := Lib.hid (any_here (p := bad1) HX.out (by unfold bad1; rw [HSZ.out.1, HSZ.out.2, d1, d2]; rfl))
          go_wp2
          exact K2.out HN.out _ _ _ _ _ _ _ _ _ _ _ _ _ _ _ _ _ _ _ _ _ _ _ _ _ _ _ _ _ _ _ _ _
      · have HN := Lib.hid (any_here (p := bad1) HX.out (by unfold bad1; rw [HSZ.out.1, HSZ.out.2, d1]; rfl))
        go_wp2
        exact K2.out HN.out _ _ _ _ _ _ _ _ _ _ _ _ _ _ _ _ _ _ _ _ _ _ _ _ _ _ _ _ _ _ _ _ _
    · have HN := Lib.hid (any_whole HT.out (by have := HN.out; omega))
      go_wp2
      exact K1.out HN.out _ _ _ _ _ _ _ _ _ _ _ _ _ _ _ _ _ _ _ _ _ _ _ _ _ _ _ _ _ _ _ _ _ _ _


set_option maxRecDepth 100000 in
set_option maxHeartbeats 8000000 in
theorem Rcheck_any (p : LP) (Ab Ao : Option Addr) (nb cb no co : Nat) (w : World) (hp : ProgAt w (fun k => k < w.heap.size) [.int .i64 p.regs, .slice Ab nb cb, .slice Ao no co] p) :
    Calls Tryd.prog 8 #[.agg #[.int .i64 p.regs, .slice Ab nb cb, .slice Ao no co]] w fun e w' => e = .returned (.tuple #[.int .i64 (checkF p p.regs.toNat).1, .int .i64 (checkF p p.regs.toNat).2]) ∧ Below w.heap.size w w' := by
  obtain ⟨W, hW, hbW, hzW, hl_, hr_⟩ := boxed w #[.int .i64 p.regs, .slice Ab nb cb, .slice Ao no co] 25
  have hP : W.heap[w.heap.size]? = some (.cells #[.int .i64 p.regs, .slice Ab nb cb, .slice Ao no co] 25 (0, 0)) := by rw [hW]; exact heap_alloc_new w _
  have c0 : W.cell? ⟨w.heap.size, 0, none⟩ = some (.int .i64 p.regs) := by rw [hl_]; rfl
  have c1 : W.cell? ⟨w.heap.size, 1, none⟩ = some (.slice Ab nb cb) := by rw [hl_]; rfl
  have c2 : W.cell? ⟨w.heap.size, 2, none⟩ = some (.slice Ao no co) := by rw [hl_]; rfl
  have hp1 := prog_next hp hbW
  obtain ⟨hBuf, hOps⟩ : BufsAt W (fun k => k < W.heap.size) (.slice Ab nb cb) p.bufs ∧ OpsAt W (fun k => k < W.heap.size) (.slice Ao no co) p.ops := by
    obtain ⟨vb, vo, h, h1, h2⟩ := hp1.row
    simp only [List.cons.injEq] at h
    rw [h.2.1, h.2.2.1]; exact ⟨h1, h2⟩
  have hnb : p.bufs.length = nb := by obtain ⟨A, c, hv, _⟩ := rows_form hBuf; cases hv; rfl
  have hno : p.ops.length = no := by obtain ⟨A, c, hv, _⟩ := rows_form hOps; cases hv; rfl
  obtain ⟨r, hr⟩ : ∃ r, p.regs = r := ⟨_, rfl⟩
  obtain ⟨x1, hx1⟩ : ∃ x, p.bufs.any big1 = x := ⟨_, rfl⟩
  obtain ⟨x2, hx2⟩ : ∃ x, p.bufs.any bad1 = x := ⟨_, rfl⟩
  have HV := Lib.hid (show headF p = if 64 < r ∨ 32 < nb ∨ 65536 < no then 3 else if x1 = true then 3 else if r < 0 ∨ x2 = true then 2 else 0 by unfold headF; rw [hr, hnb, hno, ← hx1, ← hx2]; rfl)
  have HCE := Lib.hid (show ∀ e, e ≠ 0 → headF p = e → checkF p p.regs.toNat = (0, e) from fun e h0 h => by unfold checkF; rw [if_pos (by rw [h]; exact h0), h])
  have HX1 := Lib.hid hx1
  have HX2 := Lib.hid hx2
  have HBUF := Lib.hid hBuf
  have HP := Lib.hid hp1
  have HPB := Lib.hid hP
  have HW := Lib.hid hW
  have HB := Lib.hid hbW
  have HR := Lib.hid hr
  have HNB := Lib.hid hnb
  have HNO := Lib.hid hno
  have HLT := Lib.hid (show w.heap.size < W.heap.size by omega)
  rw [hr] at c0
  clear hW hbW hzW hl_ hr_ hP hp hp1 hBuf hOps hnb hno hr hx1 hx2
  go_enter Tryd.func8, Tryd.ntmps8
  go_upto_region 1 with fail
  rw [← HW.out]
  by_cases m1 : 64 < r
  · have HC := Lib.hid (HCE.out 3 (by decide) (HV.out.trans (if_pos (.inl m1))))
    have d1 : decide ((64 : Int) < r) = true := decide_eq_true m1
    clear m1
    go_wp2
    go_ret2
    rw [HC.out]
    exact ⟨rfl, HB.out⟩
  have d1 : decide ((64 : Int) < r) = false := decide_eq_false m1
  by_cases m2 : 32 < nb
  · have HC := Lib.hid (HCE.out 3 (by decide) (HV.out.trans (if_pos (.inr (.inl m2)))))
    have d2 : decide ((32 : Int) < (nb : Int)) = true := decide_eq_true (by omega)
    clear m1 m2
    go_wp2
    go_ret2
    rw [HC.out]
    exact ⟨rfl, HB.out⟩
  have d2 : decide ((32 : Int) < (nb : Int)) = false := decide_eq_false (by omega)
  by_cases m3 : 65536 < no
  · have HC := Lib.hid (HCE.out 3 (by decide) (HV.out.trans (if_pos (.inr (.inr m3)))))
    have d3 : decide ((65536 : Int) < (no : Int)) = true := decide_eq_true (by omega)
    clear m1 m2 m3
    go_wp2
    go_ret2
    rw [HC.out]
    exact ⟨rfl, HB.out⟩
  have d3 : decide ((65536 : Int) < (no : Int)) = false := decide_eq_false (by omega)
  have HV := Lib.hid (HV.out.trans (if_neg (by omega)))
  have hnb32 : nb ≤ 32 := by omega
  have hno6 : no ≤ 65536 := by omega
  have hr64 : r ≤ 64 := by omega
  clear m1 m2 m3
  go_wp2
  refine wp_code (c := partL Tryd.f8 0) (by kernel_rfl) ?_
  refine rchk_l0 (l := p.bufs) _ _ c1 HBUF.out HNB.out hnb32 ?_ ?_
  rotate_left
  · intro hb v4 v30 v31 v32 v33 v34 v35 v36 v37 v38 v39 v40 v41 v42 v43
    have hx := HX1.out
    rw [hb] at hx
    have HC := Lib.hid (HCE.out 3 (by decide) (HV.out.trans (if_pos hx.symm)))
    clear hb hx
    go_wp2
    go_ret2
    rw [HC.out]
    exact ⟨rfl, HB.out⟩
  intro hb0 v4 v30 v31 v32 v33 v34 v35 v36 v37 v38 v39 v40 v41 v42 v43 v2 v3
  have HV := Lib.hid (HV.out.trans (if_neg (by rw [← HX1.out, hb0]; decide)))
  clear hb0 d1 d2 d3
  by_cases m4 : r < 0
  · have HC := Lib.hid (HCE.out 2 (by decide) (HV.out.trans (if_pos (.inl m4))))
    have d4 : decide (r < (0 : Int)) = true := decide_eq_true m4
    clear m4
    go_wp2
    go_ret2
    rw [HC.out]
    exact ⟨rfl, HB.out⟩
  have d4 : decide (r < (0 : Int)) = false := decide_eq_false m4
  go_wp2
  refine wp_code (c := partL Tryd.f8 2) (by kernel_rfl) ?_
  refine rchk_l2 (l := p.bufs) _ _ c1 HBUF.out HNB.out hnb32 ?_ ?_
  rotate_left
  · intro hb v5 v47 v48 v49 v50 v51 v52 v53 v54 v55 v56 v57 v58 v59 v60 v61 v62 v63 v64 v65 v66 v67 v68 v69 v70 v71 v72 v73 v74 v75 v76 v77 v78
    have hx := HX2.out
    rw [hb] at hx
    have HC := Lib.hid (HCE.out 2 (by decide) (HV.out.trans (if_pos (.inr hx.symm))))
    clear hb hx
    go_wp2
    go_ret2
    rw [HC.out]
    exact ⟨rfl, HB.out⟩
  intro hb2 v5 v47 v48 v49 v50 v51 v52 v53 v54 v55 v56 v57 v58 v59 v60 v61 v62 v63 v64 v65 v66 v67 v68 v69 v70 v71 v72 v73 v74 v75 v76 v77 v78 v2 v3
  have HOK := Lib.hid (show headF p = 0 from HV.out.trans (if_neg (by rw [← HX2.out, hb2]; simp [m4])))
  obtain ⟨nr, hnr⟩ : ∃ n : Nat, r = n := ⟨r.toNat, by omega⟩
  subst hnr
  have hmk := make_bool nr (by omega) W
  clear hb2 d4 m4
  obtain ⟨W1, hW1⟩ : ∃ q, q = W.alloc (.cells ((List.replicate nr false).map Value.bool).toArray 4) := ⟨_, rfl⟩
  rw [← hW1] at hmk
  have hb1 : Below W.heap.size W W1 := by rw [hW1]; exact (Below.refl _ _).alloc (Nat.le_refl _) _
  obtain ⟨gm, hgm⟩ : ∃ g, W.heap.size = g := ⟨_, rfl⟩
  have hs0 : RSt W1 gm gm nr p ⟨List.replicate nr false, []⟩ none 0 := by
    refine ⟨?_, by simp, World.ownsRow_nil _ _ _ _, (fun e => by cases e), by simp, by simp⟩
    rw [← hgm]
    show W1.heap[W.heap.size]? = _
    rw [hW1]
    exact heap_alloc_new W _
  have HS0 := Lib.hid hs0
  have HP1 := Lib.hid (show ∀ wr, Below gm W1 wr → ProgAt wr (fun j => j < gm) [.int .i64 p.regs, .slice Ab nb cb, .slice Ao no co] p from fun wr hb => by
    rw [← hgm]
    exact HP.out.keep ((SameOn.of_below hb1 fun _ h => h).trans (SameOn.of_below (by rw [hgm]; exact hb) fun _ h => h))
    )
  have HPB1 := Lib.hid (show ∀ wr, Below gm W1 wr → wr.heap[w.heap.size]? = some (.cells #[.int .i64 p.regs, .slice Ab nb cb, .slice Ao no co] 25 (0, 0)) from fun wr hb => by
    rw [hb.block _ (by have := HLT.out; omega), hb1.block _ HLT.out]
    exact HPB.out)
  have HBB := Lib.hid (show ∀ wr, Below gm W1 wr → Below w.heap.size w wr from fun wr hb => HB.out.trans ((hb1.trans (by rw [hgm]; exact hb)).mono HB.out.size))
  have e2 : W1.cell? ⟨w.heap.size, 2, none⟩ = some (.slice Ao no co) := by rw [hb1.cell (p := ⟨w.heap.size, 2, none⟩) HLT.out]; exact c2
  have HLG := Lib.hid (show w.heap.size < gm by have := HLT.out; omega)
  have E2 := Lib.hid e2
  rw [hgm] at hmk
  have HRN := Lib.hid (show p.regs.toNat = nr by rw [HR.out]; simp)
  clear hW1 hb1 hs0
  go_upto_region 16 with fail
  clear hmk c0 c1 c2
  go_wp2
  go_loopw [7, 8] (fun v i wr => ∃ (k : Nat) (A : Option Addr) (c : Nat), k ≤ no ∧ i = .int .i64 k ∧ v = .slice A (runTo p nr k).2.2.loops.length c ∧ (runTo p nr k).1 = 0 ∧ RSt wr gm gm nr p (runTo p nr k).2.2 A c ∧ Below gm W1 wr) (fun _ i _ => no - (intOf i).toNat)
  case atStart => exact ⟨0, none, 0, by omega, rfl, rfl, rfl, HS0.out, Below.refl _ _⟩
  case round =>
    obtain ⟨k, A, c, hk, rfl, rfl, hr0, hst, hbl⟩ := hrel
    have HR0 := Lib.hid hr0
    have HST := Lib.hid hst
    have HBL := Lib.hid hbl
    have e2 := (hbl.cell (p := ⟨w.heap.size, 2, none⟩) HLG.out).trans E2.out
    clear hr0 hst hbl
    by_cases hlt : k < no
    · obtain ⟨o, ho⟩ : ∃ o, p.ops[k]? = some o := ⟨_, List.getElem?_eq_getElem (by rw [HNO.out]; omega)⟩
      have HO := Lib.hid ho
      have HNX := Lib.hid (run_next HR0.out ho)
      clear ho
      go_upto_region 20 with fail
      refine wp_code (c := partR Tryd.f8 20) (by kernel_rfl) ?_
      refine rchk_t20 (p := p) (o := o) (s := (runTo p nr k).2.2) (B0 := gm) (gm := gm) (k := k) _ _ (HPB1.out _ HBL.out) (HP1.out _ HBL.out) (Nat.le_refl _) HO.out HST.out HOK.out HR.out ?_ ?_ (fun a_ w_ h_ => (‹∀ (a : Act) (w : World), Code.wp _ _ _ a w → _› : _) a_ w_ (wp_code (by kernel_rfl) h_))
      · intro h0 ex hex A' c' v2 v3 v9 v10 v11 v12 v13 v14 v89 v90 v91 v92 v93 v94 v95 v96 v97 v98 v99 v100 v101 v102 v103 v104 v105 v106 v107 v108 v109 v110 v111 v112 v113 v114 v115 v116 v117 v118 v119 v120 v121 v122 v123 v124 v125 v126 v127 v128 v129 v130 v131 v132 v133 v134 v135 v136 v137 v138 v139 v140 v141 v142 v143 v144 v145 v146 v147 v148 v149 v150 v151 v152 v153 v154 v155 v156 v157 v158 v159 v160 v161 v162 v163 v164 v165 v166 v167 v168 v169 v170 v171 v172 v173 v174 v175 v176 v177 v178 v179 v180 v181 v182 v183 v184 v185 v186 v187 v188 v189 v190 w' hb' hs'
        have HS' := Lib.hid hs'
        have HB' := Lib.hid (HBL.out.trans hb')
        have HN := Lib.hid (HNX.out.trans (if_neg (by rw [h0]; decide)))
        clear h0 hb' hs'
        rcases hex with rfl | rfl
        · go_wp2
          go_roundw
          case rel => exact ⟨k + 1, A', c', by omega, by go_num, by rw [HN.out], by rw [HN.out], by rw [HN.out]; exact HS'.out, HB'.out⟩
          case measure => simp [intOf]; omega
        · go_wp2
          go_roundw
          case rel => exact ⟨k + 1, A', c', by omega, by go_num, by rw [HN.out], by rw [HN.out], by rw [HN.out]; exact HS'.out, HB'.out⟩
          case measure => simp [intOf]; omega
      · intro h0 v7 v9 v10 v11 v12 v13 v14 v89 v90 v91 v92 v93 v94 v95 v96 v97 v98 v99 v100 v101 v102 v103 v104 v105 v106 v107 v108 v109 v110 v111 v112 v113 v114 v115 v116 v117 v118 v119 v120 v121 v122 v123 v124 v125 v126 v127 v128 v129 v130 v131 v132 v133 v134 v135 v136 v137 v138 v139 v140 v141 v142 v143 v144 v145 v146 v147 v148 v149 v150 v151 v152 v153 v154 v155 v156 v157 v158 v159 v160 v161 v162 v163 v164 v165 v166 v167 v168 v169 v170 v171 v172 v173 v174 v175 v176 v177 v178 v179 v180 v181 v182 v183 v184 v185 v186 v187 v188 v189 v190 w' hb'
        have HC := Lib.hid (check_at HOK.out HR0.out HO.out h0)
        have HB' := Lib.hid (HBB.out _ (HBL.out.trans (hb'.mono (by have := lt_of_block HST.out.made; omega))))
        clear h0 hb'
        go_wp2
        go_ret2
        rw [HRN.out, HC.out]
        exact ⟨rfl, HB'.out⟩
    · have hkn : p.ops.length = k := by have := HNO.out; omega
      have HC := Lib.hid (check_end HOK.out (by rw [hkn]; exact HR0.out))
      rw [hkn] at HC
      obtain ⟨l, hl⟩ : ∃ l, (runTo p nr k).2.2.loops = l := ⟨_, rfl⟩
      rw [hl] at HC ⊢
      clear hkn hl
      cases l with
      | nil =>
        have HC := Lib.hid (show checkF p nr = ((k : Int), 0) from HC.out.trans (if_neg (by simp)))
        have d1 : decide ((0 : Int) < ((List.length ([] : List Int) : Nat) : Int)) = false := rfl
        go_wp2
        go_ret2
        rw [HRN.out, HC.out]
        refine ⟨by rw [show k = no by omega]; rfl, HBB.out _ HBL.out⟩
      | cons r l =>
        have HC := Lib.hid (show checkF p nr = ((k : Int), 9) from HC.out.trans (if_pos (by simp)))
        have d1 : decide ((0 : Int) < ((List.length (r :: l) : Nat) : Int)) = true := by simp
        go_wp2
        go_ret2
        rw [HRN.out, HC.out]
        refine ⟨by rw [show k = no by omega]; rfl, HBB.out _ HBL.out⟩

end Go.Proofs.YtppoiahhaclleaaDoor
