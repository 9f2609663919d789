/- ref12.fields: whether an operation has the registers that it must. -/
import Derived.Test.YtppoiahhaclleaaDoorRLimbA
import Derived.Test.YtppoiahhaclleaaDoorPart
namespace Go.Proofs.YtppoiahhaclleaaDoor
open Go.RowKit

set_option maxRecDepth 100000 in
set_option maxHeartbeats 8000000 in
theorem rfields_r10 (p : LP) (Ab Ao : Option Addr) (nb cb no co : Nat) (o : LOp) (bp bo : Nat) (bm bd be ba bb bc : Bool) (w : World) (Q : Exit → Act → World → Prop) (u0 u1 u4 u5 u12 u13 u14 u15 u16 u17 u18 u19 u20 u21 u22 u23 u24 u25 u26 u27 u28 u29 u30 u31 u32 u33 u34 u35 u36 u37 u38 u39 u40 u41 u42 u43 u44 u45 u46 u47 u48 u49 u50 u51 u52 u53 u54 u55 u56 u57 u58 u59 u60 u61 u62 u63 u64 u65 u66 u67 u68 u69 u70 u71 u72 u73 u74 u75 u76 u77 u78 u79 u80 u81 u82 u83 u84 u85 u86 u87 u88 u89 u90 u91 u92 u93 u94 u95 u96 u97 u98 u99 u100 u101 u102 u103 u104 u105 u106 u107 u108 u109 u110 u111 u112 u113 u114 u115 u116 u117 u118 u119 u120 u121 u122 u123 u124 u125 u126 u127 u128 u129 u130 u131 u132 u133 u134 u135 u136 u137 u138 u139 u140 u141 u142 u143 u144 u145 u146 u147 u148 u149 u150 u151 u152 u153 u154 u155 u156 u157 u158 u159 u160 u161 u162 u163 u164 u165 u166 u167 u168 u169 u170 u171 u172 u173 u174 u175 u176 u177 u178 u179 u180 u181 u182 u183 u184 u185 u186 u187 u188 u189 u190 u191 u192 u193 u194 u195 u196 u197 u198 u199 u200 u201 u202 u203 u204 u205 u206 u207 u208 u209 u210 u211 : Value)
    (KP : w.heap[bp]? = some (.cells #[.int .i64 p.regs, .slice Ab nb cb, .slice Ao no co] 25 (0, 0))) (KO : w.heap[bo]? = some (.cells (opRow o).toArray 47 (0, 0)))
    (k : ∀ (v76 v77 v78 v79 v80 v81 v82 v83 v84 v85 v86 v87 v88 v89 v90 v91 v92 v93 v94 v95 v96 v97 v98 v99 v100 v101 v102 v103 v104 v105 v106 v107 v108 v109 v110 v111 v112 v113 v114 v115 v116 v117 v118 v119 v120 v121 v122 v123 v124 v125 v126 v127 v128 v129 v130 v131 : Value) (w' : World), Below w.heap.size w w' → Q .normal ⟨#[u0, u1, .pointer (some ⟨bp, 0, none⟩), .pointer (some ⟨bo, 0, none⟩), u4, u5, .bool bm, .bool bd, .bool be, .bool ba, .bool bb, .bool bc, u12, u13, u14, u15, u16, u17, u18, u19, u20, u21, u22, u23, u24, u25, u26, u27, u28, u29, u30, u31, u32, u33, u34, u35, u36, u37, u38, u39, u40, u41, u42, u43, u44, u45, u46, u47, u48, u49, u50, u51, u52, u53, u54, u55, u56, u57, u58, u59, u60, u61, u62, u63, u64, u65, u66, u67, u68, u69, u70, u71, u72, u73, u74, u75, v76, v77, v78, v79, v80, v81, v82, v83, v84, v85, v86, v87, v88, v89, v90, v91, v92, v93, v94, v95, v96, v97, v98, v99, v100, v101, v102, v103, v104, v105, v106, v107, v108, v109, v110, v111, v112, v113, v114, v115, v116, v117, v118, v119, v120, v121, v122, v123, v124, v125, v126, v127, v128, v129, v130, v131, .bool (!(regIs p o.d bd && (regIs p o.e be && ((regIs p o.a ba || (bm && o.a == -1)) && (regIs p o.b bb && (regIs p o.c bc && !(be && o.d == o.e))))))), u133, u134, u135, u136, u137, u138, u139, u140, u141, u142, u143, u144, u145, u146, u147, u148, u149, u150, u151, u152, u153, u154, u155, u156, u157, u158, u159, u160, u161, u162, u163, u164, u165, u166, u167, u168, u169, u170, u171, u172, u173, u174, u175, u176, u177, u178, u179, u180, u181, u182, u183, u184, u185, u186, u187, u188, u189, u190, u191, u192, u193, u194, u195, u196, u197, u198, u199, u200, u201, u202, u203, u204, u205, u206, u207, u208, u209, u210, u211], []⟩ w') : (partR Tryd.f27 10).wp Tryd.prog Q ⟨#[u0, u1, .pointer (some ⟨bp, 0, none⟩), .pointer (some ⟨bo, 0, none⟩), u4, u5, .bool bm, .bool bd, .bool be, .bool ba, .bool bb, .bool bc, u12, u13, u14, u15, u16, u17, u18, u19, u20, u21, u22, u23, u24, u25, u26, u27, u28, u29, u30, u31, u32, u33, u34, u35, u36, u37, u38, u39, u40, u41, u42, u43, u44, u45, u46, u47, u48, u49, u50, u51, u52, u53, u54, u55, u56, u57, u58, u59, u60, u61, u62, u63, u64, u65, u66, u67, u68, u69, u70, u71, u72, u73, u74, u75, u76, u77, u78, u79, u80, u81, u82, u83, u84, u85, u86, u87, u88, u89, u90, u91, u92, u93, u94, u95, u96, u97, u98, u99, u100, u101, u102, u103, u104, u105, u106, u107, u108, u109, u110, u111, u112, u113, u114, u115, u116, u117, u118, u119, u120, u121, u122, u123, u124, u125, u126, u127, u128, u129, u130, u131, u132, u133, u134, u135, u136, u137, u138, u139, u140, u141, u142, u143, u144, u145, u146, u147, u148, u149, u150, u151, u152, u153, u154, u155, u156, u157, u158, u159, u160, u161, u162, u163, u164, u165, u166, u167, u168, u169, u170, u171, u172, u173, u174, u175, u176, u177, u178, u179, u180, u181, u182, u183, u184, u185, u186, u187, u188, u189, u190, u191, u192, u193, u194, u195, u196, u197, u198, u199, u200, u201, u202, u203, u204, u205, u206, u207, u208, u209, u210, u211], []⟩ w := by
  obtain ⟨n, hn⟩ : ∃ n, p.regs = n := ⟨_, rfl⟩
  obtain ⟨d, hd⟩ : ∃ d, o.d = d := ⟨_, rfl⟩
  obtain ⟨e, he⟩ : ∃ e, o.e = e := ⟨_, rfl⟩
  obtain ⟨a, ha⟩ : ∃ a, o.a = a := ⟨_, rfl⟩
  obtain ⟨b, hb⟩ : ∃ b, o.b = b := ⟨_, rfl⟩
  obtain ⟨c, hc⟩ : ∃ c, o.c = c := ⟨_, rfl⟩
  have CP := Lib.hid (show w.cell? ⟨bp, 0, none⟩ = some (.int .i64 n) ∧ w.cell? ⟨bp, 1, none⟩ = some (.slice Ab nb cb) ∧ w.cell? ⟨bp, 2, none⟩ = some (.slice Ao no co) from by simp only [World.cell?, KP, ← hn]; exact ⟨rfl, rfl, rfl⟩)
  have CO := Lib.hid (show w.cell? ⟨bo, 1, none⟩ = some (.int .i64 d) ∧ w.cell? ⟨bo, 2, none⟩ = some (.int .i64 e) ∧ w.cell? ⟨bo, 3, none⟩ = some (.int .i64 a) ∧ w.cell? ⟨bo, 4, none⟩ = some (.int .i64 b) ∧ w.cell? ⟨bo, 5, none⟩ = some (.int .i64 c) from by simp only [World.cell?, KO, ← hd, ← he, ← ha, ← hb, ← hc]; exact ⟨rfl, rfl, rfl, rfl, rfl⟩)
  have LP := Lib.hid (lt_of_block KP)
  have LO := Lib.hid (lt_of_block KO)
  rw [hd, he, ha, hb, hc] at k
  obtain ⟨xd, hxd⟩ : ∃ x, regIs p d bd = x := ⟨_, rfl⟩
  obtain ⟨xe, hxe⟩ : ∃ x, regIs p e be = x := ⟨_, rfl⟩
  obtain ⟨xa, hxa⟩ : ∃ x, regIs p a ba = x := ⟨_, rfl⟩
  obtain ⟨xb, hxb⟩ : ∃ x, regIs p b bb = x := ⟨_, rfl⟩
  obtain ⟨xc, hxc⟩ : ∃ x, regIs p c bc = x := ⟨_, rfl⟩
  obtain ⟨xm, hxm⟩ : ∃ x, (a == -1) = x := ⟨_, rfl⟩
  obtain ⟨xq, hxq⟩ : ∃ x, (d == e) = x := ⟨_, rfl⟩
  rw [hxd, hxe, hxa, hxb, hxc, hxm, hxq] at k
  have HN := Lib.hid hn
  have XD := Lib.hid hxd
  have XE := Lib.hid hxe
  have XA := Lib.hid hxa
  have XB := Lib.hid hxb
  have XC := Lib.hid hxc
  have HK := Lib.hid k
  have B0 := Lib.hid (Below.refl w.heap.size w)
  clear hn hd he ha hb hc KP KO hxd hxe hxa hxb hxc k
  have R := fun (r : Int) (h : Bool) (w : World) => Rfield_any p (.slice Ab nb cb) (.slice Ao no co) r h w
  rw [HN.out] at R
  have HR := Lib.hid R
  clear R
  conv => arg 2; whnf

  have cp0 : w.cell? ⟨bp, 0, none⟩ = some (.int .i64 n) := (B0.out.cell (p := ⟨bp, 0, none⟩) LP.out).trans CP.out.1
  have cp1 : w.cell? ⟨bp, 1, none⟩ = some (.slice Ab nb cb) := (B0.out.cell (p := ⟨bp, 1, none⟩) LP.out).trans CP.out.2.1
  have cp2 : w.cell? ⟨bp, 2, none⟩ = some (.slice Ao no co) := (B0.out.cell (p := ⟨bp, 2, none⟩) LP.out).trans CP.out.2.2
  have c1 : w.cell? ⟨bo, 1, none⟩ = some (.int .i64 d) := (B0.out.cell (p := ⟨bo, 1, none⟩) LO.out).trans CO.out.1
  have c2 : w.cell? ⟨bo, 2, none⟩ = some (.int .i64 e) := (B0.out.cell (p := ⟨bo, 2, none⟩) LO.out).trans CO.out.2.1
  have c3 : w.cell? ⟨bo, 3, none⟩ = some (.int .i64 a) := (B0.out.cell (p := ⟨bo, 3, none⟩) LO.out).trans CO.out.2.2.1
  have c4 : w.cell? ⟨bo, 4, none⟩ = some (.int .i64 b) := (B0.out.cell (p := ⟨bo, 4, none⟩) LO.out).trans CO.out.2.2.2.1
  have c5 : w.cell? ⟨bo, 5, none⟩ = some (.int .i64 c) := (B0.out.cell (p := ⟨bo, 5, none⟩) LO.out).trans CO.out.2.2.2.2
  go_wp2_with fail
  refine (HR.out d bd _).mono ?_
  rintro e_ w1 ⟨rfl, hb1⟩
  rw [XD.out]
  clear cp0 cp1 cp2 c1 c2 c3 c4 c5
  have B1 := Lib.hid (B0.out.trans (hb1.mono B0.out.size))
  clear hb1
  cases xd
  · go_wp2_with fail
    exact HK.out _ _ _ _ _ _ _ _ _ _ _ _ _ _ _ _ _ _ _ _ _ _ _ _ _ _ _ _ _ _ _ _ _ _ _ _ _ _ _ _ _ _ _ _ _ _ _ _ _ _ _ _ _ _ _ _ _ B1.out
  have cp0 : w1.cell? ⟨bp, 0, none⟩ = some (.int .i64 n) := (B1.out.cell (p := ⟨bp, 0, none⟩) LP.out).trans CP.out.1
  have cp1 : w1.cell? ⟨bp, 1, none⟩ = some (.slice Ab nb cb) := (B1.out.cell (p := ⟨bp, 1, none⟩) LP.out).trans CP.out.2.1
  have cp2 : w1.cell? ⟨bp, 2, none⟩ = some (.slice Ao no co) := (B1.out.cell (p := ⟨bp, 2, none⟩) LP.out).trans CP.out.2.2
  have c1 : w1.cell? ⟨bo, 1, none⟩ = some (.int .i64 d) := (B1.out.cell (p := ⟨bo, 1, none⟩) LO.out).trans CO.out.1
  have c2 : w1.cell? ⟨bo, 2, none⟩ = some (.int .i64 e) := (B1.out.cell (p := ⟨bo, 2, none⟩) LO.out).trans CO.out.2.1
  have c3 : w1.cell? ⟨bo, 3, none⟩ = some (.int .i64 a) := (B1.out.cell (p := ⟨bo, 3, none⟩) LO.out).trans CO.out.2.2.1
  have c4 : w1.cell? ⟨bo, 4, none⟩ = some (.int .i64 b) := (B1.out.cell (p := ⟨bo, 4, none⟩) LO.out).trans CO.out.2.2.2.1
  have c5 : w1.cell? ⟨bo, 5, none⟩ = some (.int .i64 c) := (B1.out.cell (p := ⟨bo, 5, none⟩) LO.out).trans CO.out.2.2.2.2
  go_wp2_with fail
  refine (HR.out e be _).mono ?_
  rintro e_ w2 ⟨rfl, hb1⟩
  rw [XE.out]
  clear cp0 cp1 cp2 c1 c2 c3 c4 c5
  have B2 := Lib.hid (B1.out.trans (hb1.mono B1.out.size))
  clear hb1
  cases xe
  · go_wp2_with fail
    exact HK.out _ _ _ _ _ _ _ _ _ _ _ _ _ _ _ _ _ _ _ _ _ _ _ _ _ _ _ _ _ _ _ _ _ _ _ _ _ _ _ _ _ _ _ _ _ _ _ _ _ _ _ _ _ _ _ _ _ B2.out
  have cp0 : w2.cell? ⟨bp, 0, none⟩ = some (.int .i64 n) := (B2.out.cell (p := ⟨bp, 0, none⟩) LP.out).trans CP.out.1
  have cp1 : w2.cell? ⟨bp, 1, none⟩ = some (.slice Ab nb cb) := (B2.out.cell (p := ⟨bp, 1, none⟩) LP.out).trans CP.out.2.1
  have cp2 : w2.cell? ⟨bp, 2, none⟩ = some (.slice Ao no co) := (B2.out.cell (p := ⟨bp, 2, none⟩) LP.out).trans CP.out.2.2
  have c1 : w2.cell? ⟨bo, 1, none⟩ = some (.int .i64 d) := (B2.out.cell (p := ⟨bo, 1, none⟩) LO.out).trans CO.out.1
  have c2 : w2.cell? ⟨bo, 2, none⟩ = some (.int .i64 e) := (B2.out.cell (p := ⟨bo, 2, none⟩) LO.out).trans CO.out.2.1
  have c3 : w2.cell? ⟨bo, 3, none⟩ = some (.int .i64 a) := (B2.out.cell (p := ⟨bo, 3, none⟩) LO.out).trans CO.out.2.2.1
  have c4 : w2.cell? ⟨bo, 4, none⟩ = some (.int .i64 b) := (B2.out.cell (p := ⟨bo, 4, none⟩) LO.out).trans CO.out.2.2.2.1
  have c5 : w2.cell? ⟨bo, 5, none⟩ = some (.int .i64 c) := (B2.out.cell (p := ⟨bo, 5, none⟩) LO.out).trans CO.out.2.2.2.2
  go_wp2_with fail
  refine (HR.out a ba _).mono ?_
  rintro e_ w3 ⟨rfl, hb1⟩
  rw [XA.out]
  clear cp0 cp1 cp2 c1 c2 c3 c4 c5
  have B3 := Lib.hid (B2.out.trans (hb1.mono B2.out.size))
  clear hb1
  cases xa
  · cases bm
    · go_wp2_with fail
      exact HK.out _ _ _ _ _ _ _ _ _ _ _ _ _ _ _ _ _ _ _ _ _ _ _ _ _ _ _ _ _ _ _ _ _ _ _ _ _ _ _ _ _ _ _ _ _ _ _ _ _ _ _ _ _ _ _ _ _ B3.out
    · cases xm
      · have cp0 : w3.cell? ⟨bp, 0, none⟩ = some (.int .i64 n) := (B3.out.cell (p := ⟨bp, 0, none⟩) LP.out).trans CP.out.1
        have cp1 : w3.cell? ⟨bp, 1, none⟩ = some (.slice Ab nb cb) := (B3.out.cell (p := ⟨bp, 1, none⟩) LP.out).trans CP.out.2.1
        have cp2 : w3.cell? ⟨bp, 2, none⟩ = some (.slice Ao no co) := (B3.out.cell (p := ⟨bp, 2, none⟩) LP.out).trans CP.out.2.2
        have c1 : w3.cell? ⟨bo, 1, none⟩ = some (.int .i64 d) := (B3.out.cell (p := ⟨bo, 1, none⟩) LO.out).trans CO.out.1
        have c2 : w3.cell? ⟨bo, 2, none⟩ = some (.int .i64 e) := (B3.out.cell (p := ⟨bo, 2, none⟩) LO.out).trans CO.out.2.1
        have c3 : w3.cell? ⟨bo, 3, none⟩ = some (.int .i64 a) := (B3.out.cell (p := ⟨bo, 3, none⟩) LO.out).trans CO.out.2.2.1
        have c4 : w3.cell? ⟨bo, 4, none⟩ = some (.int .i64 b) := (B3.out.cell (p := ⟨bo, 4, none⟩) LO.out).trans CO.out.2.2.2.1
        have c5 : w3.cell? ⟨bo, 5, none⟩ = some (.int .i64 c) := (B3.out.cell (p := ⟨bo, 5, none⟩) LO.out).trans CO.out.2.2.2.2
        go_wp2_with fail
        exact HK.out _ _ _ _ _ _ _ _ _ _ _ _ _ _ _ _ _ _ _ _ _ _ _ _ _ _ _ _ _ _ _ _ _ _ _ _ _ _ _ _ _ _ _ _ _ _ _ _ _ _ _ _ _ _ _ _ _ B3.out
      · have cp0 : w3.cell? ⟨bp, 0, none⟩ = some (.int .i64 n) := (B3.out.cell (p := ⟨bp, 0, none⟩) LP.out).trans CP.out.1
        have cp1 : w3.cell? ⟨bp, 1, none⟩ = some (.slice Ab nb cb) := (B3.out.cell (p := ⟨bp, 1, none⟩) LP.out).trans CP.out.2.1
        have cp2 : w3.cell? ⟨bp, 2, none⟩ = some (.slice Ao no co) := (B3.out.cell (p := ⟨bp, 2, none⟩) LP.out).trans CP.out.2.2
        have c1 : w3.cell? ⟨bo, 1, none⟩ = some (.int .i64 d) := (B3.out.cell (p := ⟨bo, 1, none⟩) LO.out).trans CO.out.1
        have c2 : w3.cell? ⟨bo, 2, none⟩ = some (.int .i64 e) := (B3.out.cell (p := ⟨bo, 2, none⟩) LO.out).trans CO.out.2.1
        have c3 : w3.cell? ⟨bo, 3, none⟩ = some (.int .i64 a) := (B3.out.cell (p := ⟨bo, 3, none⟩) LO.out).trans CO.out.2.2.1
        have c4 : w3.cell? ⟨bo, 4, none⟩ = some (.int .i64 b) := (B3.out.cell (p := ⟨bo, 4, none⟩) LO.out).trans CO.out.2.2.2.1
        have c5 : w3.cell? ⟨bo, 5, none⟩ = some (.int .i64 c) := (B3.out.cell (p := ⟨bo, 5, none⟩) LO.out).trans CO.out.2.2.2.2
        go_wp2_with fail
        refine (HR.out b bb _).mono ?_
        rintro e_ w4 ⟨rfl, hb1⟩
        rw [XB.out]
        clear cp0 cp1 cp2 c1 c2 c3 c4 c5
        have B4 := Lib.hid (B3.out.trans (hb1.mono B3.out.size))
        clear hb1
        cases xb
        · go_wp2_with fail
          exact HK.out _ _ _ _ _ _ _ _ _ _ _ _ _ _ _ _ _ _ _ _ _ _ _ _ _ _ _ _ _ _ _ _ _ _ _ _ _ _ _ _ _ _ _ _ _ _ _ _ _ _ _ _ _ _ _ _ _ B4.out
        have cp0 : w4.cell? ⟨bp, 0, none⟩ = some (.int .i64 n) := (B4.out.cell (p := ⟨bp, 0, none⟩) LP.out).trans CP.out.1
        have cp1 : w4.cell? ⟨bp, 1, none⟩ = some (.slice Ab nb cb) := (B4.out.cell (p := ⟨bp, 1, none⟩) LP.out).trans CP.out.2.1
        have cp2 : w4.cell? ⟨bp, 2, none⟩ = some (.slice Ao no co) := (B4.out.cell (p := ⟨bp, 2, none⟩) LP.out).trans CP.out.2.2
        have c1 : w4.cell? ⟨bo, 1, none⟩ = some (.int .i64 d) := (B4.out.cell (p := ⟨bo, 1, none⟩) LO.out).trans CO.out.1
        have c2 : w4.cell? ⟨bo, 2, none⟩ = some (.int .i64 e) := (B4.out.cell (p := ⟨bo, 2, none⟩) LO.out).trans CO.out.2.1
        have c3 : w4.cell? ⟨bo, 3, none⟩ = some (.int .i64 a) := (B4.out.cell (p := ⟨bo, 3, none⟩) LO.out).trans CO.out.2.2.1
        have c4 : w4.cell? ⟨bo, 4, none⟩ = some (.int .i64 b) := (B4.out.cell (p := ⟨bo, 4, none⟩) LO.out).trans CO.out.2.2.2.1
        have c5 : w4.cell? ⟨bo, 5, none⟩ = some (.int .i64 c) := (B4.out.cell (p := ⟨bo, 5, none⟩) LO.out).trans CO.out.2.2.2.2
        go_wp2_with fail
        refine (HR.out c bc _).mono ?_
        rintro e_ w5 ⟨rfl, hb1⟩
        rw [XC.out]
        clear cp0 cp1 cp2 c1 c2 c3 c4 c5
        have B5 := Lib.hid (B4.out.trans (hb1.mono B4.out.size))
        clear hb1
        cases xc
        · go_wp2_with fail
          exact HK.out _ _ _ _ _ _ _ _ _ _ _ _ _ _ _ _ _ _ _ _ _ _ _ _ _ _ _ _ _ _ _ _ _ _ _ _ _ _ _ _ _ _ _ _ _ _ _ _ _ _ _ _ _ _ _ _ _ B5.out
        have cp0 : w5.cell? ⟨bp, 0, none⟩ = some (.int .i64 n) := (B5.out.cell (p := ⟨bp, 0, none⟩) LP.out).trans CP.out.1
        have cp1 : w5.cell? ⟨bp, 1, none⟩ = some (.slice Ab nb cb) := (B5.out.cell (p := ⟨bp, 1, none⟩) LP.out).trans CP.out.2.1
        have cp2 : w5.cell? ⟨bp, 2, none⟩ = some (.slice Ao no co) := (B5.out.cell (p := ⟨bp, 2, none⟩) LP.out).trans CP.out.2.2
        have c1 : w5.cell? ⟨bo, 1, none⟩ = some (.int .i64 d) := (B5.out.cell (p := ⟨bo, 1, none⟩) LO.out).trans CO.out.1
        have c2 : w5.cell? ⟨bo, 2, none⟩ = some (.int .i64 e) := (B5.out.cell (p := ⟨bo, 2, none⟩) LO.out).trans CO.out.2.1
        have c3 : w5.cell? ⟨bo, 3, none⟩ = some (.int .i64 a) := (B5.out.cell (p := ⟨bo, 3, none⟩) LO.out).trans CO.out.2.2.1
        have c4 : w5.cell? ⟨bo, 4, none⟩ = some (.int .i64 b) := (B5.out.cell (p := ⟨bo, 4, none⟩) LO.out).trans CO.out.2.2.2.1
        have c5 : w5.cell? ⟨bo, 5, none⟩ = some (.int .i64 c) := (B5.out.cell (p := ⟨bo, 5, none⟩) LO.out).trans CO.out.2.2.2.2
        cases be
        · go_wp2_with fail
          exact HK.out _ _ _ _ _ _ _ _ _ _ _ _ _ _ _ _ _ _ _ _ _ _ _ _ _ _ _ _ _ _ _ _ _ _ _ _ _ _ _ _ _ _ _ _ _ _ _ _ _ _ _ _ _ _ _ _ _ B5.out
        cases xq
        · go_wp2_with fail
          exact HK.out _ _ _ _ _ _ _ _ _ _ _ _ _ _ _ _ _ _ _ _ _ _ _ _ _ _ _ _ _ _ _ _ _ _ _ _ _ _ _ _ _ _ _ _ _ _ _ _ _ _ _ _ _ _ _ _ _ B5.out
        · go_wp2_with fail
          exact HK.out _ _ _ _ _ _ _ _ _ _ _ _ _ _ _ _ _ _ _ _ _ _ _ _ _ _ _ _ _ _ _ _ _ _ _ _ _ _ _ _ _ _ _ _ _ _ _ _ _ _ _ _ _ _ _ _ _ B5.out
  · have cp0 : w3.cell? ⟨bp, 0, none⟩ = some (.int .i64 n) := (B3.out.cell (p := ⟨bp, 0, none⟩) LP.out).trans CP.out.1
    have cp1 : w3.cell? ⟨bp, 1, none⟩ = some (.slice Ab nb cb) := (B3.out.cell (p := ⟨bp, 1, none⟩) LP.out).trans CP.out.2.1
    have cp2 : w3.cell? ⟨bp, 2, none⟩ = some (.slice Ao no co) := (B3.out.cell (p := ⟨bp, 2, none⟩) LP.out).trans CP.out.2.2
    have c1 : w3.cell? ⟨bo, 1, none⟩ = some (.int .i64 d) := (B3.out.cell (p := ⟨bo, 1, none⟩) LO.out).trans CO.out.1
    have c2 : w3.cell? ⟨bo, 2, none⟩ = some (.int .i64 e) := (B3.out.cell (p := ⟨bo, 2, none⟩) LO.out).trans CO.out.2.1
    have c3 : w3.cell? ⟨bo, 3, none⟩ = some (.int .i64 a) := (B3.out.cell (p := ⟨bo, 3, none⟩) LO.out).trans CO.out.2.2.1
    have c4 : w3.cell? ⟨bo, 4, none⟩ = some (.int .i64 b) := (B3.out.cell (p := ⟨bo, 4, none⟩) LO.out).trans CO.out.2.2.2.1
    have c5 : w3.cell? ⟨bo, 5, none⟩ = some (.int .i64 c) := (B3.out.cell (p := ⟨bo, 5, none⟩) LO.out).trans CO.out.2.2.2.2
    go_wp2_with fail
    refine (HR.out b bb _).mono ?_
    rintro e_ w4 ⟨rfl, hb1⟩
    rw [XB.out]
    clear cp0 cp1 cp2 c1 c2 c3 c4 c5
    have B4 := Lib.hid (B3.out.trans (hb1.mono B3.out.size))
    clear hb1
    cases xb
    · go_wp2_with fail
      exact HK.out _ _ _ _ _ _ _ _ _ _ _ _ _ _ _ _ _ _ _ _ _ _ _ _ _ _ _ _ _ _ _ _ _ _ _ _ _ _ _ _ _ _ _ _ _ _ _ _ _ _ _ _ _ _ _ _ _ B4.out
    have cp0 : w4.cell? ⟨bp, 0, none⟩ = some (.int .i64 n) := (B4.out.cell (p := ⟨bp, 0, none⟩) LP.out).trans CP.out.1
    have cp1 : w4.cell? ⟨bp, 1, none⟩ = some (.slice Ab nb cb) := (B4.out.cell (p := ⟨bp, 1, none⟩) LP.out).trans CP.out.2.1
    have cp2 : w4.cell? ⟨bp, 2, none⟩ = some (.slice Ao no co) := (B4.out.cell (p := ⟨bp, 2, none⟩) LP.out).trans CP.out.2.2
    have c1 : w4.cell? ⟨bo, 1, none⟩ = some (.int .i64 d) := (B4.out.cell (p := ⟨bo, 1, none⟩) LO.out).trans CO.out.1
    have c2 : w4.cell? ⟨bo, 2, none⟩ = some (.int .i64 e) := (B4.out.cell (p := ⟨bo, 2, none⟩) LO.out).trans CO.out.2.1
    have c3 : w4.cell? ⟨bo, 3, none⟩ = some (.int .i64 a) := (B4.out.cell (p := ⟨bo, 3, none⟩) LO.out).trans CO.out.2.2.1
    have c4 : w4.cell? ⟨bo, 4, none⟩ = some (.int .i64 b) := (B4.out.cell (p := ⟨bo, 4, none⟩) LO.out).trans CO.out.2.2.2.1
    have c5 : w4.cell? ⟨bo, 5, none⟩ = some (.int .i64 c) := (B4.out.cell (p := ⟨bo, 5, none⟩) LO.out).trans CO.out.2.2.2.2
    go_wp2_with fail
    refine (HR.out c bc _).mono ?_
    rintro e_ w5 ⟨rfl, hb1⟩
    rw [XC.out]
    clear cp0 cp1 cp2 c1 c2 c3 c4 c5
    have B5 := Lib.hid (B4.out.trans (hb1.mono B4.out.size))
    clear hb1
    cases xc
    · go_wp2_with fail
      exact HK.out _ _ _ _ _ _ _ _ _ _ _ _ _ _ _ _ _ _ _ _ _ _ _ _ _ _ _ _ _ _ _ _ _ _ _ _ _ _ _ _ _ _ _ _ _ _ _ _ _ _ _ _ _ _ _ _ _ B5.out
    have cp0 : w5.cell? ⟨bp, 0, none⟩ = some (.int .i64 n) := (B5.out.cell (p := ⟨bp, 0, none⟩) LP.out).trans CP.out.1
    have cp1 : w5.cell? ⟨bp, 1, none⟩ = some (.slice Ab nb cb) := (B5.out.cell (p := ⟨bp, 1, none⟩) LP.out).trans CP.out.2.1
    have cp2 : w5.cell? ⟨bp, 2, none⟩ = some (.slice Ao no co) := (B5.out.cell (p := ⟨bp, 2, none⟩) LP.out).trans CP.out.2.2
    have c1 : w5.cell? ⟨bo, 1, none⟩ = some (.int .i64 d) := (B5.out.cell (p := ⟨bo, 1, none⟩) LO.out).trans CO.out.1
    have c2 : w5.cell? ⟨bo, 2, none⟩ = some (.int .i64 e) := (B5.out.cell (p := ⟨bo, 2, none⟩) LO.out).trans CO.out.2.1
    have c3 : w5.cell? ⟨bo, 3, none⟩ = some (.int .i64 a) := (B5.out.cell (p := ⟨bo, 3, none⟩) LO.out).trans CO.out.2.2.1
    have c4 : w5.cell? ⟨bo, 4, none⟩ = some (.int .i64 b) := (B5.out.cell (p := ⟨bo, 4, none⟩) LO.out).trans CO.out.2.2.2.1
    have c5 : w5.cell? ⟨bo, 5, none⟩ = some (.int .i64 c) := (B5.out.cell (p := ⟨bo, 5, none⟩) LO.out).trans CO.out.2.2.2.2
    cases be
    · go_wp2_with fail
      exact HK.out _ _ _ _ _ _ _ _ _ _ _ _ _ _ _ _ _ _ _ _ _ _ _ _ _ _ _ _ _ _ _ _ _ _ _ _ _ _ _ _ _ _ _ _ _ _ _ _ _ _ _ _ _ _ _ _ _ B5.out
    cases xq
    · go_wp2_with fail
      exact HK.out _ _ _ _ _ _ _ _ _ _ _ _ _ _ _ _ _ _ _ _ _ _ _ _ _ _ _ _ _ _ _ _ _ _ _ _ _ _ _ _ _ _ _ _ _ _ _ _ _ _ _ _ _ _ _ _ _ B5.out
    · go_wp2_with fail
      exact HK.out _ _ _ _ _ _ _ _ _ _ _ _ _ _ _ _ _ _ _ _ _ _ _ _ _ _ _ _ _ _ _ _ _ _ _ _ _ _ _ _ _ _ _ _ _ _ _ _ _ _ _ _ _ _ _ _ _ B5.out
end Go.Proofs.YtppoiahhaclleaaDoor
