/- limb.fields: its regions, one by one. -/
import Derived.Test.YtppoiahhaclleaaDoorRLimbC
import Derived.LoopTactic
namespace Go.Proofs.YtppoiahhaclleaaDoor
open Go.RowKit

def noneB (z r : Int) : Bool := z == 0 || (z == 64 && r == -1)
def failB (b : Bool) (r n : Int) : Bool := (b && r != -1) || (!b && (decide (r < 0) || decide (n ≤ r)))

set_option maxRecDepth 100000 in
set_option maxHeartbeats 4000000 in
theorem fields_r7 {h what z r : Int} {g : Nat} (w : World) (Q : Exit → Act → World → Prop) {u0 u1 u2 u3 u4 u6 u7 u9 u10 u11 u12 u13 u14 u15 u16 u17 u18 u19 u20 u21 u22 u23 u24 u25 u26 u27 u28 u29 u30 u31 u32 u33 u34 u35 u36 u37 u38 u39 u40 u41 u42 u43 u44 u45 u46 u47 u48 u49 u50 u51 u52 u53 u54 u55 u56 u57 u58 u59 u60 u61 u62 u63 u64 u65 u66 u67 u68 u69 u70 u71 u72 u73 u74 u75 u76 u77 u78 u79 u80 u81 u82 u83 u84 u85 u86 u87 u88 u89 u90 u91 u92 u93 u94 u95 u96 u97 u98 u99 u100 u101 u102 u103 u104 u105 u106 u107 u108 u109 u110 u111 u112 u113 u114 u115 u116 u117 u118 u119 u120 u121 u122 u123 u124 u125 u126 u127 u128 u129 u130 : Value} (c0 : w.cell? ⟨g, 0, none⟩ = some (.int .i64 what)) (c1 : w.cell? ⟨g, 1, none⟩ = some (.int .i64 r)) (hz : bits .and .i64 h what = z)
    (k : ∀ (v37 v38 v39 v40 v41 v42 v43 v44 v45 v46 v47 v48 v49 v50 v51 v52 v53 : Value), Q .normal ⟨#[u0, u1, u2, u3, u4, .int .i64 h, u6, u7, .pointer (some ⟨g, 0, none⟩), .bool (noneB z r), u10, u11, u12, u13, u14, u15, u16, u17, u18, u19, u20, u21, u22, u23, u24, u25, u26, u27, u28, u29, u30, u31, u32, u33, u34, u35, u36, v37, v38, v39, v40, v41, v42, v43, v44, v45, v46, v47, v48, v49, v50, v51, v52, v53, u54, u55, u56, u57, u58, u59, u60, u61, u62, u63, u64, u65, u66, u67, u68, u69, u70, u71, u72, u73, u74, u75, u76, u77, u78, u79, u80, u81, u82, u83, u84, u85, u86, u87, u88, u89, u90, u91, u92, u93, u94, u95, u96, u97, u98, u99, u100, u101, u102, u103, u104, u105, u106, u107, u108, u109, u110, u111, u112, u113, u114, u115, u116, u117, u118, u119, u120, u121, u122, u123, u124, u125, u126, u127, u128, u129, u130], []⟩ w) : (partR Tryd.f66 7).wp Tryd.prog Q ⟨#[u0, u1, u2, u3, u4, .int .i64 h, u6, u7, .pointer (some ⟨g, 0, none⟩), u9, u10, u11, u12, u13, u14, u15, u16, u17, u18, u19, u20, u21, u22, u23, u24, u25, u26, u27, u28, u29, u30, u31, u32, u33, u34, u35, u36, u37, u38, u39, u40, u41, u42, u43, u44, u45, u46, u47, u48, u49, u50, u51, u52, u53, u54, u55, u56, u57, u58, u59, u60, u61, u62, u63, u64, u65, u66, u67, u68, u69, u70, u71, u72, u73, u74, u75, u76, u77, u78, u79, u80, u81, u82, u83, u84, u85, u86, u87, u88, u89, u90, u91, u92, u93, u94, u95, u96, u97, u98, u99, u100, u101, u102, u103, u104, u105, u106, u107, u108, u109, u110, u111, u112, u113, u114, u115, u116, u117, u118, u119, u120, u121, u122, u123, u124, u125, u126, u127, u128, u129, u130], []⟩ w := by
  have HK := Lib.hid k
  clear k
  conv => arg 2; whnf
  cases d0 : (z == 0)
  · cases d1 : (z == 64)
    · have hv : noneB z r = false := by unfold noneB; rw [d0, d1]; rfl
      have HQ := HK.out
      rw [hv] at HQ
      have HQ := Lib.hid HQ
      clear hv
      go_wp2
      exact HQ.out _ _ _ _ _ _ _ _ _ _ _ _ _ _ _ _ _
    · cases d2 : (r == -1)
      · have hv : noneB z r = false := by unfold noneB; rw [d0, d1, d2]; rfl
        have HQ := HK.out
        rw [hv] at HQ
        have HQ := Lib.hid HQ
        clear hv
        go_wp2
        exact HQ.out _ _ _ _ _ _ _ _ _ _ _ _ _ _ _ _ _
      · have hv : noneB z r = true := by unfold noneB; rw [d0, d1, d2]; rfl
        have HQ := HK.out
        rw [hv] at HQ
        have HQ := Lib.hid HQ
        clear hv
        go_wp2
        exact HQ.out _ _ _ _ _ _ _ _ _ _ _ _ _ _ _ _ _
  · have hv : noneB z r = true := by unfold noneB; rw [d0]; rfl
    have HQ := HK.out
    rw [hv] at HQ
    have HQ := Lib.hid HQ
    clear hv
    go_wp2
    exact HQ.out _ _ _ _ _ _ _ _ _ _ _ _ _ _ _ _ _

set_option maxRecDepth 100000 in
set_option maxHeartbeats 4000000 in
theorem fields_r8 {b : Bool} {r n : Int} {bp g : Nat} (w : World) (Q : Exit → Act → World → Prop) {u0 u1 u3 u4 u5 u6 u7 u10 u11 u12 u13 u14 u15 u16 u17 u18 u19 u20 u21 u22 u23 u24 u25 u26 u27 u28 u29 u30 u31 u32 u33 u34 u35 u36 u37 u38 u39 u40 u41 u42 u43 u44 u45 u46 u47 u48 u49 u50 u51 u52 u53 u54 u55 u56 u57 u58 u59 u60 u61 u62 u63 u64 u65 u66 u67 u68 u69 u70 u71 u72 u73 u74 u75 u76 u77 u78 u79 u80 u81 u82 u83 u84 u85 u86 u87 u88 u89 u90 u91 u92 u93 u94 u95 u96 u97 u98 u99 u100 u101 u102 u103 u104 u105 u106 u107 u108 u109 u110 u111 u112 u113 u114 u115 u116 u117 u118 u119 u120 u121 u122 u123 u124 u125 u126 u127 u128 u129 u130 : Value} (c0 : w.cell? ⟨bp, 0, none⟩ = some (.int .i64 n)) (c1 : w.cell? ⟨g, 1, none⟩ = some (.int .i64 r))
    (k : ∀ (v54 v55 v56 v57 v58 v59 v60 v61 v62 v63 v64 v65 v66 v67 v68 v69 v70 v71 v72 v73 v74 : Value), Q .normal ⟨#[u0, u1, .pointer (some ⟨bp, 0, none⟩), u3, u4, u5, u6, u7, .pointer (some ⟨g, 0, none⟩), .bool b, u10, u11, u12, u13, u14, u15, u16, u17, u18, u19, u20, u21, u22, u23, u24, u25, u26, u27, u28, u29, u30, u31, u32, u33, u34, u35, u36, u37, u38, u39, u40, u41, u42, u43, u44, u45, u46, u47, u48, u49, u50, u51, u52, u53, v54, v55, v56, v57, v58, v59, v60, v61, v62, v63, v64, v65, v66, v67, v68, v69, v70, v71, v72, v73, v74, .bool (failB b r n), u76, u77, u78, u79, u80, u81, u82, u83, u84, u85, u86, u87, u88, u89, u90, u91, u92, u93, u94, u95, u96, u97, u98, u99, u100, u101, u102, u103, u104, u105, u106, u107, u108, u109, u110, u111, u112, u113, u114, u115, u116, u117, u118, u119, u120, u121, u122, u123, u124, u125, u126, u127, u128, u129, u130], []⟩ w) : (partR Tryd.f66 8).wp Tryd.prog Q ⟨#[u0, u1, .pointer (some ⟨bp, 0, none⟩), u3, u4, u5, u6, u7, .pointer (some ⟨g, 0, none⟩), .bool b, u10, u11, u12, u13, u14, u15, u16, u17, u18, u19, u20, u21, u22, u23, u24, u25, u26, u27, u28, u29, u30, u31, u32, u33, u34, u35, u36, u37, u38, u39, u40, u41, u42, u43, u44, u45, u46, u47, u48, u49, u50, u51, u52, u53, u54, u55, u56, u57, u58, u59, u60, u61, u62, u63, u64, u65, u66, u67, u68, u69, u70, u71, u72, u73, u74, u75, u76, u77, u78, u79, u80, u81, u82, u83, u84, u85, u86, u87, u88, u89, u90, u91, u92, u93, u94, u95, u96, u97, u98, u99, u100, u101, u102, u103, u104, u105, u106, u107, u108, u109, u110, u111, u112, u113, u114, u115, u116, u117, u118, u119, u120, u121, u122, u123, u124, u125, u126, u127, u128, u129, u130], []⟩ w := by
  cases b
  · have HK := Lib.hid k
    clear k
    conv => arg 2; whnf
    cases d1 : decide (r < 0)
    · cases d2 : decide (n ≤ r)
      · have hv : failB false r n = false := by unfold failB; rw [d1, d2]; rfl
        have HQ := HK.out
        rw [hv] at HQ
        have HQ := Lib.hid HQ
        clear hv
        go_wp2
        exact HQ.out _ _ _ _ _ _ _ _ _ _ _ _ _ _ _ _ _ _ _ _ _
      · have hv : failB false r n = true := by unfold failB; rw [d1, d2]; rfl
        have HQ := HK.out
        rw [hv] at HQ
        have HQ := Lib.hid HQ
        clear hv
        go_wp2
        exact HQ.out _ _ _ _ _ _ _ _ _ _ _ _ _ _ _ _ _ _ _ _ _
    · have hv : failB false r n = true := by unfold failB; rw [d1]; rfl
      have HQ := HK.out
      rw [hv] at HQ
      have HQ := Lib.hid HQ
      clear hv
      go_wp2
      exact HQ.out _ _ _ _ _ _ _ _ _ _ _ _ _ _ _ _ _ _ _ _ _
  · have HK := Lib.hid k
    clear k
    conv => arg 2; whnf
    cases d1 : (r != -1)
    · have hv : failB true r n = false := by unfold failB; rw [d1]; rfl
      have HQ := HK.out
      rw [hv] at HQ
      have HQ := Lib.hid HQ
      clear hv
      go_wp2
      exact HQ.out _ _ _ _ _ _ _ _ _ _ _ _ _ _ _ _ _ _ _ _ _
    · have hv : failB true r n = true := by unfold failB; rw [d1]; rfl
      have HQ := HK.out
      rw [hv] at HQ
      have HQ := Lib.hid HQ
      clear hv
      go_wp2
      exact HQ.out _ _ _ _ _ _ _ _ _ _ _ _ _ _ _ _ _ _ _ _ _

def fail11 (z2 z32 d e bu : Int) : Bool := (z2 != 0 && d == e) || (z32 == 0 && bu != 0)
set_option maxRecDepth 100000 in
set_option maxHeartbeats 4000000 in
theorem fields_r11 {h z2 z32 d e bu : Int} {bo : Nat} (w : World) (Q : Exit → Act → World → Prop) {u0 u1 u2 u4 u6 u7 u8 u9 u10 u11 u12 u13 u14 u15 u16 u17 u18 u19 u20 u21 u22 u23 u24 u25 u26 u27 u28 u29 u30 u31 u32 u33 u34 u35 u36 u37 u38 u39 u40 u41 u42 u43 u44 u45 u46 u47 u48 u49 u50 u51 u52 u53 u54 u55 u56 u57 u58 u59 u60 u61 u62 u63 u64 u65 u66 u67 u68 u69 u70 u71 u72 u73 u74 u75 u76 u77 u78 u79 u80 u81 u82 u83 u84 u85 u86 u87 u88 u89 u90 u91 u92 u93 u94 u95 u96 u97 u98 u99 u100 u101 u102 u103 u104 u105 u106 u107 u108 u109 u110 u111 u112 u113 u114 u115 u116 u117 u118 u119 u120 u121 u122 u123 u124 u125 u126 u127 u128 u129 u130 : Value} (c1 : w.cell? ⟨bo, 1, none⟩ = some (.int .i64 d)) (c2 : w.cell? ⟨bo, 2, none⟩ = some (.int .i64 e)) (c6 : w.cell? ⟨bo, 6, none⟩ = some (.int .i64 bu)) (hz2 : bits .and .i64 h 2 = z2) (hz32 : bits .and .i64 h 32 = z32)
    (k : ∀ (v77 v78 v79 v80 v81 v82 v83 v84 v85 v86 v87 v88 v89 v90 v91 v92 v93 v94 v95 : Value), Q .normal ⟨#[u0, u1, u2, .pointer (some ⟨bo, 0, none⟩), u4, .int .i64 h, u6, u7, u8, u9, u10, u11, u12, u13, u14, u15, u16, u17, u18, u19, u20, u21, u22, u23, u24, u25, u26, u27, u28, u29, u30, u31, u32, u33, u34, u35, u36, u37, u38, u39, u40, u41, u42, u43, u44, u45, u46, u47, u48, u49, u50, u51, u52, u53, u54, u55, u56, u57, u58, u59, u60, u61, u62, u63, u64, u65, u66, u67, u68, u69, u70, u71, u72, u73, u74, u75, u76, v77, v78, v79, v80, v81, v82, v83, v84, v85, v86, v87, v88, v89, v90, v91, v92, v93, v94, v95, .bool (fail11 z2 z32 d e bu), u97, u98, u99, u100, u101, u102, u103, u104, u105, u106, u107, u108, u109, u110, u111, u112, u113, u114, u115, u116, u117, u118, u119, u120, u121, u122, u123, u124, u125, u126, u127, u128, u129, u130], []⟩ w) : (partR Tryd.f66 11).wp Tryd.prog Q ⟨#[u0, u1, u2, .pointer (some ⟨bo, 0, none⟩), u4, .int .i64 h, u6, u7, u8, u9, u10, u11, u12, u13, u14, u15, u16, u17, u18, u19, u20, u21, u22, u23, u24, u25, u26, u27, u28, u29, u30, u31, u32, u33, u34, u35, u36, u37, u38, u39, u40, u41, u42, u43, u44, u45, u46, u47, u48, u49, u50, u51, u52, u53, u54, u55, u56, u57, u58, u59, u60, u61, u62, u63, u64, u65, u66, u67, u68, u69, u70, u71, u72, u73, u74, u75, u76, u77, u78, u79, u80, u81, u82, u83, u84, u85, u86, u87, u88, u89, u90, u91, u92, u93, u94, u95, u96, u97, u98, u99, u100, u101, u102, u103, u104, u105, u106, u107, u108, u109, u110, u111, u112, u113, u114, u115, u116, u117, u118, u119, u120, u121, u122, u123, u124, u125, u126, u127, u128, u129, u130], []⟩ w := by
  have HK := Lib.hid k
  clear k
  conv => arg 2; whnf
  cases d0 : (z2 != 0)
  · cases d2 : (z32 == 0)
    · have hv : fail11 z2 z32 d e bu = false := by unfold fail11; rw [d0, d2]; rfl
      have HQ := HK.out
      rw [hv] at HQ
      have HQ := Lib.hid HQ
      clear hv
      go_wp2
      exact HQ.out _ _ _ _ _ _ _ _ _ _ _ _ _ _ _ _ _ _ _
    · cases d3 : (bu != 0)
      · have hv : fail11 z2 z32 d e bu = false := by unfold fail11; rw [d0, d2, d3]; rfl
        have HQ := HK.out
        rw [hv] at HQ
        have HQ := Lib.hid HQ
        clear hv
        go_wp2
        exact HQ.out _ _ _ _ _ _ _ _ _ _ _ _ _ _ _ _ _ _ _
      · have hv : fail11 z2 z32 d e bu = true := by unfold fail11; rw [d0, d2, d3]; rfl
        have HQ := HK.out
        rw [hv] at HQ
        have HQ := Lib.hid HQ
        clear hv
        go_wp2
        exact HQ.out _ _ _ _ _ _ _ _ _ _ _ _ _ _ _ _ _ _ _
  · cases d1 : (d == e)
    · cases d2 : (z32 == 0)
      · have hv : fail11 z2 z32 d e bu = false := by unfold fail11; rw [d0, d1, d2]; rfl
        have HQ := HK.out
        rw [hv] at HQ
        have HQ := Lib.hid HQ
        clear hv
        go_wp2
        exact HQ.out _ _ _ _ _ _ _ _ _ _ _ _ _ _ _ _ _ _ _
      · cases d3 : (bu != 0)
        · have hv : fail11 z2 z32 d e bu = false := by unfold fail11; rw [d0, d1, d2, d3]; rfl
          have HQ := HK.out
          rw [hv] at HQ
          have HQ := Lib.hid HQ
          clear hv
          go_wp2
          exact HQ.out _ _ _ _ _ _ _ _ _ _ _ _ _ _ _ _ _ _ _
        · have hv : fail11 z2 z32 d e bu = true := by unfold fail11; rw [d0, d1, d2, d3]; rfl
          have HQ := HK.out
          rw [hv] at HQ
          have HQ := Lib.hid HQ
          clear hv
          go_wp2
          exact HQ.out _ _ _ _ _ _ _ _ _ _ _ _ _ _ _ _ _ _ _
    · have hv : fail11 z2 z32 d e bu = true := by unfold fail11; rw [d0, d1]; rfl
      have HQ := HK.out
      rw [hv] at HQ
      have HQ := Lib.hid HQ
      clear hv
      go_wp2
      exact HQ.out _ _ _ _ _ _ _ _ _ _ _ _ _ _ _ _ _ _ _

def fail13 (z32 bu k : Int) (n : Nat) (x : Bool) : Bool := z32 != 0 && ((decide (bu < 0) || decide ((n : Int) ≤ bu)) || (k == 15 && x))
set_option maxRecDepth 100000 in
set_option maxHeartbeats 4000000 in
theorem fields_r13 {h z32 bu kk : Int} {bo bp nb cb : Nat} {x : Bool} {Ab : Option Addr} (w : World) (Q : Exit → Act → World → Prop) {u0 u1 u4 u6 u7 u8 u9 u10 u11 u12 u13 u14 u15 u16 u17 u18 u19 u20 u21 u22 u23 u24 u25 u26 u27 u28 u29 u30 u31 u32 u33 u34 u35 u36 u37 u38 u39 u40 u41 u42 u43 u44 u45 u46 u47 u48 u49 u50 u51 u52 u53 u54 u55 u56 u57 u58 u59 u60 u61 u62 u63 u64 u65 u66 u67 u68 u69 u70 u71 u72 u73 u74 u75 u76 u77 u78 u79 u80 u81 u82 u83 u84 u85 u86 u87 u88 u89 u90 u91 u92 u93 u94 u95 u96 u97 u98 u99 u100 u101 u102 u103 u104 u105 u106 u107 u108 u109 u110 u111 u112 u113 u114 u115 u116 u117 u118 u119 u120 u121 u122 u123 u124 u125 u126 u127 u128 u129 u130 : Value} (c0 : w.cell? ⟨bo, 0, none⟩ = some (.int .i64 kk)) (c6 : w.cell? ⟨bo, 6, none⟩ = some (.int .i64 bu)) (p1 : w.cell? ⟨bp, 1, none⟩ = some (.slice Ab nb cb)) (hz32 : bits .and .i64 h 32 = z32) (hx : 0 ≤ bu → bu < (nb : Int) → ∃ (b off q : Nat) (kb : Int), Ab = some ⟨b, off, none⟩ ∧ bu = (q : Int) ∧ w.cell? ⟨b, off + q * 3 + 1, none⟩ = some (.int .i64 kb) ∧ (kb == 1) = x)
    (k : ∀ (v97 v98 v99 v100 v101 v102 v103 v104 v105 v106 v107 v108 v109 v110 v111 v112 v113 v114 v115 v116 v117 v118 v119 v120 v121 v122 v123 v124 v125 v126 : Value), Q .normal ⟨#[u0, u1, .pointer (some ⟨bp, 0, none⟩), .pointer (some ⟨bo, 0, none⟩), u4, .int .i64 h, u6, u7, u8, u9, u10, u11, u12, u13, u14, u15, u16, u17, u18, u19, u20, u21, u22, u23, u24, u25, u26, u27, u28, u29, u30, u31, u32, u33, u34, u35, u36, u37, u38, u39, u40, u41, u42, u43, u44, u45, u46, u47, u48, u49, u50, u51, u52, u53, u54, u55, u56, u57, u58, u59, u60, u61, u62, u63, u64, u65, u66, u67, u68, u69, u70, u71, u72, u73, u74, u75, u76, u77, u78, u79, u80, u81, u82, u83, u84, u85, u86, u87, u88, u89, u90, u91, u92, u93, u94, u95, u96, v97, v98, v99, v100, v101, v102, v103, v104, v105, v106, v107, v108, v109, v110, v111, v112, v113, v114, v115, v116, v117, v118, v119, v120, v121, v122, v123, v124, v125, v126, .bool (fail13 z32 bu kk nb x), u128, u129, u130], []⟩ w) : (partR Tryd.f66 13).wp Tryd.prog Q ⟨#[u0, u1, .pointer (some ⟨bp, 0, none⟩), .pointer (some ⟨bo, 0, none⟩), u4, .int .i64 h, u6, u7, u8, u9, u10, u11, u12, u13, u14, u15, u16, u17, u18, u19, u20, u21, u22, u23, u24, u25, u26, u27, u28, u29, u30, u31, u32, u33, u34, u35, u36, u37, u38, u39, u40, u41, u42, u43, u44, u45, u46, u47, u48, u49, u50, u51, u52, u53, u54, u55, u56, u57, u58, u59, u60, u61, u62, u63, u64, u65, u66, u67, u68, u69, u70, u71, u72, u73, u74, u75, u76, u77, u78, u79, u80, u81, u82, u83, u84, u85, u86, u87, u88, u89, u90, u91, u92, u93, u94, u95, u96, u97, u98, u99, u100, u101, u102, u103, u104, u105, u106, u107, u108, u109, u110, u111, u112, u113, u114, u115, u116, u117, u118, u119, u120, u121, u122, u123, u124, u125, u126, u127, u128, u129, u130], []⟩ w := by
  have HK := Lib.hid k
  clear k
  have HX := Lib.hid hx
  clear hx
  conv => arg 2; whnf
  cases d0 : (z32 != 0)
  · have hv : fail13 z32 bu kk nb x = false := by unfold fail13; rw [d0]; rfl
    have HQ := HK.out
    rw [hv] at HQ
    have HQ := Lib.hid HQ
    clear hv HX
    go_wp2
    exact HQ.out _ _ _ _ _ _ _ _ _ _ _ _ _ _ _ _ _ _ _ _ _ _ _ _ _ _ _ _ _ _
  cases d1 : decide (bu < 0)
  · cases d2 : decide ((nb : Int) ≤ bu)
    · obtain ⟨b, off, q, kb, rfl, rfl, y1, y2⟩ := HX.out (by simpa using d1) (by simpa using d2)
      have q0 : (0 : Int) ≤ (q : Int) := by omega
      have q1 : (q : Int) < (nb : Int) := by simpa using d2
      have dn : decide (nb ≤ q) = false := by simpa using d2
      have HX2 := Lib.hid y2
      clear y2
      cases d3 : (kk == 15)
      · have hv : fail13 z32 (q : Int) kk nb x = false := by unfold fail13; rw [d0, d1, d2, d3]; rfl
        have HQ := HK.out
        rw [hv] at HQ
        have HQ := Lib.hid HQ
        clear hv HX
        go_wp2
        exact HQ.out _ _ _ _ _ _ _ _ _ _ _ _ _ _ _ _ _ _ _ _ _ _ _ _ _ _ _ _ _ _
      · cases d4 : (kb == 1)
        · have d5 : x = false := HX2.out.symm.trans d4
          subst d5
          have hv : fail13 z32 (q : Int) kk nb false = false := by unfold fail13; rw [d0, d1, d2, d3]; rfl
          have HQ := HK.out
          rw [hv] at HQ
          have HQ := Lib.hid HQ
          clear hv HX
          go_wp2
          exact HQ.out _ _ _ _ _ _ _ _ _ _ _ _ _ _ _ _ _ _ _ _ _ _ _ _ _ _ _ _ _ _
        · have d5 : x = true := HX2.out.symm.trans d4
          subst d5
          have hv : fail13 z32 (q : Int) kk nb true = true := by unfold fail13; rw [d0, d1, d2, d3]; rfl
          have HQ := HK.out
          rw [hv] at HQ
          have HQ := Lib.hid HQ
          clear hv HX
          go_wp2
          exact HQ.out _ _ _ _ _ _ _ _ _ _ _ _ _ _ _ _ _ _ _ _ _ _ _ _ _ _ _ _ _ _
    · have hv : fail13 z32 bu kk nb x = true := by unfold fail13; rw [d0, d1, d2]; rfl
      have HQ := HK.out
      rw [hv] at HQ
      have HQ := Lib.hid HQ
      clear hv HX
      go_wp2
      exact HQ.out _ _ _ _ _ _ _ _ _ _ _ _ _ _ _ _ _ _ _ _ _ _ _ _ _ _ _ _ _ _
  · have hv : fail13 z32 bu kk nb x = true := by unfold fail13; rw [d0, d1]; rfl
    have HQ := HK.out
    rw [hv] at HQ
    have HQ := Lib.hid HQ
    clear hv HX
    go_wp2
    exact HQ.out _ _ _ _ _ _ _ _ _ _ _ _ _ _ _ _ _ _ _ _ _ _ _ _ _ _ _ _ _ _

end Go.Proofs.YtppoiahhaclleaaDoor
