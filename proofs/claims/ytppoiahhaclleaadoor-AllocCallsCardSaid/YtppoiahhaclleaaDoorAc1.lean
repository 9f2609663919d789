/- Regions of the merge by halves. -/
import Derived.Test.YtppoiahhaclleaaDoorSortJ
namespace Go.Proofs.YtppoiahhaclleaaDoor
open Go.RowKit


set_option maxRecDepth 100000 in
set_option maxHeartbeats 4000000 in
theorem sw_r3 {g n c a b i : Nat} {l : List Int} {rest : List Value} (w : World) (Q : Exit → Act → World → Prop) {u3 u4 u5 u6 u7 u8 u9 u11 u12 u13 u14 u15 u16 u17 u18 u19 u20 u21 u22 u23 u24 u25 u26 u27 u28 u29 u30 u31 u32 u33 u34 u35 u36 u37 : Value} (hr : OrdAt w g l rest) (hl : l.length = n) (hn : n ≤ 1000) (hab : a < b) (hb : b + i < n)
    (k : ∀ (v16 v17 v18 v19 v20 v21 v22 v23 v24 v25 v26 v27 v28 v29 v30 v31 v32 v33 v34 v35 v36 v37 : Value) (w' : World), OrdAt w' g (swapL l (a + i) (b + i)) rest ∧ Chg (fun k => k = g) w w' → Q .normal ⟨#[.slice (some ⟨g, 0, none⟩) n c, .int .i64 (a : Nat), .int .i64 (b : Nat), u3, u4, u5, u6, u7, u8, u9, .int .i64 (i : Nat), u11, u12, u13, u14, u15, v16, v17, v18, v19, v20, v21, v22, v23, v24, v25, v26, v27, v28, v29, v30, v31, v32, v33, v34, v35, v36, v37], []⟩ w') : (partR Tryd.f98 3).wp Tryd.prog Q ⟨#[.slice (some ⟨g, 0, none⟩) n c, .int .i64 (a : Nat), .int .i64 (b : Nat), u3, u4, u5, u6, u7, u8, u9, .int .i64 (i : Nat), u11, u12, u13, u14, u15, u16, u17, u18, u19, u20, u21, u22, u23, u24, u25, u26, u27, u28, u29, u30, u31, u32, u33, u34, u35, u36, u37], []⟩ w := by
  have HI := Lib.hid hr
  have HL := Lib.hid hl
  have HK := Lib.hid k
  obtain ⟨x, hx⟩ : ∃ s, l[a + i]? = some s := ⟨_, List.getElem?_eq_getElem (by omega)⟩
  obtain ⟨y, hy⟩ : ∃ s, l[b + i]? = some s := ⟨_, List.getElem?_eq_getElem (by omega)⟩
  obtain ⟨iN, hiN⟩ : ∃ q, q = a + i := ⟨_, rfl⟩
  obtain ⟨jN, hjN⟩ : ∃ q, q = b + i := ⟨_, rfl⟩
  have ei : ((a : Int) + (i : Int)).toNat = iN := by omega
  have pi : (0 : Int) ≤ (a : Int) + (i : Int) := by omega
  have bi : (a : Int) + (i : Int) < (n : Int) := by omega
  have ri : IntKind.i64.wrap ((a : Int) + (i : Int)) = (a : Int) + (i : Int) := by rw [IntKind.wrap_i64]; omega
  have ej : ((b : Int) + (i : Int)).toNat = jN := by omega
  have pj : (0 : Int) ≤ (b : Int) + (i : Int) := by omega
  have bj : (b : Int) + (i : Int) < (n : Int) := by omega
  have rj : IntKind.i64.wrap ((b : Int) + (i : Int)) = (b : Int) + (i : Int) := by rw [IntKind.wrap_i64]; omega
  have HX := Lib.hid (And.intro hx hy)
  rw [← hiN, ← hjN] at HX
  have HNE := Lib.hid (show iN ≠ jN by omega)
  have HIJ := Lib.hid (And.intro hiN hjN)
  have HS2 := Lib.hid (HI.out.set (k := iN) y (List.getElem?_eq_some_iff.1 HX.out.1).1)
  have HC2 := Lib.hid (HS2.out.cell (k := jN) (x := y) (by rw [List.getElem?_set_ne HNE.out]; exact HX.out.2))
  have S3 := Lib.hid (And.intro (HI.out.swap HX.out.1 HX.out.2) (((Chg.refl (fun k => k = g) w).setCell (p := ⟨g, iN, none⟩) (.inl rfl) (.int .i64 y)).setCell (p := ⟨g, jN, none⟩) (.inl rfl) (.int .i64 x)))
  clear hr hl k hx hy hiN hjN hab hb
  conv => arg 2; whnf
  go_wp2_with fail
  (refine wp_region_stages (fun k_ w_ => ((fun k => k == 13 || k == 19) k_ = true → (fun w_ => OrdAt w_ g l rest) w_) ∧ (fun _ => True) w_) (by kernel_rfl) (by kernel_rfl) (fun _ => ⟨fun _ => ((And.intro (HI.out.next (Below.refl _ _).drew) trivial)).1, ((And.intro (HI.out.next (Below.refl _ _).drew) trivial)).2⟩) ?_)
  (try simp only [])
  repeat (first | (refine runK_no (by rfl) ?_; (try simp only [Act.put, List.setIfInBounds_toArray, List.set_cons_zero, List.set_cons_succ])) | (refine runK_val (v := ?_) (by rfl) ?_ ?_; rotate_left; (focus (intro w_ hw_; obtain ⟨hE_, f2_⟩ := hw_; (try (replace hE_ := hE_ (by decide); have f1_ := hE_.cell HX.out.1; have f2_ := hE_.cell HX.out.2)); go_simp; (try with_reducible rfl); done)); (try simp only [Act.put, List.setIfInBounds_toArray, List.set_cons_zero, List.set_cons_succ])) | (refine runK_skip (w1 := w.drew.setCell ⟨g, iN, none⟩ (.int .i64 y)) (by rfl) (by rfl) (exec_store1 3 _ _ rfl g iN _ rfl rfl (by kernel_rfl) (by show (World.cell? w _).isSome = true; rw [HI.out.cell HX.out.1]; rfl) (frozen_row HI.out _) rfl) (fun k_ hk_ => ⟨fun hc_ => (free_crit (C := (fun k => k == 13 || k == 19)) (by kernel_rfl) k_ hk_ hc_).elim, trivial⟩) ?_; (try simp only [Act.put])) | (refine runK_skip (w1 := (w.drew.setCell ⟨g, iN, none⟩ (.int .i64 y)).setCell ⟨g, jN, none⟩ (.int .i64 x)) (by rfl) (by rfl) (exec_store1 3 _ _ rfl g jN _ rfl rfl (by kernel_rfl) (by show (World.cell? (w.setCell _ _) _).isSome = true; rw [HC2.out]; rfl) (frozen_row HS2.out _) rfl) (fun k_ hk_ => ⟨fun hc_ => (free_crit (C := (fun k => k == 13 || k == 19)) (by kernel_rfl) k_ hk_ hc_).elim, trivial⟩) ?_; (try simp only [Act.put])))
  (refine runK_nil ?_)
  exact HK.out _ _ _ _ _ _ _ _ _ _ _ _ _ _ _ _ _ _ _ _ _ _ _ ⟨by rw [← HIJ.out.1, ← HIJ.out.2]; exact S3.out.1, S3.out.2.drew⟩

set_option maxRecDepth 100000 in
set_option maxHeartbeats 4000000 in
theorem sm_r11 {g n c i : Nat} {l : List Int} {rest : List Value} (w : World) (Q : Exit → Act → World → Prop) {u1 u2 u3 u4 u5 u6 u7 u8 u9 u10 u11 u12 u14 u15 u16 u17 u18 u19 u20 u21 u22 u23 u24 u25 u26 u27 u28 u29 u30 u31 u32 u33 u34 u35 u36 u37 u38 u39 u40 u41 u42 u43 u44 u45 u46 u47 u48 u49 u50 u51 u52 u53 u54 u55 u56 u57 u58 u59 u60 u61 u62 u63 u64 u65 u66 u67 u68 u69 u70 u71 u72 u73 u74 u75 u76 u77 u78 u79 u80 u81 u82 u83 u84 u85 u86 u87 u88 u89 u90 u91 u92 u93 u94 u95 u96 u97 u98 u99 u100 u101 u102 u103 u104 u105 u106 u107 u108 u109 u110 u111 u112 u113 u114 u115 u116 u117 u118 u119 u120 u121 u122 u123 u124 u125 u126 u127 u128 u129 u130 u131 u132 u133 u134 u135 u136 u137 u138 u139 u140 u141 u142 u143 u144 u145 u146 u147 u148 u149 u150 u151 u152 u153 u154 u155 u156 u157 u158 u159 u160 u161 u162 u163 u164 u165 u166 u167 u168 u169 u170 u171 u172 u173 u174 u175 u176 u177 u178 u179 u180 u181 u182 u183 u184 u185 u186 u187 u188 u189 u190 u191 u192 u193 u194 u195 u196 u197 u198 u199 u200 u201 u202 u203 u204 u205 u206 u207 u208 u209 u210 u211 u212 u213 u214 u215 u216 u217 u218 u219 : Value} (hr : OrdAt w g l rest) (hl : l.length = n) (hn : n ≤ 1000) (hb : i + 1 < n)
    (k : ∀ (v61 v62 v63 v64 v65 v66 v67 v68 v69 v70 v71 v72 v73 v74 v75 v76 : Value) (w' : World), OrdAt w' g (swapL l (i) (i + 1)) rest ∧ Chg (fun k => k = g) w w' → Q .normal ⟨#[.slice (some ⟨g, 0, none⟩) n c, u1, u2, u3, u4, u5, u6, u7, u8, u9, u10, u11, u12, .int .i64 (i : Nat), u14, u15, u16, u17, u18, u19, u20, u21, u22, u23, u24, u25, u26, u27, u28, u29, u30, u31, u32, u33, u34, u35, u36, u37, u38, u39, u40, u41, u42, u43, u44, u45, u46, u47, u48, u49, u50, u51, u52, u53, u54, u55, u56, u57, u58, u59, u60, v61, v62, v63, v64, v65, v66, v67, v68, v69, v70, v71, v72, v73, v74, v75, v76, u77, u78, u79, u80, u81, u82, u83, u84, u85, u86, u87, u88, u89, u90, u91, u92, u93, u94, u95, u96, u97, u98, u99, u100, u101, u102, u103, u104, u105, u106, u107, u108, u109, u110, u111, u112, u113, u114, u115, u116, u117, u118, u119, u120, u121, u122, u123, u124, u125, u126, u127, u128, u129, u130, u131, u132, u133, u134, u135, u136, u137, u138, u139, u140, u141, u142, u143, u144, u145, u146, u147, u148, u149, u150, u151, u152, u153, u154, u155, u156, u157, u158, u159, u160, u161, u162, u163, u164, u165, u166, u167, u168, u169, u170, u171, u172, u173, u174, u175, u176, u177, u178, u179, u180, u181, u182, u183, u184, u185, u186, u187, u188, u189, u190, u191, u192, u193, u194, u195, u196, u197, u198, u199, u200, u201, u202, u203, u204, u205, u206, u207, u208, u209, u210, u211, u212, u213, u214, u215, u216, u217, u218, u219], []⟩ w') : (partR Tryd.f73 11).wp Tryd.prog Q ⟨#[.slice (some ⟨g, 0, none⟩) n c, u1, u2, u3, u4, u5, u6, u7, u8, u9, u10, u11, u12, .int .i64 (i : Nat), u14, u15, u16, u17, u18, u19, u20, u21, u22, u23, u24, u25, u26, u27, u28, u29, u30, u31, u32, u33, u34, u35, u36, u37, u38, u39, u40, u41, u42, u43, u44, u45, u46, u47, u48, u49, u50, u51, u52, u53, u54, u55, u56, u57, u58, u59, u60, u61, u62, u63, u64, u65, u66, u67, u68, u69, u70, u71, u72, u73, u74, u75, u76, u77, u78, u79, u80, u81, u82, u83, u84, u85, u86, u87, u88, u89, u90, u91, u92, u93, u94, u95, u96, u97, u98, u99, u100, u101, u102, u103, u104, u105, u106, u107, u108, u109, u110, u111, u112, u113, u114, u115, u116, u117, u118, u119, u120, u121, u122, u123, u124, u125, u126, u127, u128, u129, u130, u131, u132, u133, u134, u135, u136, u137, u138, u139, u140, u141, u142, u143, u144, u145, u146, u147, u148, u149, u150, u151, u152, u153, u154, u155, u156, u157, u158, u159, u160, u161, u162, u163, u164, u165, u166, u167, u168, u169, u170, u171, u172, u173, u174, u175, u176, u177, u178, u179, u180, u181, u182, u183, u184, u185, u186, u187, u188, u189, u190, u191, u192, u193, u194, u195, u196, u197, u198, u199, u200, u201, u202, u203, u204, u205, u206, u207, u208, u209, u210, u211, u212, u213, u214, u215, u216, u217, u218, u219], []⟩ w := by
  have HI := Lib.hid hr
  have HL := Lib.hid hl
  have HK := Lib.hid k
  obtain ⟨x, hx⟩ : ∃ s, l[i]? = some s := ⟨_, List.getElem?_eq_getElem (by omega)⟩
  obtain ⟨y, hy⟩ : ∃ s, l[i + 1]? = some s := ⟨_, List.getElem?_eq_getElem (by omega)⟩
  obtain ⟨iN, hiN⟩ : ∃ q, q = i := ⟨_, rfl⟩
  obtain ⟨jN, hjN⟩ : ∃ q, q = i + 1 := ⟨_, rfl⟩
  have ei : ((i : Int)).toNat = iN := by omega
  have pi : (0 : Int) ≤ (i : Int) := by omega
  have bi : (i : Int) < (n : Int) := by omega
  have ri : IntKind.i64.wrap ((i : Int)) = (i : Int) := by rw [IntKind.wrap_i64]; omega
  have ej : ((i : Int) + 1).toNat = jN := by omega
  have pj : (0 : Int) ≤ (i : Int) + 1 := by omega
  have bj : (i : Int) + 1 < (n : Int) := by omega
  have rj : IntKind.i64.wrap ((i : Int) + 1) = (i : Int) + 1 := by rw [IntKind.wrap_i64]; omega
  have HX := Lib.hid (And.intro hx hy)
  rw [← hjN, ← hiN] at HX
  have HNE := Lib.hid (show iN ≠ jN by omega)
  have HIJ := Lib.hid (And.intro hiN hjN)
  have HS2 := Lib.hid (HI.out.set (k := iN) y (List.getElem?_eq_some_iff.1 HX.out.1).1)
  have HC2 := Lib.hid (HS2.out.cell (k := jN) (x := y) (by rw [List.getElem?_set_ne HNE.out]; exact HX.out.2))
  have S3 := Lib.hid (And.intro (HI.out.swap HX.out.1 HX.out.2) (((Chg.refl (fun k => k = g) w).setCell (p := ⟨g, iN, none⟩) (.inl rfl) (.int .i64 y)).setCell (p := ⟨g, jN, none⟩) (.inl rfl) (.int .i64 x)))
  clear hr hl k hx hy hiN hjN hb
  conv => arg 2; whnf
  go_wp2_with fail
  (refine wp_region_stages (fun k_ w_ => ((fun k => k == 9 || k == 13) k_ = true → (fun w_ => OrdAt w_ g l rest) w_) ∧ (fun _ => True) w_) (by kernel_rfl) (by kernel_rfl) (fun _ => ⟨fun _ => ((And.intro (HI.out.next (Below.refl _ _).drew) trivial)).1, ((And.intro (HI.out.next (Below.refl _ _).drew) trivial)).2⟩) ?_)
  (try simp only [])
  repeat (first | (refine runK_no (by rfl) ?_; (try simp only [Act.put, List.setIfInBounds_toArray, List.set_cons_zero, List.set_cons_succ])) | (refine runK_val (v := ?_) (by rfl) ?_ ?_; rotate_left; (focus (intro w_ hw_; obtain ⟨hE_, f2_⟩ := hw_; (try (replace hE_ := hE_ (by decide); have f1_ := hE_.cell HX.out.1; have f2_ := hE_.cell HX.out.2)); go_simp; (try with_reducible rfl); done)); (try simp only [Act.put, List.setIfInBounds_toArray, List.set_cons_zero, List.set_cons_succ])) | (refine runK_skip (w1 := w.drew.setCell ⟨g, iN, none⟩ (.int .i64 y)) (by rfl) (by rfl) (exec_store1 3 _ _ rfl g iN _ rfl rfl (by kernel_rfl) (by show (World.cell? w _).isSome = true; rw [HI.out.cell HX.out.1]; rfl) (frozen_row HI.out _) rfl) (fun k_ hk_ => ⟨fun hc_ => (free_crit (C := (fun k => k == 9 || k == 13)) (by kernel_rfl) k_ hk_ hc_).elim, trivial⟩) ?_; (try simp only [Act.put])) | (refine runK_skip (w1 := (w.drew.setCell ⟨g, iN, none⟩ (.int .i64 y)).setCell ⟨g, jN, none⟩ (.int .i64 x)) (by rfl) (by rfl) (exec_store1 3 _ _ rfl g jN _ rfl rfl (by kernel_rfl) (by show (World.cell? (w.setCell _ _) _).isSome = true; rw [HC2.out]; rfl) (frozen_row HS2.out _) rfl) (fun k_ hk_ => ⟨fun hc_ => (free_crit (C := (fun k => k == 9 || k == 13)) (by kernel_rfl) k_ hk_ hc_).elim, trivial⟩) ?_; (try simp only [Act.put])))
  (refine runK_nil ?_)
  exact HK.out _ _ _ _ _ _ _ _ _ _ _ _ _ _ _ _ _ ⟨by rw [← HIJ.out.2, ← HIJ.out.1]; exact S3.out.1, S3.out.2.drew⟩

set_option maxRecDepth 100000 in
set_option maxHeartbeats 4000000 in
theorem sm_r23 {g n c i : Nat} {l : List Int} {rest : List Value} (w : World) (Q : Exit → Act → World → Prop) {u1 u2 u3 u4 u5 u6 u7 u8 u9 u10 u11 u12 u13 u14 u15 u16 u18 u19 u20 u21 u22 u23 u24 u25 u26 u27 u28 u29 u30 u31 u32 u33 u34 u35 u36 u37 u38 u39 u40 u41 u42 u43 u44 u45 u46 u47 u48 u49 u50 u51 u52 u53 u54 u55 u56 u57 u58 u59 u60 u61 u62 u63 u64 u65 u66 u67 u68 u69 u70 u71 u72 u73 u74 u75 u76 u77 u78 u79 u80 u81 u82 u83 u84 u85 u86 u87 u88 u89 u90 u91 u92 u93 u94 u95 u96 u97 u98 u99 u100 u101 u102 u103 u104 u105 u106 u107 u108 u109 u110 u111 u112 u113 u114 u115 u116 u117 u118 u119 u120 u121 u122 u123 u124 u125 u126 u127 u128 u129 u130 u131 u132 u133 u134 u135 u136 u137 u138 u139 u140 u141 u142 u143 u144 u145 u146 u147 u148 u149 u150 u151 u152 u153 u154 u155 u156 u157 u158 u159 u160 u161 u162 u163 u164 u165 u166 u167 u168 u169 u170 u171 u172 u173 u174 u175 u176 u177 u178 u179 u180 u181 u182 u183 u184 u185 u186 u187 u188 u189 u190 u191 u192 u193 u194 u195 u196 u197 u198 u199 u200 u201 u202 u203 u204 u205 u206 u207 u208 u209 u210 u211 u212 u213 u214 u215 u216 u217 u218 u219 : Value} (hr : OrdAt w g l rest) (hl : l.length = n) (hn : n ≤ 1000) (hb : i + 1 < n)
    (k : ∀ (v113 v114 v115 v116 v117 v118 v119 v120 v121 v122 v123 v124 v125 v126 v127 v128 : Value) (w' : World), OrdAt w' g (swapL l (i + 1) (i)) rest ∧ Chg (fun k => k = g) w w' → Q .normal ⟨#[.slice (some ⟨g, 0, none⟩) n c, u1, u2, u3, u4, u5, u6, u7, u8, u9, u10, u11, u12, u13, u14, u15, u16, .int .i64 ((i : Nat) + 1 : Int), u18, u19, u20, u21, u22, u23, u24, u25, u26, u27, u28, u29, u30, u31, u32, u33, u34, u35, u36, u37, u38, u39, u40, u41, u42, u43, u44, u45, u46, u47, u48, u49, u50, u51, u52, u53, u54, u55, u56, u57, u58, u59, u60, u61, u62, u63, u64, u65, u66, u67, u68, u69, u70, u71, u72, u73, u74, u75, u76, u77, u78, u79, u80, u81, u82, u83, u84, u85, u86, u87, u88, u89, u90, u91, u92, u93, u94, u95, u96, u97, u98, u99, u100, u101, u102, u103, u104, u105, u106, u107, u108, u109, u110, u111, u112, v113, v114, v115, v116, v117, v118, v119, v120, v121, v122, v123, v124, v125, v126, v127, v128, u129, u130, u131, u132, u133, u134, u135, u136, u137, u138, u139, u140, u141, u142, u143, u144, u145, u146, u147, u148, u149, u150, u151, u152, u153, u154, u155, u156, u157, u158, u159, u160, u161, u162, u163, u164, u165, u166, u167, u168, u169, u170, u171, u172, u173, u174, u175, u176, u177, u178, u179, u180, u181, u182, u183, u184, u185, u186, u187, u188, u189, u190, u191, u192, u193, u194, u195, u196, u197, u198, u199, u200, u201, u202, u203, u204, u205, u206, u207, u208, u209, u210, u211, u212, u213, u214, u215, u216, u217, u218, u219], []⟩ w') : (partR Tryd.f73 23).wp Tryd.prog Q ⟨#[.slice (some ⟨g, 0, none⟩) n c, u1, u2, u3, u4, u5, u6, u7, u8, u9, u10, u11, u12, u13, u14, u15, u16, .int .i64 ((i : Nat) + 1 : Int), u18, u19, u20, u21, u22, u23, u24, u25, u26, u27, u28, u29, u30, u31, u32, u33, u34, u35, u36, u37, u38, u39, u40, u41, u42, u43, u44, u45, u46, u47, u48, u49, u50, u51, u52, u53, u54, u55, u56, u57, u58, u59, u60, u61, u62, u63, u64, u65, u66, u67, u68, u69, u70, u71, u72, u73, u74, u75, u76, u77, u78, u79, u80, u81, u82, u83, u84, u85, u86, u87, u88, u89, u90, u91, u92, u93, u94, u95, u96, u97, u98, u99, u100, u101, u102, u103, u104, u105, u106, u107, u108, u109, u110, u111, u112, u113, u114, u115, u116, u117, u118, u119, u120, u121, u122, u123, u124, u125, u126, u127, u128, u129, u130, u131, u132, u133, u134, u135, u136, u137, u138, u139, u140, u141, u142, u143, u144, u145, u146, u147, u148, u149, u150, u151, u152, u153, u154, u155, u156, u157, u158, u159, u160, u161, u162, u163, u164, u165, u166, u167, u168, u169, u170, u171, u172, u173, u174, u175, u176, u177, u178, u179, u180, u181, u182, u183, u184, u185, u186, u187, u188, u189, u190, u191, u192, u193, u194, u195, u196, u197, u198, u199, u200, u201, u202, u203, u204, u205, u206, u207, u208, u209, u210, u211, u212, u213, u214, u215, u216, u217, u218, u219], []⟩ w := by
  have HI := Lib.hid hr
  have HL := Lib.hid hl
  have HK := Lib.hid k
  obtain ⟨x, hx⟩ : ∃ s, l[i + 1]? = some s := ⟨_, List.getElem?_eq_getElem (by omega)⟩
  obtain ⟨y, hy⟩ : ∃ s, l[i]? = some s := ⟨_, List.getElem?_eq_getElem (by omega)⟩
  obtain ⟨iN, hiN⟩ : ∃ q, q = i + 1 := ⟨_, rfl⟩
  obtain ⟨jN, hjN⟩ : ∃ q, q = i := ⟨_, rfl⟩
  have ei : ((i : Int) + 1).toNat = iN := by omega
  have pi : (0 : Int) ≤ (i : Int) + 1 := by omega
  have bi : (i : Int) + 1 < (n : Int) := by omega
  have ri : IntKind.i64.wrap ((i : Int) + 1) = (i : Int) + 1 := by rw [IntKind.wrap_i64]; omega
  have ej : ((i : Int)).toNat = jN := by omega
  have pj : (0 : Int) ≤ (i : Int) := by omega
  have bj : (i : Int) < (n : Int) := by omega
  have rj : IntKind.i64.wrap ((i : Int)) = (i : Int) := by rw [IntKind.wrap_i64]; omega
  have HX := Lib.hid (And.intro hx hy)
  rw [← hiN, ← hjN] at HX
  have HNE := Lib.hid (show iN ≠ jN by omega)
  have HIJ := Lib.hid (And.intro hiN hjN)
  have HS2 := Lib.hid (HI.out.set (k := iN) y (List.getElem?_eq_some_iff.1 HX.out.1).1)
  have HC2 := Lib.hid (HS2.out.cell (k := jN) (x := y) (by rw [List.getElem?_set_ne HNE.out]; exact HX.out.2))
  have S3 := Lib.hid (And.intro (HI.out.swap HX.out.1 HX.out.2) (((Chg.refl (fun k => k = g) w).setCell (p := ⟨g, iN, none⟩) (.inl rfl) (.int .i64 y)).setCell (p := ⟨g, jN, none⟩) (.inl rfl) (.int .i64 x)))
  clear hr hl k hx hy hiN hjN hb
  conv => arg 2; whnf
  go_wp2_with fail
  (refine wp_region_stages (fun k_ w_ => ((fun k => k == 9 || k == 13) k_ = true → (fun w_ => OrdAt w_ g l rest) w_) ∧ (fun _ => True) w_) (by kernel_rfl) (by kernel_rfl) (fun _ => ⟨fun _ => ((And.intro (HI.out.next (Below.refl _ _).drew) trivial)).1, ((And.intro (HI.out.next (Below.refl _ _).drew) trivial)).2⟩) ?_)
  (try simp only [])
  repeat (first | (refine runK_no (by rfl) ?_; (try simp only [Act.put, List.setIfInBounds_toArray, List.set_cons_zero, List.set_cons_succ])) | (refine runK_val (v := ?_) (by rfl) ?_ ?_; rotate_left; (focus (intro w_ hw_; obtain ⟨hE_, f2_⟩ := hw_; (try (replace hE_ := hE_ (by decide); have f1_ := hE_.cell HX.out.1; have f2_ := hE_.cell HX.out.2)); go_simp; (try with_reducible rfl); done)); (try simp only [Act.put, List.setIfInBounds_toArray, List.set_cons_zero, List.set_cons_succ])) | (refine runK_skip (w1 := w.drew.setCell ⟨g, iN, none⟩ (.int .i64 y)) (by rfl) (by rfl) (exec_store1 3 _ _ rfl g iN _ rfl rfl (by kernel_rfl) (by show (World.cell? w _).isSome = true; rw [HI.out.cell HX.out.1]; rfl) (frozen_row HI.out _) rfl) (fun k_ hk_ => ⟨fun hc_ => (free_crit (C := (fun k => k == 9 || k == 13)) (by kernel_rfl) k_ hk_ hc_).elim, trivial⟩) ?_; (try simp only [Act.put])) | (refine runK_skip (w1 := (w.drew.setCell ⟨g, iN, none⟩ (.int .i64 y)).setCell ⟨g, jN, none⟩ (.int .i64 x)) (by rfl) (by rfl) (exec_store1 3 _ _ rfl g jN _ rfl rfl (by kernel_rfl) (by show (World.cell? (w.setCell _ _) _).isSome = true; rw [HC2.out]; rfl) (frozen_row HS2.out _) rfl) (fun k_ hk_ => ⟨fun hc_ => (free_crit (C := (fun k => k == 9 || k == 13)) (by kernel_rfl) k_ hk_ hc_).elim, trivial⟩) ?_; (try simp only [Act.put])))
  (refine runK_nil ?_)
  exact HK.out _ _ _ _ _ _ _ _ _ _ _ _ _ _ _ _ _ ⟨by rw [← HIJ.out.1, ← HIJ.out.2]; exact S3.out.1, S3.out.2.drew⟩

set_option maxRecDepth 100000 in
set_option maxHeartbeats 4000000 in
theorem sm_r5 {g n c gb gs m a i : Nat} {sp : List (Int × Int)} {l : List Int} {rest : List Value} (w : World) (Q : Exit → Act → World → Prop) {u2 u3 u5 u6 u7 u8 u9 u10 u11 u13 u14 u15 u16 u17 u18 u19 u20 u21 u22 u23 u24 u25 u26 u27 u28 u29 u30 u31 u32 u33 u34 u35 u36 u37 u38 u39 u40 u41 u42 u43 u44 u45 u46 u47 u48 u49 u50 u51 u52 u53 u54 u55 u56 u57 u58 u59 u60 u61 u62 u63 u64 u65 u66 u67 u68 u69 u70 u71 u72 u73 u74 u75 u76 u77 u78 u79 u80 u81 u82 u83 u84 u85 u86 u87 u88 u89 u90 u91 u92 u93 u94 u95 u96 u97 u98 u99 u100 u101 u102 u103 u104 u105 u106 u107 u108 u109 u110 u111 u112 u113 u114 u115 u116 u117 u118 u119 u120 u121 u122 u123 u124 u125 u126 u127 u128 u129 u130 u131 u132 u133 u134 u135 u136 u137 u138 u139 u140 u141 u142 u143 u144 u145 u146 u147 u148 u149 u150 u151 u152 u153 u154 u155 u156 u157 u158 u159 u160 u161 u162 u163 u164 u165 u166 u167 u168 u169 u170 u171 u172 u173 u174 u175 u176 u177 u178 u179 u180 u181 u182 u183 u184 u185 u186 u187 u188 u189 u190 u191 u192 u193 u194 u195 u196 u197 u198 u199 u200 u201 u202 u203 u204 u205 u206 u207 u208 u209 u210 u211 u212 u213 u214 u215 u216 u217 u218 u219 : Value} (hr : OrdAt w g l rest) (hl : l.length = n) (hk : KeysAt w gb gs m sp) (hm : m ≤ 1000) (hn : n ≤ 1000) (hmem : ∀ x ∈ l, 0 ≤ x ∧ x < (m : Int)) (ha : a < n) (hi : i < n)
    (k : ∀ (v40 v41 v42 v43 v44 v45 v46 v47 v48 v49 : Value) (w' : World), OrdAt w' g l rest ∧ Below w.heap.size w w' → Q .normal ⟨#[.slice (some ⟨g, 0, none⟩) n c, .int .i64 (a : Nat), u2, u3, .func (.func 35) #[] #[.pointer (some ⟨gb, 0, none⟩)], u5, u6, u7, u8, u9, u10, u11, .int .i64 (i : Nat), u13, u14, u15, u16, u17, u18, u19, u20, u21, u22, u23, u24, u25, u26, u27, u28, u29, u30, u31, u32, u33, u34, u35, u36, u37, u38, u39, v40, v41, v42, v43, v44, v45, v46, v47, v48, v49, .bool (decide (keyF sp (l.getD i 0) < keyF sp (l.getD a 0))), u51, u52, u53, u54, u55, u56, u57, u58, u59, u60, u61, u62, u63, u64, u65, u66, u67, u68, u69, u70, u71, u72, u73, u74, u75, u76, u77, u78, u79, u80, u81, u82, u83, u84, u85, u86, u87, u88, u89, u90, u91, u92, u93, u94, u95, u96, u97, u98, u99, u100, u101, u102, u103, u104, u105, u106, u107, u108, u109, u110, u111, u112, u113, u114, u115, u116, u117, u118, u119, u120, u121, u122, u123, u124, u125, u126, u127, u128, u129, u130, u131, u132, u133, u134, u135, u136, u137, u138, u139, u140, u141, u142, u143, u144, u145, u146, u147, u148, u149, u150, u151, u152, u153, u154, u155, u156, u157, u158, u159, u160, u161, u162, u163, u164, u165, u166, u167, u168, u169, u170, u171, u172, u173, u174, u175, u176, u177, u178, u179, u180, u181, u182, u183, u184, u185, u186, u187, u188, u189, u190, u191, u192, u193, u194, u195, u196, u197, u198, u199, u200, u201, u202, u203, u204, u205, u206, u207, u208, u209, u210, u211, u212, u213, u214, u215, u216, u217, u218, u219], []⟩ w') : (partR Tryd.f73 5).wp Tryd.prog Q ⟨#[.slice (some ⟨g, 0, none⟩) n c, .int .i64 (a : Nat), u2, u3, .func (.func 35) #[] #[.pointer (some ⟨gb, 0, none⟩)], u5, u6, u7, u8, u9, u10, u11, .int .i64 (i : Nat), u13, u14, u15, u16, u17, u18, u19, u20, u21, u22, u23, u24, u25, u26, u27, u28, u29, u30, u31, u32, u33, u34, u35, u36, u37, u38, u39, u40, u41, u42, u43, u44, u45, u46, u47, u48, u49, u50, u51, u52, u53, u54, u55, u56, u57, u58, u59, u60, u61, u62, u63, u64, u65, u66, u67, u68, u69, u70, u71, u72, u73, u74, u75, u76, u77, u78, u79, u80, u81, u82, u83, u84, u85, u86, u87, u88, u89, u90, u91, u92, u93, u94, u95, u96, u97, u98, u99, u100, u101, u102, u103, u104, u105, u106, u107, u108, u109, u110, u111, u112, u113, u114, u115, u116, u117, u118, u119, u120, u121, u122, u123, u124, u125, u126, u127, u128, u129, u130, u131, u132, u133, u134, u135, u136, u137, u138, u139, u140, u141, u142, u143, u144, u145, u146, u147, u148, u149, u150, u151, u152, u153, u154, u155, u156, u157, u158, u159, u160, u161, u162, u163, u164, u165, u166, u167, u168, u169, u170, u171, u172, u173, u174, u175, u176, u177, u178, u179, u180, u181, u182, u183, u184, u185, u186, u187, u188, u189, u190, u191, u192, u193, u194, u195, u196, u197, u198, u199, u200, u201, u202, u203, u204, u205, u206, u207, u208, u209, u210, u211, u212, u213, u214, u215, u216, u217, u218, u219], []⟩ w := by
  have HI := Lib.hid hr
  have HK := Lib.hid k
  have HKW := Lib.hid (hk.next (Below.refl _ _).drew)
  obtain ⟨x, hx⟩ : ∃ s, l[i]? = some s := ⟨_, List.getElem?_eq_getElem (by omega)⟩
  obtain ⟨y, hy⟩ : ∃ s, l[a]? = some s := ⟨_, List.getElem?_eq_getElem (by omega)⟩
  have mx := hmem x (List.mem_of_getElem? hx)
  have my := hmem y (List.mem_of_getElem? hy)
  have gx : l.getD (i) 0 = x := by rw [List.getD_eq_getElem?_getD, hx]; rfl
  have gy : l.getD (a) 0 = y := by rw [List.getD_eq_getElem?_getD, hy]; rfl
  rw [gx, gy] at HK
  have HC := cmp_any x y w.drew HKW.out hm mx.1 mx.2 my.1 my.2
  obtain ⟨q, hq⟩ : ∃ q, Lib.compareInt (keyF sp x) (keyF sp y) = q := ⟨_, rfl⟩
  have hlt : decide (q < 0) = decide (keyF sp x < keyF sp y) := by rw [← hq]; exact cmp_lt _ _
  rw [← hlt] at HK
  rw [hq] at HC
  have HCM := Lib.hid HC
  obtain ⟨iN, hiN⟩ : ∃ q, q = i := ⟨_, rfl⟩
  obtain ⟨jN, hjN⟩ : ∃ q, q = a := ⟨_, rfl⟩
  have ei : ((i : Int)).toNat = iN := by omega
  have pi : (0 : Int) ≤ (i : Int) := by omega
  have bi : (i : Int) < (n : Int) := by omega
  have ri : IntKind.i64.wrap ((i : Int)) = (i : Int) := by rw [IntKind.wrap_i64]; omega
  have ej : ((a : Int)).toNat = jN := by omega
  have pj : (0 : Int) ≤ (a : Int) := by omega
  have bj : (a : Int) < (n : Int) := by omega
  have rj : IntKind.i64.wrap ((a : Int)) = (a : Int) := by rw [IntKind.wrap_i64]; omega
  have HX := Lib.hid (And.intro hx hy)
  rw [← hiN, ← hjN] at HX
  clear hr hl k hk hmem hx hy hiN hjN mx my gx gy HC hq hlt ha hi
  conv => arg 2; whnf
  go_wp2_with fail
  (refine wp_region_lines (fun w_ => OrdAt w_ g l rest) (by kernel_rfl) (by kernel_rfl) (HI.out.next (Below.refl _ _).drew) ?_)
  (try simp only [])
  repeat (first | (refine runL_no (by rfl) ?_; (try simp only [Act.put, List.setIfInBounds_toArray, List.set_cons_zero, List.set_cons_succ])) | (refine runL_val (v := ?_) (by rfl) ?_ ?_; rotate_left; (focus (intro w_ hw_; have f1_ := hw_.cell HX.out.1; have f2_ := hw_.cell HX.out.2; go_simp; (try with_reducible rfl); done)); (try simp only [Act.put, List.setIfInBounds_toArray, List.set_cons_zero, List.set_cons_succ])) | (refine runL_call (f := ?_) (args := ?_) (w1 := ?_) (by rfl) (by rfl) ?_ ?_; rotate_left 3; (focus (go_simp; refine ⟨⟨?_, ?_⟩, ?_⟩ <;> with_reducible rfl)); (with_reducible refine (HCM.out).mono ?_); rintro e w1 ⟨rfl, hb⟩; have HB6 := Lib.hid ((Below.refl w.heap.size w).drew.trans hb); clear hb; refine ⟨_, rfl, .inr (HI.out.next HB6.out), ?_⟩; (try simp only [Act.put, List.setIfInBounds_toArray, List.set_cons_zero, List.set_cons_succ])))
  (refine runL_nil ?_)
  exact HK.out _ _ _ _ _ _ _ _ _ _ _ ⟨HI.out.next HB6.out, HB6.out⟩

set_option maxRecDepth 100000 in
set_option maxHeartbeats 4000000 in
theorem sm_r17 {g n c gb gs m a i : Nat} {sp : List (Int × Int)} {l : List Int} {rest : List Value} (w : World) (Q : Exit → Act → World → Prop) {u1 u3 u5 u6 u7 u8 u9 u10 u11 u12 u13 u14 u15 u17 u18 u19 u20 u21 u22 u23 u24 u25 u26 u27 u28 u29 u30 u31 u32 u33 u34 u35 u36 u37 u38 u39 u40 u41 u42 u43 u44 u45 u46 u47 u48 u49 u50 u51 u52 u53 u54 u55 u56 u57 u58 u59 u60 u61 u62 u63 u64 u65 u66 u67 u68 u69 u70 u71 u72 u73 u74 u75 u76 u77 u78 u79 u80 u81 u82 u83 u84 u85 u86 u87 u88 u89 u90 u91 u92 u93 u94 u95 u96 u97 u98 u99 u100 u101 u102 u103 u104 u105 u106 u107 u108 u109 u110 u111 u112 u113 u114 u115 u116 u117 u118 u119 u120 u121 u122 u123 u124 u125 u126 u127 u128 u129 u130 u131 u132 u133 u134 u135 u136 u137 u138 u139 u140 u141 u142 u143 u144 u145 u146 u147 u148 u149 u150 u151 u152 u153 u154 u155 u156 u157 u158 u159 u160 u161 u162 u163 u164 u165 u166 u167 u168 u169 u170 u171 u172 u173 u174 u175 u176 u177 u178 u179 u180 u181 u182 u183 u184 u185 u186 u187 u188 u189 u190 u191 u192 u193 u194 u195 u196 u197 u198 u199 u200 u201 u202 u203 u204 u205 u206 u207 u208 u209 u210 u211 u212 u213 u214 u215 u216 u217 u218 u219 : Value} (hr : OrdAt w g l rest) (hl : l.length = n) (hk : KeysAt w gb gs m sp) (hm : m ≤ 1000) (hn : n ≤ 1000) (hmem : ∀ x ∈ l, 0 ≤ x ∧ x < (m : Int)) (ha : a < n) (hi : i < n)
    (k : ∀ (v92 v93 v94 v95 v96 v97 v98 v99 v100 v101 v102 : Value) (w' : World), OrdAt w' g l rest ∧ Below w.heap.size w w' → Q .normal ⟨#[.slice (some ⟨g, 0, none⟩) n c, u1, .int .i64 (a : Nat), u3, .func (.func 35) #[] #[.pointer (some ⟨gb, 0, none⟩)], u5, u6, u7, u8, u9, u10, u11, u12, u13, u14, u15, .int .i64 (i : Nat), u17, u18, u19, u20, u21, u22, u23, u24, u25, u26, u27, u28, u29, u30, u31, u32, u33, u34, u35, u36, u37, u38, u39, u40, u41, u42, u43, u44, u45, u46, u47, u48, u49, u50, u51, u52, u53, u54, u55, u56, u57, u58, u59, u60, u61, u62, u63, u64, u65, u66, u67, u68, u69, u70, u71, u72, u73, u74, u75, u76, u77, u78, u79, u80, u81, u82, u83, u84, u85, u86, u87, u88, u89, u90, u91, v92, v93, v94, v95, v96, v97, v98, v99, v100, v101, v102, .bool (!decide (keyF sp (l.getD a 0) < keyF sp (l.getD i 0))), u104, u105, u106, u107, u108, u109, u110, u111, u112, u113, u114, u115, u116, u117, u118, u119, u120, u121, u122, u123, u124, u125, u126, u127, u128, u129, u130, u131, u132, u133, u134, u135, u136, u137, u138, u139, u140, u141, u142, u143, u144, u145, u146, u147, u148, u149, u150, u151, u152, u153, u154, u155, u156, u157, u158, u159, u160, u161, u162, u163, u164, u165, u166, u167, u168, u169, u170, u171, u172, u173, u174, u175, u176, u177, u178, u179, u180, u181, u182, u183, u184, u185, u186, u187, u188, u189, u190, u191, u192, u193, u194, u195, u196, u197, u198, u199, u200, u201, u202, u203, u204, u205, u206, u207, u208, u209, u210, u211, u212, u213, u214, u215, u216, u217, u218, u219], []⟩ w') : (partR Tryd.f73 17).wp Tryd.prog Q ⟨#[.slice (some ⟨g, 0, none⟩) n c, u1, .int .i64 (a : Nat), u3, .func (.func 35) #[] #[.pointer (some ⟨gb, 0, none⟩)], u5, u6, u7, u8, u9, u10, u11, u12, u13, u14, u15, .int .i64 (i : Nat), u17, u18, u19, u20, u21, u22, u23, u24, u25, u26, u27, u28, u29, u30, u31, u32, u33, u34, u35, u36, u37, u38, u39, u40, u41, u42, u43, u44, u45, u46, u47, u48, u49, u50, u51, u52, u53, u54, u55, u56, u57, u58, u59, u60, u61, u62, u63, u64, u65, u66, u67, u68, u69, u70, u71, u72, u73, u74, u75, u76, u77, u78, u79, u80, u81, u82, u83, u84, u85, u86, u87, u88, u89, u90, u91, u92, u93, u94, u95, u96, u97, u98, u99, u100, u101, u102, u103, u104, u105, u106, u107, u108, u109, u110, u111, u112, u113, u114, u115, u116, u117, u118, u119, u120, u121, u122, u123, u124, u125, u126, u127, u128, u129, u130, u131, u132, u133, u134, u135, u136, u137, u138, u139, u140, u141, u142, u143, u144, u145, u146, u147, u148, u149, u150, u151, u152, u153, u154, u155, u156, u157, u158, u159, u160, u161, u162, u163, u164, u165, u166, u167, u168, u169, u170, u171, u172, u173, u174, u175, u176, u177, u178, u179, u180, u181, u182, u183, u184, u185, u186, u187, u188, u189, u190, u191, u192, u193, u194, u195, u196, u197, u198, u199, u200, u201, u202, u203, u204, u205, u206, u207, u208, u209, u210, u211, u212, u213, u214, u215, u216, u217, u218, u219], []⟩ w := by
  have HI := Lib.hid hr
  have HK := Lib.hid k
  have HKW := Lib.hid (hk.next (Below.refl _ _).drew)
  obtain ⟨x, hx⟩ : ∃ s, l[a]? = some s := ⟨_, List.getElem?_eq_getElem (by omega)⟩
  obtain ⟨y, hy⟩ : ∃ s, l[i]? = some s := ⟨_, List.getElem?_eq_getElem (by omega)⟩
  have mx := hmem x (List.mem_of_getElem? hx)
  have my := hmem y (List.mem_of_getElem? hy)
  have gx : l.getD (a) 0 = x := by rw [List.getD_eq_getElem?_getD, hx]; rfl
  have gy : l.getD (i) 0 = y := by rw [List.getD_eq_getElem?_getD, hy]; rfl
  rw [gx, gy] at HK
  have HC := cmp_any x y w.drew HKW.out hm mx.1 mx.2 my.1 my.2
  obtain ⟨q, hq⟩ : ∃ q, Lib.compareInt (keyF sp x) (keyF sp y) = q := ⟨_, rfl⟩
  have hlt : decide (q < 0) = decide (keyF sp x < keyF sp y) := by rw [← hq]; exact cmp_lt _ _
  rw [← hlt] at HK
  rw [hq] at HC
  have HCM := Lib.hid HC
  obtain ⟨iN, hiN⟩ : ∃ q, q = a := ⟨_, rfl⟩
  obtain ⟨jN, hjN⟩ : ∃ q, q = i := ⟨_, rfl⟩
  have ei : ((a : Int)).toNat = iN := by omega
  have pi : (0 : Int) ≤ (a : Int) := by omega
  have bi : (a : Int) < (n : Int) := by omega
  have ri : IntKind.i64.wrap ((a : Int)) = (a : Int) := by rw [IntKind.wrap_i64]; omega
  have ej : ((i : Int)).toNat = jN := by omega
  have pj : (0 : Int) ≤ (i : Int) := by omega
  have bj : (i : Int) < (n : Int) := by omega
  have rj : IntKind.i64.wrap ((i : Int)) = (i : Int) := by rw [IntKind.wrap_i64]; omega
  have HX := Lib.hid (And.intro hx hy)
  rw [← hiN, ← hjN] at HX
  clear hr hl k hk hmem hx hy hiN hjN mx my gx gy HC hq hlt ha hi
  conv => arg 2; whnf
  go_wp2_with fail
  (refine wp_region_lines (fun w_ => OrdAt w_ g l rest) (by kernel_rfl) (by kernel_rfl) (HI.out.next (Below.refl _ _).drew) ?_)
  (try simp only [])
  repeat (first | (refine runL_no (by rfl) ?_; (try simp only [Act.put, List.setIfInBounds_toArray, List.set_cons_zero, List.set_cons_succ])) | (refine runL_val (v := ?_) (by rfl) ?_ ?_; rotate_left; (focus (intro w_ hw_; have f1_ := hw_.cell HX.out.1; have f2_ := hw_.cell HX.out.2; go_simp; (try with_reducible rfl); done)); (try simp only [Act.put, List.setIfInBounds_toArray, List.set_cons_zero, List.set_cons_succ])) | (refine runL_call (f := ?_) (args := ?_) (w1 := ?_) (by rfl) (by rfl) ?_ ?_; rotate_left 3; (focus (go_simp; refine ⟨⟨?_, ?_⟩, ?_⟩ <;> with_reducible rfl)); (with_reducible refine (HCM.out).mono ?_); rintro e w1 ⟨rfl, hb⟩; have HB6 := Lib.hid ((Below.refl w.heap.size w).drew.trans hb); clear hb; refine ⟨_, rfl, .inr (HI.out.next HB6.out), ?_⟩; (try simp only [Act.put, List.setIfInBounds_toArray, List.set_cons_zero, List.set_cons_succ])))
  (refine runL_nil ?_)
  exact HK.out _ _ _ _ _ _ _ _ _ _ _ _ ⟨HI.out.next HB6.out, HB6.out⟩

set_option maxRecDepth 100000 in
set_option maxHeartbeats 4000000 in
theorem sm_r4 {i j : Nat} (w : World) (Q : Exit → Act → World → Prop) {u0 u1 u2 u3 u4 u5 u6 u7 u8 u9 u12 u13 u14 u15 u16 u17 u18 u19 u20 u21 u22 u23 u24 u25 u26 u27 u28 u29 u30 u31 u32 u33 u34 u35 u36 u37 u38 u39 u40 u41 u42 u43 u44 u45 u46 u47 u48 u49 u50 u51 u52 u53 u54 u55 u56 u57 u58 u59 u60 u61 u62 u63 u64 u65 u66 u67 u68 u69 u70 u71 u72 u73 u74 u75 u76 u77 u78 u79 u80 u81 u82 u83 u84 u85 u86 u87 u88 u89 u90 u91 u92 u93 u94 u95 u96 u97 u98 u99 u100 u101 u102 u103 u104 u105 u106 u107 u108 u109 u110 u111 u112 u113 u114 u115 u116 u117 u118 u119 u120 u121 u122 u123 u124 u125 u126 u127 u128 u129 u130 u131 u132 u133 u134 u135 u136 u137 u138 u139 u140 u141 u142 u143 u144 u145 u146 u147 u148 u149 u150 u151 u152 u153 u154 u155 u156 u157 u158 u159 u160 u161 u162 u163 u164 u165 u166 u167 u168 u169 u170 u171 u172 u173 u174 u175 u176 u177 u178 u179 u180 u181 u182 u183 u184 u185 u186 u187 u188 u189 u190 u191 u192 u193 u194 u195 u196 u197 u198 u199 u200 u201 u202 u203 u204 u205 u206 u207 u208 u209 u210 u211 u212 u213 u214 u215 u216 u217 u218 u219 : Value} (hi : i ≤ 1000) (hj : j ≤ 1000)
    (k : ∀ (v34 v35 v36 v37 v38 v39 : Value), Q .normal ⟨#[u0, u1, u2, u3, u4, u5, u6, u7, u8, u9, .int .i64 (i : Nat), .int .i64 (j : Nat), .int .i64 (((i + j) / 2 : Nat) : Int), u13, u14, u15, u16, u17, u18, u19, u20, u21, u22, u23, u24, u25, u26, u27, u28, u29, u30, u31, u32, u33, v34, v35, v36, v37, v38, v39, u40, u41, u42, u43, u44, u45, u46, u47, u48, u49, u50, u51, u52, u53, u54, u55, u56, u57, u58, u59, u60, u61, u62, u63, u64, u65, u66, u67, u68, u69, u70, u71, u72, u73, u74, u75, u76, u77, u78, u79, u80, u81, u82, u83, u84, u85, u86, u87, u88, u89, u90, u91, u92, u93, u94, u95, u96, u97, u98, u99, u100, u101, u102, u103, u104, u105, u106, u107, u108, u109, u110, u111, u112, u113, u114, u115, u116, u117, u118, u119, u120, u121, u122, u123, u124, u125, u126, u127, u128, u129, u130, u131, u132, u133, u134, u135, u136, u137, u138, u139, u140, u141, u142, u143, u144, u145, u146, u147, u148, u149, u150, u151, u152, u153, u154, u155, u156, u157, u158, u159, u160, u161, u162, u163, u164, u165, u166, u167, u168, u169, u170, u171, u172, u173, u174, u175, u176, u177, u178, u179, u180, u181, u182, u183, u184, u185, u186, u187, u188, u189, u190, u191, u192, u193, u194, u195, u196, u197, u198, u199, u200, u201, u202, u203, u204, u205, u206, u207, u208, u209, u210, u211, u212, u213, u214, u215, u216, u217, u218, u219], []⟩ w) : (partR Tryd.f73 4).wp Tryd.prog Q ⟨#[u0, u1, u2, u3, u4, u5, u6, u7, u8, u9, .int .i64 (i : Nat), .int .i64 (j : Nat), u12, u13, u14, u15, u16, u17, u18, u19, u20, u21, u22, u23, u24, u25, u26, u27, u28, u29, u30, u31, u32, u33, u34, u35, u36, u37, u38, u39, u40, u41, u42, u43, u44, u45, u46, u47, u48, u49, u50, u51, u52, u53, u54, u55, u56, u57, u58, u59, u60, u61, u62, u63, u64, u65, u66, u67, u68, u69, u70, u71, u72, u73, u74, u75, u76, u77, u78, u79, u80, u81, u82, u83, u84, u85, u86, u87, u88, u89, u90, u91, u92, u93, u94, u95, u96, u97, u98, u99, u100, u101, u102, u103, u104, u105, u106, u107, u108, u109, u110, u111, u112, u113, u114, u115, u116, u117, u118, u119, u120, u121, u122, u123, u124, u125, u126, u127, u128, u129, u130, u131, u132, u133, u134, u135, u136, u137, u138, u139, u140, u141, u142, u143, u144, u145, u146, u147, u148, u149, u150, u151, u152, u153, u154, u155, u156, u157, u158, u159, u160, u161, u162, u163, u164, u165, u166, u167, u168, u169, u170, u171, u172, u173, u174, u175, u176, u177, u178, u179, u180, u181, u182, u183, u184, u185, u186, u187, u188, u189, u190, u191, u192, u193, u194, u195, u196, u197, u198, u199, u200, u201, u202, u203, u204, u205, u206, u207, u208, u209, u210, u211, u212, u213, u214, u215, u216, u217, u218, u219], []⟩ w := by
  have HK := Lib.hid k
  have q1 : (i + j) / 2 ≤ 1000 := by omega
  clear k
  conv => arg 2; whnf
  go_wp2
  exact HK.out _ _ _ _ _ _

set_option maxRecDepth 100000 in
set_option maxHeartbeats 4000000 in
theorem sm_r16 {i j : Nat} (w : World) (Q : Exit → Act → World → Prop) {u0 u1 u2 u3 u4 u5 u6 u7 u8 u9 u10 u11 u12 u13 u16 u17 u18 u19 u20 u21 u22 u23 u24 u25 u26 u27 u28 u29 u30 u31 u32 u33 u34 u35 u36 u37 u38 u39 u40 u41 u42 u43 u44 u45 u46 u47 u48 u49 u50 u51 u52 u53 u54 u55 u56 u57 u58 u59 u60 u61 u62 u63 u64 u65 u66 u67 u68 u69 u70 u71 u72 u73 u74 u75 u76 u77 u78 u79 u80 u81 u82 u83 u84 u85 u86 u87 u88 u89 u90 u91 u92 u93 u94 u95 u96 u97 u98 u99 u100 u101 u102 u103 u104 u105 u106 u107 u108 u109 u110 u111 u112 u113 u114 u115 u116 u117 u118 u119 u120 u121 u122 u123 u124 u125 u126 u127 u128 u129 u130 u131 u132 u133 u134 u135 u136 u137 u138 u139 u140 u141 u142 u143 u144 u145 u146 u147 u148 u149 u150 u151 u152 u153 u154 u155 u156 u157 u158 u159 u160 u161 u162 u163 u164 u165 u166 u167 u168 u169 u170 u171 u172 u173 u174 u175 u176 u177 u178 u179 u180 u181 u182 u183 u184 u185 u186 u187 u188 u189 u190 u191 u192 u193 u194 u195 u196 u197 u198 u199 u200 u201 u202 u203 u204 u205 u206 u207 u208 u209 u210 u211 u212 u213 u214 u215 u216 u217 u218 u219 : Value} (hi : i ≤ 1000) (hj : j ≤ 1000)
    (k : ∀ (v86 v87 v88 v89 v90 v91 : Value), Q .normal ⟨#[u0, u1, u2, u3, u4, u5, u6, u7, u8, u9, u10, u11, u12, u13, .int .i64 (i : Nat), .int .i64 (j : Nat), .int .i64 (((i + j) / 2 : Nat) : Int), u17, u18, u19, u20, u21, u22, u23, u24, u25, u26, u27, u28, u29, u30, u31, u32, u33, u34, u35, u36, u37, u38, u39, u40, u41, u42, u43, u44, u45, u46, u47, u48, u49, u50, u51, u52, u53, u54, u55, u56, u57, u58, u59, u60, u61, u62, u63, u64, u65, u66, u67, u68, u69, u70, u71, u72, u73, u74, u75, u76, u77, u78, u79, u80, u81, u82, u83, u84, u85, v86, v87, v88, v89, v90, v91, u92, u93, u94, u95, u96, u97, u98, u99, u100, u101, u102, u103, u104, u105, u106, u107, u108, u109, u110, u111, u112, u113, u114, u115, u116, u117, u118, u119, u120, u121, u122, u123, u124, u125, u126, u127, u128, u129, u130, u131, u132, u133, u134, u135, u136, u137, u138, u139, u140, u141, u142, u143, u144, u145, u146, u147, u148, u149, u150, u151, u152, u153, u154, u155, u156, u157, u158, u159, u160, u161, u162, u163, u164, u165, u166, u167, u168, u169, u170, u171, u172, u173, u174, u175, u176, u177, u178, u179, u180, u181, u182, u183, u184, u185, u186, u187, u188, u189, u190, u191, u192, u193, u194, u195, u196, u197, u198, u199, u200, u201, u202, u203, u204, u205, u206, u207, u208, u209, u210, u211, u212, u213, u214, u215, u216, u217, u218, u219], []⟩ w) : (partR Tryd.f73 16).wp Tryd.prog Q ⟨#[u0, u1, u2, u3, u4, u5, u6, u7, u8, u9, u10, u11, u12, u13, .int .i64 (i : Nat), .int .i64 (j : Nat), u16, u17, u18, u19, u20, u21, u22, u23, u24, u25, u26, u27, u28, u29, u30, u31, u32, u33, u34, u35, u36, u37, u38, u39, u40, u41, u42, u43, u44, u45, u46, u47, u48, u49, u50, u51, u52, u53, u54, u55, u56, u57, u58, u59, u60, u61, u62, u63, u64, u65, u66, u67, u68, u69, u70, u71, u72, u73, u74, u75, u76, u77, u78, u79, u80, u81, u82, u83, u84, u85, u86, u87, u88, u89, u90, u91, u92, u93, u94, u95, u96, u97, u98, u99, u100, u101, u102, u103, u104, u105, u106, u107, u108, u109, u110, u111, u112, u113, u114, u115, u116, u117, u118, u119, u120, u121, u122, u123, u124, u125, u126, u127, u128, u129, u130, u131, u132, u133, u134, u135, u136, u137, u138, u139, u140, u141, u142, u143, u144, u145, u146, u147, u148, u149, u150, u151, u152, u153, u154, u155, u156, u157, u158, u159, u160, u161, u162, u163, u164, u165, u166, u167, u168, u169, u170, u171, u172, u173, u174, u175, u176, u177, u178, u179, u180, u181, u182, u183, u184, u185, u186, u187, u188, u189, u190, u191, u192, u193, u194, u195, u196, u197, u198, u199, u200, u201, u202, u203, u204, u205, u206, u207, u208, u209, u210, u211, u212, u213, u214, u215, u216, u217, u218, u219], []⟩ w := by
  have HK := Lib.hid k
  have q1 : (i + j) / 2 ≤ 1000 := by omega
  clear k
  conv => arg 2; whnf
  go_wp2
  exact HK.out _ _ _ _ _ _

set_option maxRecDepth 100000 in
set_option maxHeartbeats 4000000 in
theorem sm_r34 {i j : Nat} (w : World) (Q : Exit → Act → World → Prop) {u0 u1 u2 u3 u4 u5 u6 u7 u8 u9 u10 u11 u12 u13 u14 u15 u16 u17 u18 u19 u22 u23 u24 u25 u26 u27 u28 u29 u30 u31 u32 u33 u34 u35 u36 u37 u38 u39 u40 u41 u42 u43 u44 u45 u46 u47 u48 u49 u50 u51 u52 u53 u54 u55 u56 u57 u58 u59 u60 u61 u62 u63 u64 u65 u66 u67 u68 u69 u70 u71 u72 u73 u74 u75 u76 u77 u78 u79 u80 u81 u82 u83 u84 u85 u86 u87 u88 u89 u90 u91 u92 u93 u94 u95 u96 u97 u98 u99 u100 u101 u102 u103 u104 u105 u106 u107 u108 u109 u110 u111 u112 u113 u114 u115 u116 u117 u118 u119 u120 u121 u122 u123 u124 u125 u126 u127 u128 u129 u130 u131 u132 u133 u134 u135 u136 u137 u138 u139 u140 u141 u142 u143 u144 u145 u146 u147 u148 u149 u150 u151 u152 u153 u154 u155 u156 u157 u158 u159 u160 u161 u162 u163 u164 u165 u166 u167 u168 u169 u170 u171 u172 u173 u174 u175 u176 u177 u178 u179 u180 u181 u182 u183 u184 u185 u186 u187 u188 u189 u190 u191 u192 u193 u194 u195 u196 u197 u198 u199 u200 u201 u202 u203 u204 u205 u206 u207 u208 u209 u210 u211 u212 u213 u214 u215 u216 u217 u218 u219 : Value} (hi : i ≤ 1000) (hj : j ≤ 1000)
    (k : ∀ (v152 v153 v154 v155 v156 v157 : Value), Q .normal ⟨#[u0, u1, u2, u3, u4, u5, u6, u7, u8, u9, u10, u11, u12, u13, u14, u15, u16, u17, u18, u19, .int .i64 (i : Nat), .int .i64 (j : Nat), u22, .int .i64 (((i + j) / 2 : Nat) : Int), u24, u25, u26, u27, u28, u29, u30, u31, u32, u33, u34, u35, u36, u37, u38, u39, u40, u41, u42, u43, u44, u45, u46, u47, u48, u49, u50, u51, u52, u53, u54, u55, u56, u57, u58, u59, u60, u61, u62, u63, u64, u65, u66, u67, u68, u69, u70, u71, u72, u73, u74, u75, u76, u77, u78, u79, u80, u81, u82, u83, u84, u85, u86, u87, u88, u89, u90, u91, u92, u93, u94, u95, u96, u97, u98, u99, u100, u101, u102, u103, u104, u105, u106, u107, u108, u109, u110, u111, u112, u113, u114, u115, u116, u117, u118, u119, u120, u121, u122, u123, u124, u125, u126, u127, u128, u129, u130, u131, u132, u133, u134, u135, u136, u137, u138, u139, u140, u141, u142, u143, u144, u145, u146, u147, u148, u149, u150, u151, v152, v153, v154, v155, v156, v157, u158, u159, u160, u161, u162, u163, u164, u165, u166, u167, u168, u169, u170, u171, u172, u173, u174, u175, u176, u177, u178, u179, u180, u181, u182, u183, u184, u185, u186, u187, u188, u189, u190, u191, u192, u193, u194, u195, u196, u197, u198, u199, u200, u201, u202, u203, u204, u205, u206, u207, u208, u209, u210, u211, u212, u213, u214, u215, u216, u217, u218, u219], []⟩ w) : (partR Tryd.f73 34).wp Tryd.prog Q ⟨#[u0, u1, u2, u3, u4, u5, u6, u7, u8, u9, u10, u11, u12, u13, u14, u15, u16, u17, u18, u19, .int .i64 (i : Nat), .int .i64 (j : Nat), u22, u23, u24, u25, u26, u27, u28, u29, u30, u31, u32, u33, u34, u35, u36, u37, u38, u39, u40, u41, u42, u43, u44, u45, u46, u47, u48, u49, u50, u51, u52, u53, u54, u55, u56, u57, u58, u59, u60, u61, u62, u63, u64, u65, u66, u67, u68, u69, u70, u71, u72, u73, u74, u75, u76, u77, u78, u79, u80, u81, u82, u83, u84, u85, u86, u87, u88, u89, u90, u91, u92, u93, u94, u95, u96, u97, u98, u99, u100, u101, u102, u103, u104, u105, u106, u107, u108, u109, u110, u111, u112, u113, u114, u115, u116, u117, u118, u119, u120, u121, u122, u123, u124, u125, u126, u127, u128, u129, u130, u131, u132, u133, u134, u135, u136, u137, u138, u139, u140, u141, u142, u143, u144, u145, u146, u147, u148, u149, u150, u151, u152, u153, u154, u155, u156, u157, u158, u159, u160, u161, u162, u163, u164, u165, u166, u167, u168, u169, u170, u171, u172, u173, u174, u175, u176, u177, u178, u179, u180, u181, u182, u183, u184, u185, u186, u187, u188, u189, u190, u191, u192, u193, u194, u195, u196, u197, u198, u199, u200, u201, u202, u203, u204, u205, u206, u207, u208, u209, u210, u211, u212, u213, u214, u215, u216, u217, u218, u219], []⟩ w := by
  have HK := Lib.hid k
  have q1 : (i + j) / 2 ≤ 1000 := by omega
  clear k
  conv => arg 2; whnf
  go_wp2
  exact HK.out _ _ _ _ _ _

set_option maxRecDepth 100000 in
set_option maxHeartbeats 4000000 in
theorem sm_r24 {i j : Nat} (w : World) (Q : Exit → Act → World → Prop) {u0 u2 u4 u5 u6 u7 u8 u9 u10 u11 u12 u13 u14 u15 u16 u17 u18 u19 u20 u21 u22 u23 u24 u25 u26 u27 u28 u29 u30 u31 u32 u33 u34 u35 u36 u37 u38 u39 u40 u41 u42 u43 u44 u45 u46 u47 u48 u49 u50 u51 u52 u53 u54 u55 u56 u57 u58 u59 u60 u61 u62 u63 u64 u65 u66 u67 u68 u69 u70 u71 u72 u73 u74 u75 u76 u77 u78 u79 u80 u81 u82 u83 u84 u85 u86 u87 u88 u89 u90 u91 u92 u93 u94 u95 u96 u97 u98 u99 u100 u101 u102 u103 u104 u105 u106 u107 u108 u109 u110 u111 u112 u113 u114 u115 u116 u117 u118 u119 u120 u121 u122 u123 u124 u125 u126 u127 u128 u129 u130 u131 u132 u133 u134 u135 u136 u137 u138 u139 u140 u141 u142 u143 u144 u145 u146 u147 u148 u149 u150 u151 u152 u153 u154 u155 u156 u157 u158 u159 u160 u161 u162 u163 u164 u165 u166 u167 u168 u169 u170 u171 u172 u173 u174 u175 u176 u177 u178 u179 u180 u181 u182 u183 u184 u185 u186 u187 u188 u189 u190 u191 u192 u193 u194 u195 u196 u197 u198 u199 u200 u201 u202 u203 u204 u205 u206 u207 u208 u209 u210 u211 u212 u213 u214 u215 u216 u217 u218 u219 : Value} (hi : i ≤ 1000) (hj : j ≤ 1000)
    (k : ∀ (v129 v130 v131 v132 v133 v134 : Value), Q .normal ⟨#[u0, .int .i64 (i : Nat), u2, .int .i64 (j : Nat), u4, u5, u6, u7, u8, u9, u10, u11, u12, u13, u14, u15, u16, u17, .int .i64 (((i + j) / 2 : Nat) : Int), u19, u20, u21, u22, u23, u24, u25, u26, u27, u28, u29, u30, u31, u32, u33, u34, u35, u36, u37, u38, u39, u40, u41, u42, u43, u44, u45, u46, u47, u48, u49, u50, u51, u52, u53, u54, u55, u56, u57, u58, u59, u60, u61, u62, u63, u64, u65, u66, u67, u68, u69, u70, u71, u72, u73, u74, u75, u76, u77, u78, u79, u80, u81, u82, u83, u84, u85, u86, u87, u88, u89, u90, u91, u92, u93, u94, u95, u96, u97, u98, u99, u100, u101, u102, u103, u104, u105, u106, u107, u108, u109, u110, u111, u112, u113, u114, u115, u116, u117, u118, u119, u120, u121, u122, u123, u124, u125, u126, u127, u128, v129, v130, v131, v132, v133, v134, u135, u136, u137, u138, u139, u140, u141, u142, u143, u144, u145, u146, u147, u148, u149, u150, u151, u152, u153, u154, u155, u156, u157, u158, u159, u160, u161, u162, u163, u164, u165, u166, u167, u168, u169, u170, u171, u172, u173, u174, u175, u176, u177, u178, u179, u180, u181, u182, u183, u184, u185, u186, u187, u188, u189, u190, u191, u192, u193, u194, u195, u196, u197, u198, u199, u200, u201, u202, u203, u204, u205, u206, u207, u208, u209, u210, u211, u212, u213, u214, u215, u216, u217, u218, u219], []⟩ w) : (partR Tryd.f73 24).wp Tryd.prog Q ⟨#[u0, .int .i64 (i : Nat), u2, .int .i64 (j : Nat), u4, u5, u6, u7, u8, u9, u10, u11, u12, u13, u14, u15, u16, u17, u18, u19, u20, u21, u22, u23, u24, u25, u26, u27, u28, u29, u30, u31, u32, u33, u34, u35, u36, u37, u38, u39, u40, u41, u42, u43, u44, u45, u46, u47, u48, u49, u50, u51, u52, u53, u54, u55, u56, u57, u58, u59, u60, u61, u62, u63, u64, u65, u66, u67, u68, u69, u70, u71, u72, u73, u74, u75, u76, u77, u78, u79, u80, u81, u82, u83, u84, u85, u86, u87, u88, u89, u90, u91, u92, u93, u94, u95, u96, u97, u98, u99, u100, u101, u102, u103, u104, u105, u106, u107, u108, u109, u110, u111, u112, u113, u114, u115, u116, u117, u118, u119, u120, u121, u122, u123, u124, u125, u126, u127, u128, u129, u130, u131, u132, u133, u134, u135, u136, u137, u138, u139, u140, u141, u142, u143, u144, u145, u146, u147, u148, u149, u150, u151, u152, u153, u154, u155, u156, u157, u158, u159, u160, u161, u162, u163, u164, u165, u166, u167, u168, u169, u170, u171, u172, u173, u174, u175, u176, u177, u178, u179, u180, u181, u182, u183, u184, u185, u186, u187, u188, u189, u190, u191, u192, u193, u194, u195, u196, u197, u198, u199, u200, u201, u202, u203, u204, u205, u206, u207, u208, u209, u210, u211, u212, u213, u214, u215, u216, u217, u218, u219], []⟩ w := by
  have HK := Lib.hid k
  have q1 : (i + j) / 2 ≤ 1000 := by omega
  clear k
  conv => arg 2; whnf
  go_wp2
  exact HK.out _ _ _ _ _ _
end Go.Proofs.YtppoiahhaclleaaDoor

/- A region of the merge by halves. -/
namespace Go.Proofs.YtppoiahhaclleaaDoor
open Go.RowKit


set_option pp.deepTerms true in
set_option pp.maxSteps 1000000 in
set_option maxRecDepth 100000 in
set_option maxHeartbeats 4000000 in
theorem sm_r35 {g n c gb gs m p i : Nat} {sp : List (Int × Int)} {l : List Int} {rest : List Value} (w : World) (Q : Exit → Act → World → Prop) {u1 u2 u3 u5 u6 u7 u8 u9 u10 u11 u12 u13 u14 u15 u16 u17 u18 u19 u20 u21 u24 u25 u26 u27 u28 u29 u30 u31 u32 u33 u34 u35 u36 u37 u38 u39 u40 u41 u42 u43 u44 u45 u46 u47 u48 u49 u50 u51 u52 u53 u54 u55 u56 u57 u58 u59 u60 u61 u62 u63 u64 u65 u66 u67 u68 u69 u70 u71 u72 u73 u74 u75 u76 u77 u78 u79 u80 u81 u82 u83 u84 u85 u86 u87 u88 u89 u90 u91 u92 u93 u94 u95 u96 u97 u98 u99 u100 u101 u102 u103 u104 u105 u106 u107 u108 u109 u110 u111 u112 u113 u114 u115 u116 u117 u118 u119 u120 u121 u122 u123 u124 u125 u126 u127 u128 u129 u130 u131 u132 u133 u134 u135 u136 u137 u138 u139 u140 u141 u142 u143 u144 u145 u146 u147 u148 u149 u150 u151 u152 u153 u154 u155 u156 u157 u158 u159 u160 u161 u162 u163 u164 u165 u166 u167 u168 u169 u170 u171 u172 u173 u174 u175 u176 u177 u178 u179 u180 u181 u182 u183 u184 u185 u186 u187 u188 u189 u190 u191 u192 u193 u194 u195 u196 u197 u198 u199 u200 u201 u202 u203 u204 u205 u206 u207 u208 u209 u210 u211 u212 u213 u214 u215 u216 u217 u218 u219 : Value} (hr : OrdAt w g l rest) (hl : l.length = n) (hk : KeysAt w gb gs m sp) (hm : m ≤ 1000) (hn : n ≤ 1000) (hmem : ∀ x ∈ l, 0 ≤ x ∧ x < (m : Int)) (ha : i ≤ p) (hb : p - i < n) (hi : i < n)
    (k : ∀ (v158 v159 v160 v161 v162 v163 v164 v165 v166 v167 v168 v169 v170 : Value) (w' : World), OrdAt w' g l rest ∧ Below w.heap.size w w' → Q .normal ⟨#[.slice (some ⟨g, 0, none⟩) n c, u1, u2, u3, .func (.func 35) #[] #[.pointer (some ⟨gb, 0, none⟩)], u5, u6, u7, u8, u9, u10, u11, u12, u13, u14, u15, u16, u17, u18, u19, u20, u21, .int .i64 (p : Nat), .int .i64 (i : Nat), u24, u25, u26, u27, u28, u29, u30, u31, u32, u33, u34, u35, u36, u37, u38, u39, u40, u41, u42, u43, u44, u45, u46, u47, u48, u49, u50, u51, u52, u53, u54, u55, u56, u57, u58, u59, u60, u61, u62, u63, u64, u65, u66, u67, u68, u69, u70, u71, u72, u73, u74, u75, u76, u77, u78, u79, u80, u81, u82, u83, u84, u85, u86, u87, u88, u89, u90, u91, u92, u93, u94, u95, u96, u97, u98, u99, u100, u101, u102, u103, u104, u105, u106, u107, u108, u109, u110, u111, u112, u113, u114, u115, u116, u117, u118, u119, u120, u121, u122, u123, u124, u125, u126, u127, u128, u129, u130, u131, u132, u133, u134, u135, u136, u137, u138, u139, u140, u141, u142, u143, u144, u145, u146, u147, u148, u149, u150, u151, u152, u153, u154, u155, u156, u157, v158, v159, v160, v161, v162, v163, v164, v165, v166, v167, v168, v169, v170, .bool (!decide (keyF sp (l.getD (p - i) 0) < keyF sp (l.getD i 0))), u172, u173, u174, u175, u176, u177, u178, u179, u180, u181, u182, u183, u184, u185, u186, u187, u188, u189, u190, u191, u192, u193, u194, u195, u196, u197, u198, u199, u200, u201, u202, u203, u204, u205, u206, u207, u208, u209, u210, u211, u212, u213, u214, u215, u216, u217, u218, u219], []⟩ w') : (partR Tryd.f73 35).wp Tryd.prog Q ⟨#[.slice (some ⟨g, 0, none⟩) n c, u1, u2, u3, .func (.func 35) #[] #[.pointer (some ⟨gb, 0, none⟩)], u5, u6, u7, u8, u9, u10, u11, u12, u13, u14, u15, u16, u17, u18, u19, u20, u21, .int .i64 (p : Nat), .int .i64 (i : Nat), u24, u25, u26, u27, u28, u29, u30, u31, u32, u33, u34, u35, u36, u37, u38, u39, u40, u41, u42, u43, u44, u45, u46, u47, u48, u49, u50, u51, u52, u53, u54, u55, u56, u57, u58, u59, u60, u61, u62, u63, u64, u65, u66, u67, u68, u69, u70, u71, u72, u73, u74, u75, u76, u77, u78, u79, u80, u81, u82, u83, u84, u85, u86, u87, u88, u89, u90, u91, u92, u93, u94, u95, u96, u97, u98, u99, u100, u101, u102, u103, u104, u105, u106, u107, u108, u109, u110, u111, u112, u113, u114, u115, u116, u117, u118, u119, u120, u121, u122, u123, u124, u125, u126, u127, u128, u129, u130, u131, u132, u133, u134, u135, u136, u137, u138, u139, u140, u141, u142, u143, u144, u145, u146, u147, u148, u149, u150, u151, u152, u153, u154, u155, u156, u157, u158, u159, u160, u161, u162, u163, u164, u165, u166, u167, u168, u169, u170, u171, u172, u173, u174, u175, u176, u177, u178, u179, u180, u181, u182, u183, u184, u185, u186, u187, u188, u189, u190, u191, u192, u193, u194, u195, u196, u197, u198, u199, u200, u201, u202, u203, u204, u205, u206, u207, u208, u209, u210, u211, u212, u213, u214, u215, u216, u217, u218, u219], []⟩ w := by
  have HI := Lib.hid hr
  have HK := Lib.hid k
  have HKW := Lib.hid (hk.next (Below.refl _ _).drew)
  obtain ⟨x, hx⟩ : ∃ s, l[p - i]? = some s := ⟨_, List.getElem?_eq_getElem (by omega)⟩
  obtain ⟨y, hy⟩ : ∃ s, l[i]? = some s := ⟨_, List.getElem?_eq_getElem (by omega)⟩
  have mx := hmem x (List.mem_of_getElem? hx)
  have my := hmem y (List.mem_of_getElem? hy)
  have gx : l.getD (p - i) 0 = x := by rw [List.getD_eq_getElem?_getD, hx]; rfl
  have gy : l.getD (i) 0 = y := by rw [List.getD_eq_getElem?_getD, hy]; rfl
  rw [gx, gy] at HK
  have HC := cmp_any x y w.drew HKW.out hm mx.1 mx.2 my.1 my.2
  obtain ⟨q, hq⟩ : ∃ q, Lib.compareInt (keyF sp x) (keyF sp y) = q := ⟨_, rfl⟩
  have hlt : decide (q < 0) = decide (keyF sp x < keyF sp y) := by rw [← hq]; exact cmp_lt _ _
  rw [← hlt] at HK
  rw [hq] at HC
  have HCM := Lib.hid HC
  obtain ⟨iN, hiN⟩ : ∃ q, q = p - i := ⟨_, rfl⟩
  obtain ⟨jN, hjN⟩ : ∃ q, q = i := ⟨_, rfl⟩
  have ei : ((iN : Int)).toNat = iN := by omega
  have pi : (0 : Int) ≤ (iN : Int) := by omega
  have bi : (iN : Int) < (n : Int) := by omega
  have ri : IntKind.i64.wrap ((iN : Int)) = (iN : Int) := by rw [IntKind.wrap_i64]; omega
  have ej : ((i : Int)).toNat = jN := by omega
  have pj : (0 : Int) ≤ (i : Int) := by omega
  have bj : (i : Int) < (n : Int) := by omega
  have rj : IntKind.i64.wrap ((i : Int)) = (i : Int) := by rw [IntKind.wrap_i64]; omega
  have hpi2 : ((p : Int) - (i : Int)) = (iN : Int) := by omega
  have HX := Lib.hid (And.intro hx hy)
  rw [← hiN, ← hjN] at HX
  clear hr hl k hk hmem hx hy hiN hjN mx my gx gy HC hq hlt hb hi
  conv => arg 2; whnf
  go_wp2_with fail
  (refine wp_region_lines (fun w_ => OrdAt w_ g l rest) (by kernel_rfl) (by kernel_rfl) (HI.out.next (Below.refl _ _).drew) ?_)
  (try simp only [])
  repeat (first | (refine runL_no (by rfl) ?_; (try simp only [Act.put, List.setIfInBounds_toArray, List.set_cons_zero, List.set_cons_succ])) | (refine runL_val (v := ?_) (by rfl) ?_ ?_; rotate_left; (focus (intro w_ hw_; have f1_ := hw_.cell HX.out.1; have f2_ := hw_.cell HX.out.2; go_simp; (try with_reducible rfl); done)); (try simp only [Act.put, List.setIfInBounds_toArray, List.set_cons_zero, List.set_cons_succ])) | (refine runL_call (f := ?_) (args := ?_) (w1 := ?_) (by rfl) (by rfl) ?_ ?_; rotate_left 3; (focus (go_simp; refine ⟨⟨?_, ?_⟩, ?_⟩ <;> with_reducible rfl)); (with_reducible refine (HCM.out).mono ?_); rintro e w1 ⟨rfl, hb⟩; have HB6 := Lib.hid ((Below.refl w.heap.size w).drew.trans hb); clear hb; refine ⟨_, rfl, .inr (HI.out.next HB6.out), ?_⟩; (try simp only [Act.put, List.setIfInBounds_toArray, List.set_cons_zero, List.set_cons_succ])))
  (refine runL_nil ?_)
  exact HK.out _ _ _ _ _ _ _ _ _ _ _ _ _ _ ⟨HI.out.next HB6.out, HB6.out⟩
end Go.Proofs.YtppoiahhaclleaaDoor

/- Sorting by insertion and by merging, plain: what stays, what is sorted. -/
namespace Go.Proofs.YtppoiahhaclleaaDoor
open Go.RowKit

/-- In order by a key. -/
def Srt (key : Int → Int) (l : List Int) : Prop := l.Pairwise fun x y => key x ≤ key y
theorem srt_app {key : Int → Int} {a b : List Int} : Srt key (a ++ b) ↔ Srt key a ∧ Srt key b ∧ ∀ x ∈ a, ∀ y ∈ b, key x ≤ key y := List.pairwise_append
theorem swap_app (A M B : List Int) (s t : Int) : swapL (A ++ s :: (M ++ t :: B)) A.length (A.length + 1 + M.length) = A ++ t :: (M ++ s :: B) := by
  unfold swapL
  have h1 : (A ++ s :: (M ++ t :: B)).getD (A.length + 1 + M.length) 0 = t := by
    rw [List.getD_eq_getElem?_getD, List.getElem?_append_right (by omega), show A.length + 1 + M.length - A.length = M.length + 1 by omega, List.getElem?_cons_succ, List.getElem?_append_right (Nat.le_refl _), Nat.sub_self]; rfl
  have h2 : (A ++ s :: (M ++ t :: B)).getD A.length 0 = s := by
    rw [List.getD_eq_getElem?_getD, List.getElem?_append_right (Nat.le_refl _), Nat.sub_self]; rfl
  rw [h1, h2, List.set_append_right _ _ (Nat.le_refl _), Nat.sub_self, List.set_cons_zero, List.set_append_right _ _ (by omega), show A.length + 1 + M.length - A.length = M.length + 1 by omega, List.set_cons_succ, List.set_append_right _ _ (Nat.le_refl _), Nat.sub_self, List.set_cons_zero]
theorem swap_app' (A M B : List Int) (s t : Int) : swapL (A ++ s :: (M ++ t :: B)) (A.length + 1 + M.length) A.length = A ++ t :: (M ++ s :: B) := by
  unfold swapL
  have h1 : (A ++ s :: (M ++ t :: B)).getD (A.length + 1 + M.length) 0 = t := by
    rw [List.getD_eq_getElem?_getD, List.getElem?_append_right (by omega), show A.length + 1 + M.length - A.length = M.length + 1 by omega, List.getElem?_cons_succ, List.getElem?_append_right (Nat.le_refl _), Nat.sub_self]; rfl
  have h2 : (A ++ s :: (M ++ t :: B)).getD A.length 0 = s := by
    rw [List.getD_eq_getElem?_getD, List.getElem?_append_right (Nat.le_refl _), Nat.sub_self]; rfl
  rw [h1, h2, List.set_append_right _ _ (by omega), show A.length + 1 + M.length - A.length = M.length + 1 by omega, List.set_cons_succ, List.set_append_right _ _ (Nat.le_refl _), Nat.sub_self, List.set_cons_zero, List.set_append_right _ _ (Nat.le_refl _), Nat.sub_self, List.set_cons_zero]

/-- Let one sink: it is put in its place. -/
theorem sift_app (key : Int → Int) (x : List Int) (t : Int) : ∀ (m : Nat) (p y : List Int), p.length = m → Srt key p →
    ∃ s, s.Perm (p ++ [t]) ∧ Srt key s ∧ siftF key x.length (x ++ p ++ t :: y) (x.length + m) = x ++ s ++ y := by
  intro m
  induction m with
  | zero =>
    intro p y hp hs
    obtain rfl := List.eq_nil_of_length_eq_zero hp
    exact ⟨[t], List.Perm.refl _, List.pairwise_singleton _ _, by rw [Nat.add_zero, siftF_end (by omega)]; simp⟩
  | succ m ih =>
    intro p y hp hs
    obtain ⟨p', q, rfl⟩ : ∃ p' q, p = p' ++ [q] := ⟨p.dropLast, p.getLast (by intro e; rw [e] at hp; cases hp), (List.dropLast_concat_getLast _).symm⟩
    have hp' : p'.length = m := by simpa using hp
    have hl : x ++ (p' ++ [q]) ++ t :: y = (x ++ p') ++ q :: ([] ++ t :: y) := by simp
    have hxl : (x ++ p').length = x.length + m := by simp [hp']
    have hx1 : (x ++ (p' ++ [q]) ++ t :: y)[x.length + m + 1]? = some t := by
      rw [hl, List.getElem?_append_right (by omega), hxl, show x.length + m + 1 - (x.length + m) = 1 by omega]; rfl
    have hy1 : (x ++ (p' ++ [q]) ++ t :: y)[x.length + m]? = some q := by
      rw [hl, List.getElem?_append_right (by omega), hxl, Nat.sub_self]; rfl
    have hs' := srt_app.1 hs
    by_cases hlt : key t < key q
    · obtain ⟨s, h1, h2, h3⟩ := ih p' (q :: y) hp' hs'.1
      refine ⟨s ++ [q], ?_, ?_, ?_⟩
      · refine (h1.append_right [q]).trans ?_
        simp only [List.append_assoc]
        exact List.Perm.append_left p' (List.Perm.swap _ _ _)
      · refine srt_app.2 ⟨h2, List.pairwise_singleton _ _, fun a ha b hb => ?_⟩
        obtain rfl := List.mem_singleton.1 hb
        rcases List.mem_append.1 (h1.mem_iff.1 ha) with h | h
        · exact hs'.2.2 a h b (List.mem_singleton.2 rfl)
        · obtain rfl := List.mem_singleton.1 h
          omega
      · rw [show x.length + (m + 1) = x.length + m + 1 by omega, siftF_go (by omega) hx1 hy1 hlt, hl]
        have := swap_app' (x ++ p') [] y q t
        rw [hxl] at this
        simp only [List.length_nil, Nat.add_zero] at this
        rw [this]
        have h4 : x ++ p' ++ t :: ([] ++ q :: y) = x ++ p' ++ t :: (q :: y) := by simp
        rw [h4, h3]
        simp
    · refine ⟨(p' ++ [q]) ++ [t], List.Perm.refl _, srt_app.2 ⟨hs, List.pairwise_singleton _ _, fun a ha b hb => ?_⟩, ?_⟩
      · obtain rfl := List.mem_singleton.1 hb
        rcases List.mem_append.1 ha with h | h
        · have := hs'.2.2 a h q (List.mem_singleton.2 rfl); omega
        · obtain rfl := List.mem_singleton.1 h; omega
      · rw [show x.length + (m + 1) = x.length + m + 1 by omega, siftF_no hx1 hy1 hlt]
        simp
theorem ins_app (key : Int → Int) (x y : List Int) : ∀ (m : Nat) (p r : List Int), r.length = m → Srt key p →
    ∃ s, s.Perm (p ++ r) ∧ Srt key s ∧ insF key x.length m (x.length + p.length) (x ++ p ++ r ++ y) = x ++ s ++ y := by
  intro m
  induction m with
  | zero =>
    intro p r hr hs
    obtain rfl := List.eq_nil_of_length_eq_zero hr
    exact ⟨p, by simp, hs, by rw [insF]; simp⟩
  | succ m ih =>
    intro p r hr hs
    obtain ⟨t, r', rfl⟩ : ∃ t r', r = t :: r' := by
      cases r with
      | nil => cases hr
      | cons t r' => exact ⟨t, r', rfl⟩
    obtain ⟨s, h1, h2, h3⟩ := sift_app key x t p.length p (r' ++ y) rfl hs
    obtain ⟨s', g1, g2, g3⟩ := ih s r' (by simpa using hr) h2
    refine ⟨s', ?_, g2, ?_⟩
    · refine g1.trans ((h1.append_right r').trans ?_)
      simp
    · rw [insF]
      have e1 : x ++ p ++ t :: r' ++ y = x ++ p ++ t :: (r' ++ y) := by simp
      have e2 : x.length + p.length + 1 = x.length + s.length := by rw [h1.length_eq]; simp; omega
      rw [e1, h3, e2]
      have e3 : x ++ s ++ (r' ++ y) = x ++ s ++ r' ++ y := by simp
      rw [e3, g3]
/-- The insertion sort of a part. -/
theorem ins_part (key : Int → Int) (x s y : List Int) : ∃ s', s'.Perm s ∧ Srt key s' ∧ insF key x.length (s.length - 1) (x.length + 1) (x ++ s ++ y) = x ++ s' ++ y := by
  cases s with
  | nil => exact ⟨[], List.Perm.refl _, List.Pairwise.nil, by simp [insF]⟩
  | cons t s =>
    obtain ⟨s', h1, h2, h3⟩ := ins_app key x y s.length [t] s rfl (List.pairwise_singleton _ _)
    refine ⟨s', h1, h2, ?_⟩
    have e : x ++ [t] ++ s ++ y = x ++ t :: s ++ y := by simp
    rw [e] at h3
    exact h3

/-- Two rows merged by halves. -/
theorem merge_sorted {key : Int → Int} {u1 u2 v1 v2 s1 s2 : List Int} (h1 : s1.Perm (u1 ++ v1)) (h2 : s2.Perm (u2 ++ v2)) (c1 : Srt key u1 → Srt key v1 → Srt key s1) (c2 : Srt key u2 → Srt key v2 → Srt key s2)
    (hu : Srt key (u1 ++ u2)) (hv : Srt key (v1 ++ v2)) (huv : ∀ x ∈ u1, ∀ y ∈ v2, key x ≤ key y) (hvu : ∀ x ∈ v1, ∀ y ∈ u2, key x ≤ key y) : Srt key (s1 ++ s2) := by
  have a := srt_app.1 hu
  have b := srt_app.1 hv
  refine srt_app.2 ⟨c1 a.1 b.1, c2 a.2.1 b.2.1, fun x hx y hy => ?_⟩
  rcases List.mem_append.1 (h1.mem_iff.1 hx) with h | h <;> rcases List.mem_append.1 (h2.mem_iff.1 hy) with g | g
  · exact a.2.2 x h y g
  · exact huv x h y g
  · exact hvu x h y g
  · exact b.2.2 x h y g
theorem merge_perm {u1 u2 v1 v2 s1 s2 : List Int} (h1 : s1.Perm (u1 ++ v1)) (h2 : s2.Perm (u2 ++ v2)) : (s1 ++ s2).Perm ((u1 ++ u2) ++ (v1 ++ v2)) := by
  refine (h1.append h2).trans ?_
  rw [List.append_assoc, List.append_assoc]
  refine List.Perm.append_left u1 ?_
  rw [← List.append_assoc, ← List.append_assoc]
  exact (List.perm_append_comm).append_right v2
/-- The last of one not above the first of another: all are. -/
theorem cross_le {key : Int → Int} {a b : List Int} (ha : Srt key a) (hb : Srt key b) (h : a = [] ∨ b = [] ∨ ∃ x y, a.getLast? = some x ∧ b.head? = some y ∧ key x ≤ key y) : ∀ x ∈ a, ∀ y ∈ b, key x ≤ key y := by
  intro p hp q hq
  rcases h with rfl | rfl | ⟨x, y, h1, h2, h3⟩
  · cases hp
  · cases hq
  · obtain ⟨a', rfl⟩ := List.getLast?_eq_some_iff.1 h1
    obtain ⟨b', rfl⟩ := List.head?_eq_some_iff.1 h2
    have e1 : key p ≤ key x := by
      rcases List.mem_append.1 hp with h | h
      · exact (srt_app.1 ha).2.2 p h x (List.mem_singleton.2 rfl)
      · rw [List.mem_singleton.1 h]; exact Int.le_refl _
    have e2 : key y ≤ key q := by
      rcases List.mem_cons.1 hq with h | h
      · rw [h]; exact Int.le_refl _
      · exact (List.pairwise_cons.1 hb).1 q h
    omega
end Go.Proofs.YtppoiahhaclleaaDoor

/- slices.swapRangeCmpFunc, rotateCmpFunc of ints: rows change places. -/
namespace Go.Proofs.YtppoiahhaclleaaDoor
open Go.RowKit

/-- So far exchanged. -/
def swr (A U M V B : List Int) (k : Nat) : List Int := A ++ V.take k ++ U.drop k ++ M ++ U.take k ++ V.drop k ++ B
theorem swr_zero (A U M V B : List Int) : swr A U M V B 0 = A ++ U ++ M ++ V ++ B := by simp [swr]
theorem swr_all {A U M V B : List Int} (h : U.length = V.length) : swr A U M V B U.length = A ++ V ++ M ++ U ++ B := by
  unfold swr
  rw [List.take_of_length_le (l := V) (by omega), List.drop_of_length_le (l := U) (Nat.le_refl _), List.take_of_length_le (l := U) (Nat.le_refl _), List.drop_of_length_le (l := V) (by omega)]
  simp
theorem swr_len (A U M V B : List Int) (k : Nat) (h : U.length = V.length) : (swr A U M V B k).length = A.length + U.length + M.length + V.length + B.length := by
  simp only [swr, List.length_append, List.length_take, List.length_drop]; omega
theorem swr_step {A U M V B : List Int} {k : Nat} (h : U.length = V.length) (hk : k < U.length) : swapL (swr A U M V B k) (A.length + k) (A.length + U.length + M.length + k) = swr A U M V B (k + 1) := by
  obtain ⟨s, hs⟩ : ∃ s, U[k]? = some s := ⟨_, List.getElem?_eq_getElem hk⟩
  obtain ⟨t, ht⟩ : ∃ s, V[k]? = some s := ⟨_, List.getElem?_eq_getElem (by omega)⟩
  have e1 : U.drop k = s :: U.drop (k + 1) := by rw [List.drop_eq_getElem_cons hk, (List.getElem?_eq_some_iff.1 hs).2]
  have e2 : V.drop k = t :: V.drop (k + 1) := by rw [List.drop_eq_getElem_cons (by omega), (List.getElem?_eq_some_iff.1 ht).2]
  have e3 : U.take (k + 1) = U.take k ++ [s] := by rw [List.take_add_one, hs]; rfl
  have e4 : V.take (k + 1) = V.take k ++ [t] := by rw [List.take_add_one, ht]; rfl
  have h1 := swap_app (A ++ V.take k) (U.drop (k + 1) ++ M ++ U.take k) (V.drop (k + 1) ++ B) s t
  have l1 : (A ++ V.take k).length = A.length + k := by rw [List.length_append, List.length_take]; omega
  have l2 : (A ++ V.take k).length + 1 + (U.drop (k + 1) ++ M ++ U.take k).length = A.length + U.length + M.length + k := by
    simp only [List.length_append, List.length_take, List.length_drop]; omega
  rw [l2, l1] at h1
  have a1 : swr A U M V B k = (A ++ V.take k) ++ s :: ((U.drop (k + 1) ++ M ++ U.take k) ++ t :: (V.drop (k + 1) ++ B)) := by
    unfold swr; rw [e1, e2]; simp
  have a2 : swr A U M V B (k + 1) = (A ++ V.take k) ++ t :: ((U.drop (k + 1) ++ M ++ U.take k) ++ s :: (V.drop (k + 1) ++ B)) := by
    unfold swr; rw [e3, e4]; simp
  rw [a1, h1, a2]

set_option maxRecDepth 100000 in
set_option maxHeartbeats 4000000 in
theorem swapRange_any {g n c a b k0 : Nat} {A U M V B : List Int} {rest : List Value} {fv : Value} (w : World) (hr : OrdAt w g (A ++ U ++ M ++ V ++ B) rest) (hl : (A ++ U ++ M ++ V ++ B).length = n) (hn : n ≤ 1000) (hUV : U.length = V.length) (ha : A.length = a) (hb : A.length + U.length + M.length = b) (hk0 : U.length = k0) :
    Calls Tryd.prog 98 #[.slice (some ⟨g, 0, none⟩) n c, .int .i64 a, .int .i64 b, .int .i64 k0, fv] w fun e w' => e = .returned (.tuple #[]) ∧ OrdAt w' g (A ++ V ++ M ++ U ++ B) rest ∧ Chg (fun k => k = g) w w' := by
  have hlen : A.length + U.length + M.length + V.length + B.length = n := by simpa [Nat.add_assoc] using hl
  have HS := Lib.hid (fun k => swr_len A U M V B k hUV)
  have HI := Lib.hid (show OrdAt w g (swr A U M V B 0) rest by rw [swr_zero]; exact hr)
  have HF := Lib.hid (show swr A U M V B k0 = A ++ V ++ M ++ U ++ B by rw [← hk0]; exact swr_all hUV)
  have HT := Lib.hid (fun k (hk : k < U.length) => swr_step (A := A) (M := M) (B := B) hUV hk)
  have HA := Lib.hid (And.intro hlen (And.intro ha (And.intro hb (And.intro hk0 hUV))))
  have hk1 : k0 ≤ 1000 := by omega
  clear hr hl hUV ha hb hk0 hlen
  go_enter Tryd.func98, Tryd.ntmps98
  go_wp2
  go_loopw [10] (fun vi wr => ∃ (k : Nat), vi = .int .i64 k ∧ k ≤ k0 ∧ Hid (OrdAt wr g (swr A U M V B k) rest ∧ Chg (fun k => k = g) w wr)) (fun vi _ => k0 - (intOf vi).toNat)
  case atStart => exact ⟨0, rfl, Nat.zero_le _, Lib.hid ⟨HI.out, Chg.refl _ _⟩⟩
  case round =>
    clear HI
    obtain ⟨k, rfl, hk, HJ⟩ := hrel
    by_cases hlt : k < k0
    · go_upto_region 3 with fail
      refine wp_code (c := partR Tryd.f98 3) (by kernel_rfl) ?_
      refine sw_r3 (a := a) (b := b) (i := k) (l := swr A U M V B k) (rest := rest) _ _ HJ.out.1 (by have := HS.out k; have := HA.out; omega) hn (by have := HA.out; omega) (by have := HA.out; omega) ?_
      intro v16 v17 v18 v19 v20 v21 v22 v23 v24 v25 v26 v27 v28 v29 v30 v31 v32 v33 v34 v35 v36 v37 w2 h2
      have H2 := Lib.hid h2
      clear h2
      go_wp2
      go_roundw
      case rel => exact ⟨k + 1, by go_num, by omega, Lib.hid ⟨by rw [← HT.out k (by have := HA.out; omega), HA.out.2.1, ← HA.out.2.1, HA.out.2.2.1, HA.out.2.1]; exact H2.out.1, HJ.out.2.trans H2.out.2⟩⟩
      case measure => simp [intOf]; omega
    · have HK := Lib.hid (show k = k0 by omega)
      go_wp2
      refine bodyPost_end (v := .tuple #[]) (results_none rfl _ _ _) rfl ?_
      exact ⟨rfl, by rw [← HF.out, ← HK.out]; exact HJ.out.1, HJ.out.2⟩

set_option maxRecDepth 100000 in
set_option maxHeartbeats 8000000 in
theorem rotate_any {g n c a m b : Nat} {x u v y : List Int} {rest : List Value} {fv : Value} (w : World) (hr : OrdAt w g (x ++ u ++ v ++ y) rest) (hl : (x ++ u ++ v ++ y).length = n) (hn : n ≤ 1000) (ha : x.length = a) (hm : x.length + u.length = m) (hb : x.length + u.length + v.length = b) (hu : 0 < u.length) (hv : 0 < v.length) :
    Calls Tryd.prog 85 #[.slice (some ⟨g, 0, none⟩) n c, .int .i64 a, .int .i64 m, .int .i64 b, fv] w fun e w' => e = .returned (.tuple #[]) ∧ OrdAt w' g (x ++ v ++ u ++ y) rest ∧ Chg (fun k => k = g) w w' := by
  obtain ⟨lu, hlu⟩ : ∃ q, u.length = q := ⟨_, rfl⟩
  obtain ⟨lv, hlv⟩ : ∃ q, v.length = q := ⟨_, rfl⟩
  have hlen : a + lu + lv + y.length = n := by have : (x ++ u ++ v ++ y).length = x.length + u.length + v.length + y.length := by simp [Nat.add_assoc]
                                               omega
  have e1 : (m : Int) - (a : Int) = (lu : Int) := by omega
  have e2 : (b : Int) - (m : Int) = (lv : Int) := by omega
  have hm1 : m ≤ 1000 := by omega
  have hl1 : lu ≤ 1000 := by omega
  have hl2 : lv ≤ 1000 := by omega
  have HI := Lib.hid hr
  have HA := Lib.hid (And.intro hlen (And.intro ha (And.intro hm (And.intro hb (And.intro hlu hlv)))))
  have HP := Lib.hid (And.intro hu hv)
  clear hr hl hlu hlv ha hm hb hu hv hlen
  go_enter Tryd.func85, Tryd.ntmps85
  go_wp2
  clear e1 e2
  go_loopw [10, 11] (fun vi vj wr => ∃ (i j : Nat) (X U V Y : List Int), vi = .int .i64 i ∧ vj = .int .i64 j ∧ Hid (U.length = i ∧ V.length = j ∧ X.length + i = m ∧ 0 < i ∧ 0 < j ∧ X.length + i + j + Y.length = n ∧ OrdAt wr g (X ++ U ++ V ++ Y) rest ∧ X ++ V ++ U ++ Y = x ++ v ++ u ++ y ∧ Chg (fun k => k = g) w wr)) (fun vi vj _ => (intOf vi).toNat + (intOf vj).toNat)
  case atStart => exact ⟨lu, lv, x, u, v, y, rfl, rfl, Lib.hid ⟨HA.out.2.2.2.2.1, HA.out.2.2.2.2.2, by have := HA.out; omega, by have := HA.out; have := HP.out; omega, by have := HA.out; have := HP.out; omega, by have := HA.out; omega, HI.out, rfl, Chg.refl _ _⟩⟩
  case round =>
    clear HI HA HP
    obtain ⟨i, j, X, U, V, Y, rfl, rfl, HJ⟩ := hrel
    obtain ⟨lx, hlx⟩ : ∃ q, X.length = q := ⟨_, rfl⟩
    have z1 : (m : Int) - (i : Int) = (lx : Int) := by have := HJ.out; omega
    have hi1 : i ≤ 1000 := by have := HJ.out; omega
    have hj1 : j ≤ 1000 := by have := HJ.out; omega
    have hx1 : lx ≤ 1000 := by have := HJ.out; omega
    have HLX := Lib.hid hlx
    clear hlx
    by_cases heq : i = j
    · have hq : ((i : Int) != (j : Int)) = false := by rw [bne_eq_false_iff_eq]; omega
      have HC := Lib.hid (swapRange_any (g := g) (n := n) (c := c) (a := lx) (b := m) (k0 := i) (A := X) (U := U) (M := []) (V := V) (B := Y) (rest := rest) (fv := fv) wr (by simpa using HJ.out.2.2.2.2.2.2.1) (by have := HJ.out; have := HLX.out; simp only [List.length_append, List.length_nil]; omega) hn (by have := HJ.out; omega) HLX.out (by have := HJ.out; simp only [List.length_nil]; omega) HJ.out.1)
      clear heq
      go_wp2_with ((with_reducible refine (HC.out).mono ?_); rintro e w2 ⟨rfl, h1, h2⟩; have H2 := Lib.hid (And.intro h1 h2); clear h1 h2)
      refine bodyPost_end (v := .tuple #[]) (results_none rfl _ _ _) rfl ?_
      exact ⟨rfl, by rw [← HJ.out.2.2.2.2.2.2.2.1]; simpa using H2.out.1, HJ.out.2.2.2.2.2.2.2.2.trans H2.out.2⟩
    have hq : ((i : Int) != (j : Int)) = true := by simp; omega
    by_cases hgt : j < i
    · have hd : decide (j < i) = true := decide_eq_true hgt
      have HC := Lib.hid (swapRange_any (g := g) (n := n) (c := c) (a := lx) (b := m) (k0 := j) (A := X) (U := U.take j) (M := U.drop j) (V := V) (B := Y) (rest := rest) (fv := fv) wr (by have := HJ.out.2.2.2.2.2.2.1; rw [List.append_assoc X, List.take_append_drop]; exact this) (by have := HJ.out; have := HLX.out; simp only [List.length_append, List.length_take, List.length_drop]; omega) hn (by have := HJ.out; rw [List.length_take]; omega) HLX.out (by have := HJ.out; rw [List.length_take, List.length_drop]; omega) (by have := HJ.out; rw [List.length_take]; omega))
      have HG := Lib.hid hgt
      clear heq hgt
      go_wp2_with ((with_reducible refine (HC.out).mono ?_); rintro e w2 ⟨rfl, h1, h2⟩; have H2 := Lib.hid (And.intro h1 h2); clear h1 h2)
      go_roundw
      case rel => exact ⟨i - j, j, X ++ V, U.drop j, U.take j, Y, by have := HG.out; first | go_num | (congr 1; omega), rfl, Lib.hid ⟨by have := HJ.out; rw [List.length_drop]; omega, by have := HJ.out; have := HG.out; rw [List.length_take]; omega, by have := HJ.out; have := HG.out; rw [List.length_append]; omega, by have := HG.out; omega, HJ.out.2.2.2.2.1, by have := HJ.out; have := HG.out; rw [List.length_append]; omega, by have := H2.out.1; simpa using this, by have h := HJ.out.2.2.2.2.2.2.2.1; rw [← h, List.append_assoc (X ++ V), List.take_append_drop], HJ.out.2.2.2.2.2.2.2.2.trans H2.out.2⟩⟩
      case measure => have := HG.out; have := HJ.out.2.2.2.2.1; simp [intOf]; omega
    · have hd : decide (j < i) = false := decide_eq_false hgt
      obtain ⟨lb, hlb⟩ : ∃ q, m + j - i = q := ⟨_, rfl⟩
      have z2 : (m : Int) + (j : Int) - (i : Int) = (lb : Int) := by have := HJ.out; omega
      have hb1 : lb ≤ 1000 := by have := HJ.out; omega
      have HC := Lib.hid (swapRange_any (g := g) (n := n) (c := c) (a := lx) (b := lb) (k0 := i) (A := X) (U := U) (M := V.take (j - i)) (V := V.drop (j - i)) (B := Y) (rest := rest) (fv := fv) wr (by have := HJ.out.2.2.2.2.2.2.1; rw [List.append_assoc (X ++ U), List.take_append_drop]; exact this) (by have := HJ.out; have := HLX.out; simp only [List.length_append, List.length_take, List.length_drop]; omega) hn (by have := HJ.out; rw [List.length_drop]; omega) HLX.out (by have := HJ.out; rw [List.length_take]; omega) HJ.out.1)
      have HG := Lib.hid (show i < j by omega)
      clear heq hgt hlb
      go_wp2_with ((with_reducible refine (HC.out).mono ?_); rintro e w2 ⟨rfl, h1, h2⟩; have H2 := Lib.hid (And.intro h1 h2); clear h1 h2)
      go_roundw
      case rel => exact ⟨i, j - i, X, V.drop (j - i), V.take (j - i), U ++ Y, rfl, by have := HG.out; first | go_num | (congr 1; omega), Lib.hid ⟨by have := HJ.out; have := HG.out; rw [List.length_drop]; omega, by have := HJ.out; have := HG.out; rw [List.length_take]; omega, HJ.out.2.2.1, HJ.out.2.2.2.1, by have := HG.out; omega, by have := HJ.out; have := HG.out; rw [List.length_append]; omega, by have := H2.out.1; simpa using this, by have h := HJ.out.2.2.2.2.2.2.2.1; rw [← h, ← List.append_assoc, List.append_assoc X, List.take_append_drop], HJ.out.2.2.2.2.2.2.2.2.trans H2.out.2⟩⟩
      case measure => have := HG.out; have := HJ.out.2.2.2.1; simp [intOf]; omega
end Go.Proofs.YtppoiahhaclleaaDoor

/- The loops of the merge by halves. -/
namespace Go.Proofs.YtppoiahhaclleaaDoor
open Go.RowKit

/-- A search by halves: all ahead of i goes right, what is at j does not. -/
structure BS (T : Nat → Bool) (lo hi i j : Nat) : Prop where
  lo_ : lo ≤ i
  le : i ≤ j
  hi_ : j ≤ hi
  right_ : i = lo ∨ T (i - 1) = true
  left_ : j = hi ∨ T j = false
theorem BS.start (T : Nat → Bool) {lo hi : Nat} (h : lo ≤ hi) : BS T lo hi lo hi := ⟨Nat.le_refl _, h, Nat.le_refl _, .inl rfl, .inl rfl⟩
theorem BS.right {T : Nat → Bool} {lo hi i j h : Nat} (b : BS T lo hi i j) (h1 : i ≤ h) (h2 : h < j) (ht : T h = true) : BS T lo hi (h + 1) j := ⟨by have := b.lo_; omega, by omega, b.hi_, .inr (by rw [Nat.add_sub_cancel]; exact ht), b.left_⟩
theorem BS.left {T : Nat → Bool} {lo hi i j h : Nat} (b : BS T lo hi i j) (h1 : i ≤ h) (h2 : h < j) (ht : T h = false) : BS T lo hi i h := ⟨b.lo_, h1, by have := b.hi_; omega, b.right_, .inr ht⟩

set_option maxRecDepth 100000 in
set_option maxHeartbeats 8000000 in
theorem sm_l0 {g n c gb gs m0 a lo hi : Nat} {sp : List (Int × Int)} {l : List Int} {rest : List Value} (w : World) (Q : Exit → Act → World → Prop) {u2 u3 u5 u6 u7 u8 u9 u12 u13 u14 u15 u16 u17 u18 u19 u20 u21 u22 u23 u24 u25 u26 u27 u28 u29 u30 u31 u32 u33 u34 u35 u36 u37 u38 u39 u40 u41 u42 u43 u44 u45 u46 u47 u48 u49 u50 u51 u52 u53 u54 u55 u56 u57 u58 u59 u60 u61 u62 u63 u64 u65 u66 u67 u68 u69 u70 u71 u72 u73 u74 u75 u76 u77 u78 u79 u80 u81 u82 u83 u84 u85 u86 u87 u88 u89 u90 u91 u92 u93 u94 u95 u96 u97 u98 u99 u100 u101 u102 u103 u104 u105 u106 u107 u108 u109 u110 u111 u112 u113 u114 u115 u116 u117 u118 u119 u120 u121 u122 u123 u124 u125 u126 u127 u128 u129 u130 u131 u132 u133 u134 u135 u136 u137 u138 u139 u140 u141 u142 u143 u144 u145 u146 u147 u148 u149 u150 u151 u152 u153 u154 u155 u156 u157 u158 u159 u160 u161 u162 u163 u164 u165 u166 u167 u168 u169 u170 u171 u172 u173 u174 u175 u176 u177 u178 u179 u180 u181 u182 u183 u184 u185 u186 u187 u188 u189 u190 u191 u192 u193 u194 u195 u196 u197 u198 u199 u200 u201 u202 u203 u204 u205 u206 u207 u208 u209 u210 u211 u212 u213 u214 u215 u216 u217 u218 u219 : Value} (hr : OrdAt w g l rest) (hl : l.length = n) (hn : n ≤ 1000) (hk : KeysAt w gb gs m0 sp) (hm0 : m0 ≤ 1000) (hmem : ∀ x ∈ l, 0 ≤ x ∧ x < (m0 : Int)) (ha : a < n) (hlo : lo ≤ hi) (hhi : hi ≤ n)
    (k1 : ∀ (q : Nat), BS (fun q => decide (keyF sp (l.getD q 0) < keyF sp (l.getD a 0))) (lo) (hi) q q → ∀ (v11 v12 v31 v32 v33 v34 v35 v36 v37 v38 v39 v40 v41 v42 v43 v44 v45 v46 v47 v48 v49 v50 v51 v52 v53 : Value) (w' : World), OrdAt w' g l rest ∧ Below w.heap.size w w' → Q (.exit 0) ⟨#[.slice (some ⟨g, 0, none⟩) n c, .int .i64 (a : Nat), u2, u3, .func (.func 35) #[] #[.pointer (some ⟨gb, 0, none⟩)], u5, u6, u7, u8, u9, .int .i64 (q : Nat), v11, v12, u13, u14, u15, u16, u17, u18, u19, u20, u21, u22, u23, u24, u25, u26, u27, u28, u29, u30, v31, v32, v33, v34, v35, v36, v37, v38, v39, v40, v41, v42, v43, v44, v45, v46, v47, v48, v49, v50, v51, v52, v53, u54, u55, u56, u57, u58, u59, u60, u61, u62, u63, u64, u65, u66, u67, u68, u69, u70, u71, u72, u73, u74, u75, u76, u77, u78, u79, u80, u81, u82, u83, u84, u85, u86, u87, u88, u89, u90, u91, u92, u93, u94, u95, u96, u97, u98, u99, u100, u101, u102, u103, u104, u105, u106, u107, u108, u109, u110, u111, u112, u113, u114, u115, u116, u117, u118, u119, u120, u121, u122, u123, u124, u125, u126, u127, u128, u129, u130, u131, u132, u133, u134, u135, u136, u137, u138, u139, u140, u141, u142, u143, u144, u145, u146, u147, u148, u149, u150, u151, u152, u153, u154, u155, u156, u157, u158, u159, u160, u161, u162, u163, u164, u165, u166, u167, u168, u169, u170, u171, u172, u173, u174, u175, u176, u177, u178, u179, u180, u181, u182, u183, u184, u185, u186, u187, u188, u189, u190, u191, u192, u193, u194, u195, u196, u197, u198, u199, u200, u201, u202, u203, u204, u205, u206, u207, u208, u209, u210, u211, u212, u213, u214, u215, u216, u217, u218, u219], []⟩ w') : (partL Tryd.f73 0).wp Tryd.prog Q ⟨#[.slice (some ⟨g, 0, none⟩) n c, .int .i64 (a : Nat), u2, u3, .func (.func 35) #[] #[.pointer (some ⟨gb, 0, none⟩)], u5, u6, u7, u8, u9, .int .i64 (lo : Nat), .int .i64 (hi : Nat), u12, u13, u14, u15, u16, u17, u18, u19, u20, u21, u22, u23, u24, u25, u26, u27, u28, u29, u30, u31, u32, u33, u34, u35, u36, u37, u38, u39, u40, u41, u42, u43, u44, u45, u46, u47, u48, u49, u50, u51, u52, u53, u54, u55, u56, u57, u58, u59, u60, u61, u62, u63, u64, u65, u66, u67, u68, u69, u70, u71, u72, u73, u74, u75, u76, u77, u78, u79, u80, u81, u82, u83, u84, u85, u86, u87, u88, u89, u90, u91, u92, u93, u94, u95, u96, u97, u98, u99, u100, u101, u102, u103, u104, u105, u106, u107, u108, u109, u110, u111, u112, u113, u114, u115, u116, u117, u118, u119, u120, u121, u122, u123, u124, u125, u126, u127, u128, u129, u130, u131, u132, u133, u134, u135, u136, u137, u138, u139, u140, u141, u142, u143, u144, u145, u146, u147, u148, u149, u150, u151, u152, u153, u154, u155, u156, u157, u158, u159, u160, u161, u162, u163, u164, u165, u166, u167, u168, u169, u170, u171, u172, u173, u174, u175, u176, u177, u178, u179, u180, u181, u182, u183, u184, u185, u186, u187, u188, u189, u190, u191, u192, u193, u194, u195, u196, u197, u198, u199, u200, u201, u202, u203, u204, u205, u206, u207, u208, u209, u210, u211, u212, u213, u214, u215, u216, u217, u218, u219], []⟩ w := by
  have HI := Lib.hid hr
  have HL := Lib.hid hl
  have HK := Lib.hid hk
  have HM := Lib.hid hmem
  have K1 := Lib.hid k1
  have hlo0 : lo ≤ 1000 := by omega
  have hhi0 : hi ≤ 1000 := by omega
  obtain ⟨T, hT⟩ : ∃ T : Nat → Bool, T = fun q => decide (keyF sp (l.getD q 0) < keyF sp (l.getD a 0)) := ⟨_, rfl⟩
  rw [← hT] at K1
  have HLE := Lib.hid (show lo ≤ hi by omega)
  have HT := Lib.hid (fun q => congrFun hT q)
  have HC := Lib.hid (fun q (h1 : lo ≤ q) (h2 : q < hi) => (show q < n by omega))
  clear hr hl hk hmem k1 hT hlo hhi
  conv => arg 2; whnf
  go_wp2
  go_loopw [10, 11] (fun vi vj wr => ∃ (i j : Nat), vi = .int .i64 i ∧ vj = .int .i64 j ∧ i ≤ 1000 ∧ j ≤ 1000 ∧ Hid (BS T lo hi i j ∧ OrdAt wr g l rest ∧ Below w.heap.size w wr)) (fun vi vj _ => (intOf vj).toNat - (intOf vi).toNat)
  case atStart => exact ⟨lo, hi, rfl, rfl, hlo0, hhi0, Lib.hid ⟨BS.start T HLE.out, HI.out, Below.refl _ _⟩⟩
  case round =>
    clear HI
    obtain ⟨i, j, rfl, rfl, hi1, hj1, HJ⟩ := hrel
    by_cases hlt : i < j
    · have HH := Lib.hid (And.intro (show i ≤ (i + j) / 2 by omega) (show (i + j) / 2 < j by omega))
      have HLT := Lib.hid hlt
      go_upto_region 4 with fail
      refine wp_code (c := partR Tryd.f73 4) (by kernel_rfl) ?_
      refine sm_r4 (i := i) (j := j) _ _ hi1 hj1 ?_
      intro v34 v35 v36 v37 v38 v39
      have hh1 : (i + j) / 2 ≤ 1000 := by have := HH.out; omega
      obtain ⟨h, hh⟩ : ∃ q, (i + j) / 2 = q := ⟨_, rfl⟩
      rw [hh] at HH hh1 ⊢
      clear hh hlt
      have HC1 := Lib.hid (HC.out h (by have := HJ.out.1.lo_; have := HH.out; omega) (by have := HJ.out.1.hi_; have := HH.out; omega))
      go_upto_region 5 with fail
      refine wp_code (c := partR Tryd.f73 5) (by kernel_rfl) ?_
      refine sm_r5 (l := l) (rest := rest) (m := m0) (sp := sp) (gs := gs) (a := a) (i := h) _ _ (HJ.out.2.1) HL.out (HK.out.next HJ.out.2.2) hm0 hn HM.out ha HC1.out ?_
      intro v40 v41 v42 v43 v44 v45 v46 v47 v48 v49 w2 h2
      have H2 := Lib.hid h2
      have HTH := Lib.hid (HT.out h)
      clear h2
      have hts : T h = decide (keyF sp (l.getD h 0) < keyF sp (l.getD a 0)) := HTH.out
      rw [← hts]
      clear hts
      cases hd : T h
      · have HD := Lib.hid hd
        clear hd
        go_wp2
        go_roundw
        case rel => exact ⟨i, h, rfl, rfl, hi1, hh1, Lib.hid ⟨HJ.out.1.left HH.out.1 HH.out.2 HD.out, H2.out.1, HJ.out.2.2.trans (H2.out.2.mono HJ.out.2.2.size)⟩⟩
        case measure => have := HH.out; have := HLT.out; simp [intOf]; omega
      · have HD := Lib.hid hd
        clear hd
        go_wp2
        go_roundw
        case rel => exact ⟨h + 1, j, by go_num, rfl, by have := HH.out; omega, hj1, Lib.hid ⟨HJ.out.1.right HH.out.1 HH.out.2 HD.out, H2.out.1, HJ.out.2.2.trans (H2.out.2.mono HJ.out.2.2.size)⟩⟩
        case measure => have := HH.out; have := HLT.out; simp [intOf]; omega
    · have HQ := Lib.hid (show j = i by have := HJ.out.1.le; omega)
      go_wp2
      exact K1.out i (by have := HJ.out.1; rw [HQ.out] at this; exact this) _ _ _ _ _ _ _ _ _ _ _ _ _ _ _ _ _ _ _ _ _ _ _ _ _ _ ⟨HJ.out.2.1, HJ.out.2.2⟩

set_option maxRecDepth 100000 in
set_option maxHeartbeats 8000000 in
theorem sm_l4 {g n c gb gs m0 a lo hi : Nat} {sp : List (Int × Int)} {l : List Int} {rest : List Value} (w : World) (Q : Exit → Act → World → Prop) {u1 u3 u5 u6 u7 u8 u9 u10 u11 u12 u13 u16 u17 u18 u19 u20 u21 u22 u23 u24 u25 u26 u27 u28 u29 u30 u31 u32 u33 u34 u35 u36 u37 u38 u39 u40 u41 u42 u43 u44 u45 u46 u47 u48 u49 u50 u51 u52 u53 u54 u55 u56 u57 u58 u59 u60 u61 u62 u63 u64 u65 u66 u67 u68 u69 u70 u71 u72 u73 u74 u75 u76 u77 u78 u79 u80 u81 u82 u83 u84 u85 u86 u87 u88 u89 u90 u91 u92 u93 u94 u95 u96 u97 u98 u99 u100 u101 u102 u103 u104 u105 u106 u107 u108 u109 u110 u111 u112 u113 u114 u115 u116 u117 u118 u119 u120 u121 u122 u123 u124 u125 u126 u127 u128 u129 u130 u131 u132 u133 u134 u135 u136 u137 u138 u139 u140 u141 u142 u143 u144 u145 u146 u147 u148 u149 u150 u151 u152 u153 u154 u155 u156 u157 u158 u159 u160 u161 u162 u163 u164 u165 u166 u167 u168 u169 u170 u171 u172 u173 u174 u175 u176 u177 u178 u179 u180 u181 u182 u183 u184 u185 u186 u187 u188 u189 u190 u191 u192 u193 u194 u195 u196 u197 u198 u199 u200 u201 u202 u203 u204 u205 u206 u207 u208 u209 u210 u211 u212 u213 u214 u215 u216 u217 u218 u219 : Value} (hr : OrdAt w g l rest) (hl : l.length = n) (hn : n ≤ 1000) (hk : KeysAt w gb gs m0 sp) (hm0 : m0 ≤ 1000) (hmem : ∀ x ∈ l, 0 ≤ x ∧ x < (m0 : Int)) (ha : a < n) (hlo : lo ≤ hi) (hhi : hi ≤ n)
    (k1 : ∀ (q : Nat), BS (fun q => !decide (keyF sp (l.getD a 0) < keyF sp (l.getD q 0))) (lo) (hi) q q → ∀ (v15 v16 v83 v84 v85 v86 v87 v88 v89 v90 v91 v92 v93 v94 v95 v96 v97 v98 v99 v100 v101 v102 v103 v104 v105 v106 : Value) (w' : World), OrdAt w' g l rest ∧ Below w.heap.size w w' → Q (.exit 4) ⟨#[.slice (some ⟨g, 0, none⟩) n c, u1, .int .i64 (a : Nat), u3, .func (.func 35) #[] #[.pointer (some ⟨gb, 0, none⟩)], u5, u6, u7, u8, u9, u10, u11, u12, u13, .int .i64 (q : Nat), v15, v16, u17, u18, u19, u20, u21, u22, u23, u24, u25, u26, u27, u28, u29, u30, u31, u32, u33, u34, u35, u36, u37, u38, u39, u40, u41, u42, u43, u44, u45, u46, u47, u48, u49, u50, u51, u52, u53, u54, u55, u56, u57, u58, u59, u60, u61, u62, u63, u64, u65, u66, u67, u68, u69, u70, u71, u72, u73, u74, u75, u76, u77, u78, u79, u80, u81, u82, v83, v84, v85, v86, v87, v88, v89, v90, v91, v92, v93, v94, v95, v96, v97, v98, v99, v100, v101, v102, v103, v104, v105, v106, u107, u108, u109, u110, u111, u112, u113, u114, u115, u116, u117, u118, u119, u120, u121, u122, u123, u124, u125, u126, u127, u128, u129, u130, u131, u132, u133, u134, u135, u136, u137, u138, u139, u140, u141, u142, u143, u144, u145, u146, u147, u148, u149, u150, u151, u152, u153, u154, u155, u156, u157, u158, u159, u160, u161, u162, u163, u164, u165, u166, u167, u168, u169, u170, u171, u172, u173, u174, u175, u176, u177, u178, u179, u180, u181, u182, u183, u184, u185, u186, u187, u188, u189, u190, u191, u192, u193, u194, u195, u196, u197, u198, u199, u200, u201, u202, u203, u204, u205, u206, u207, u208, u209, u210, u211, u212, u213, u214, u215, u216, u217, u218, u219], []⟩ w') : (partL Tryd.f73 4).wp Tryd.prog Q ⟨#[.slice (some ⟨g, 0, none⟩) n c, u1, .int .i64 (a : Nat), u3, .func (.func 35) #[] #[.pointer (some ⟨gb, 0, none⟩)], u5, u6, u7, u8, u9, u10, u11, u12, u13, .int .i64 (lo : Nat), .int .i64 (hi : Nat), u16, u17, u18, u19, u20, u21, u22, u23, u24, u25, u26, u27, u28, u29, u30, u31, u32, u33, u34, u35, u36, u37, u38, u39, u40, u41, u42, u43, u44, u45, u46, u47, u48, u49, u50, u51, u52, u53, u54, u55, u56, u57, u58, u59, u60, u61, u62, u63, u64, u65, u66, u67, u68, u69, u70, u71, u72, u73, u74, u75, u76, u77, u78, u79, u80, u81, u82, u83, u84, u85, u86, u87, u88, u89, u90, u91, u92, u93, u94, u95, u96, u97, u98, u99, u100, u101, u102, u103, u104, u105, u106, u107, u108, u109, u110, u111, u112, u113, u114, u115, u116, u117, u118, u119, u120, u121, u122, u123, u124, u125, u126, u127, u128, u129, u130, u131, u132, u133, u134, u135, u136, u137, u138, u139, u140, u141, u142, u143, u144, u145, u146, u147, u148, u149, u150, u151, u152, u153, u154, u155, u156, u157, u158, u159, u160, u161, u162, u163, u164, u165, u166, u167, u168, u169, u170, u171, u172, u173, u174, u175, u176, u177, u178, u179, u180, u181, u182, u183, u184, u185, u186, u187, u188, u189, u190, u191, u192, u193, u194, u195, u196, u197, u198, u199, u200, u201, u202, u203, u204, u205, u206, u207, u208, u209, u210, u211, u212, u213, u214, u215, u216, u217, u218, u219], []⟩ w := by
  have HI := Lib.hid hr
  have HL := Lib.hid hl
  have HK := Lib.hid hk
  have HM := Lib.hid hmem
  have K1 := Lib.hid k1
  have hlo0 : lo ≤ 1000 := by omega
  have hhi0 : hi ≤ 1000 := by omega
  obtain ⟨T, hT⟩ : ∃ T : Nat → Bool, T = fun q => !decide (keyF sp (l.getD a 0) < keyF sp (l.getD q 0)) := ⟨_, rfl⟩
  rw [← hT] at K1
  have HLE := Lib.hid (show lo ≤ hi by omega)
  have HT := Lib.hid (fun q => congrFun hT q)
  have HC := Lib.hid (fun q (h1 : lo ≤ q) (h2 : q < hi) => (show q < n by omega))
  clear hr hl hk hmem k1 hT hlo hhi
  conv => arg 2; whnf
  go_wp2
  go_loopw [14, 15] (fun vi vj wr => ∃ (i j : Nat), vi = .int .i64 i ∧ vj = .int .i64 j ∧ i ≤ 1000 ∧ j ≤ 1000 ∧ Hid (BS T lo hi i j ∧ OrdAt wr g l rest ∧ Below w.heap.size w wr)) (fun vi vj _ => (intOf vj).toNat - (intOf vi).toNat)
  case atStart => exact ⟨lo, hi, rfl, rfl, hlo0, hhi0, Lib.hid ⟨BS.start T HLE.out, HI.out, Below.refl _ _⟩⟩
  case round =>
    clear HI
    obtain ⟨i, j, rfl, rfl, hi1, hj1, HJ⟩ := hrel
    by_cases hlt : i < j
    · have HH := Lib.hid (And.intro (show i ≤ (i + j) / 2 by omega) (show (i + j) / 2 < j by omega))
      have HLT := Lib.hid hlt
      go_upto_region 16 with fail
      refine wp_code (c := partR Tryd.f73 16) (by kernel_rfl) ?_
      refine sm_r16 (i := i) (j := j) _ _ hi1 hj1 ?_
      intro v86 v87 v88 v89 v90 v91
      have hh1 : (i + j) / 2 ≤ 1000 := by have := HH.out; omega
      obtain ⟨h, hh⟩ : ∃ q, (i + j) / 2 = q := ⟨_, rfl⟩
      rw [hh] at HH hh1 ⊢
      clear hh hlt
      have HC1 := Lib.hid (HC.out h (by have := HJ.out.1.lo_; have := HH.out; omega) (by have := HJ.out.1.hi_; have := HH.out; omega))
      go_upto_region 17 with fail
      refine wp_code (c := partR Tryd.f73 17) (by kernel_rfl) ?_
      refine sm_r17 (l := l) (rest := rest) (m := m0) (sp := sp) (gs := gs) (a := a) (i := h) _ _ (HJ.out.2.1) HL.out (HK.out.next HJ.out.2.2) hm0 hn HM.out ha HC1.out ?_
      intro v92 v93 v94 v95 v96 v97 v98 v99 v100 v101 v102 w2 h2
      have H2 := Lib.hid h2
      have HTH := Lib.hid (HT.out h)
      clear h2
      have hts : T h = !decide (keyF sp (l.getD a 0) < keyF sp (l.getD h 0)) := HTH.out
      rw [← hts]
      clear hts
      cases hd : T h
      · have HD := Lib.hid hd
        clear hd
        go_wp2
        go_roundw
        case rel => exact ⟨i, h, rfl, rfl, hi1, hh1, Lib.hid ⟨HJ.out.1.left HH.out.1 HH.out.2 HD.out, H2.out.1, HJ.out.2.2.trans (H2.out.2.mono HJ.out.2.2.size)⟩⟩
        case measure => have := HH.out; have := HLT.out; simp [intOf]; omega
      · have HD := Lib.hid hd
        clear hd
        go_wp2
        go_roundw
        case rel => exact ⟨h + 1, j, by go_num, rfl, by have := HH.out; omega, hj1, Lib.hid ⟨HJ.out.1.right HH.out.1 HH.out.2 HD.out, H2.out.1, HJ.out.2.2.trans (H2.out.2.mono HJ.out.2.2.size)⟩⟩
        case measure => have := HH.out; have := HLT.out; simp [intOf]; omega
    · have HQ := Lib.hid (show j = i by have := HJ.out.1.le; omega)
      go_wp2
      exact K1.out i (by have := HJ.out.1; rw [HQ.out] at this; exact this) _ _ _ _ _ _ _ _ _ _ _ _ _ _ _ _ _ _ _ _ _ _ _ _ _ _ _ ⟨HJ.out.2.1, HJ.out.2.2⟩

set_option maxRecDepth 100000 in
set_option maxHeartbeats 8000000 in
theorem sm_l8 {g n c gb gs m0 p lo hi : Nat} {sp : List (Int × Int)} {l : List Int} {rest : List Value} (w : World) (Q : Exit → Act → World → Prop) {u1 u2 u3 u5 u6 u7 u8 u9 u10 u11 u12 u13 u14 u15 u16 u17 u18 u19 u23 u24 u25 u26 u27 u28 u29 u30 u31 u32 u33 u34 u35 u36 u37 u38 u39 u40 u41 u42 u43 u44 u45 u46 u47 u48 u49 u50 u51 u52 u53 u54 u55 u56 u57 u58 u59 u60 u61 u62 u63 u64 u65 u66 u67 u68 u69 u70 u71 u72 u73 u74 u75 u76 u77 u78 u79 u80 u81 u82 u83 u84 u85 u86 u87 u88 u89 u90 u91 u92 u93 u94 u95 u96 u97 u98 u99 u100 u101 u102 u103 u104 u105 u106 u107 u108 u109 u110 u111 u112 u113 u114 u115 u116 u117 u118 u119 u120 u121 u122 u123 u124 u125 u126 u127 u128 u129 u130 u131 u132 u133 u134 u135 u136 u137 u138 u139 u140 u141 u142 u143 u144 u145 u146 u147 u148 u149 u150 u151 u152 u153 u154 u155 u156 u157 u158 u159 u160 u161 u162 u163 u164 u165 u166 u167 u168 u169 u170 u171 u172 u173 u174 u175 u176 u177 u178 u179 u180 u181 u182 u183 u184 u185 u186 u187 u188 u189 u190 u191 u192 u193 u194 u195 u196 u197 u198 u199 u200 u201 u202 u203 u204 u205 u206 u207 u208 u209 u210 u211 u212 u213 u214 u215 u216 u217 u218 u219 : Value} (hr : OrdAt w g l rest) (hl : l.length = n) (hn : n ≤ 1000) (hk : KeysAt w gb gs m0 sp) (hm0 : m0 ≤ 1000) (hmem : ∀ x ∈ l, 0 ≤ x ∧ x < (m0 : Int)) (hp : ∀ q, lo ≤ q → q < hi → q ≤ p ∧ p - q < n ∧ q < n) (hlo : lo ≤ hi) (hhi : hi ≤ n)
    (k1 : ∀ (q : Nat), BS (fun q => !decide (keyF sp (l.getD (p - q) 0) < keyF sp (l.getD q 0))) (lo) (hi) q q → ∀ (v21 v23 v149 v150 v151 v152 v153 v154 v155 v156 v157 v158 v159 v160 v161 v162 v163 v164 v165 v166 v167 v168 v169 v170 v171 v172 v173 v174 : Value) (w' : World), OrdAt w' g l rest ∧ Below w.heap.size w w' → Q (.exit 8) ⟨#[.slice (some ⟨g, 0, none⟩) n c, u1, u2, u3, .func (.func 35) #[] #[.pointer (some ⟨gb, 0, none⟩)], u5, u6, u7, u8, u9, u10, u11, u12, u13, u14, u15, u16, u17, u18, u19, .int .i64 (q : Nat), v21, .int .i64 (p : Nat), v23, u24, u25, u26, u27, u28, u29, u30, u31, u32, u33, u34, u35, u36, u37, u38, u39, u40, u41, u42, u43, u44, u45, u46, u47, u48, u49, u50, u51, u52, u53, u54, u55, u56, u57, u58, u59, u60, u61, u62, u63, u64, u65, u66, u67, u68, u69, u70, u71, u72, u73, u74, u75, u76, u77, u78, u79, u80, u81, u82, u83, u84, u85, u86, u87, u88, u89, u90, u91, u92, u93, u94, u95, u96, u97, u98, u99, u100, u101, u102, u103, u104, u105, u106, u107, u108, u109, u110, u111, u112, u113, u114, u115, u116, u117, u118, u119, u120, u121, u122, u123, u124, u125, u126, u127, u128, u129, u130, u131, u132, u133, u134, u135, u136, u137, u138, u139, u140, u141, u142, u143, u144, u145, u146, u147, u148, v149, v150, v151, v152, v153, v154, v155, v156, v157, v158, v159, v160, v161, v162, v163, v164, v165, v166, v167, v168, v169, v170, v171, v172, v173, v174, u175, u176, u177, u178, u179, u180, u181, u182, u183, u184, u185, u186, u187, u188, u189, u190, u191, u192, u193, u194, u195, u196, u197, u198, u199, u200, u201, u202, u203, u204, u205, u206, u207, u208, u209, u210, u211, u212, u213, u214, u215, u216, u217, u218, u219], []⟩ w') : (partL Tryd.f73 8).wp Tryd.prog Q ⟨#[.slice (some ⟨g, 0, none⟩) n c, u1, u2, u3, .func (.func 35) #[] #[.pointer (some ⟨gb, 0, none⟩)], u5, u6, u7, u8, u9, u10, u11, u12, u13, u14, u15, u16, u17, u18, u19, .int .i64 (lo : Nat), .int .i64 (hi : Nat), .int .i64 (p : Nat), u23, u24, u25, u26, u27, u28, u29, u30, u31, u32, u33, u34, u35, u36, u37, u38, u39, u40, u41, u42, u43, u44, u45, u46, u47, u48, u49, u50, u51, u52, u53, u54, u55, u56, u57, u58, u59, u60, u61, u62, u63, u64, u65, u66, u67, u68, u69, u70, u71, u72, u73, u74, u75, u76, u77, u78, u79, u80, u81, u82, u83, u84, u85, u86, u87, u88, u89, u90, u91, u92, u93, u94, u95, u96, u97, u98, u99, u100, u101, u102, u103, u104, u105, u106, u107, u108, u109, u110, u111, u112, u113, u114, u115, u116, u117, u118, u119, u120, u121, u122, u123, u124, u125, u126, u127, u128, u129, u130, u131, u132, u133, u134, u135, u136, u137, u138, u139, u140, u141, u142, u143, u144, u145, u146, u147, u148, u149, u150, u151, u152, u153, u154, u155, u156, u157, u158, u159, u160, u161, u162, u163, u164, u165, u166, u167, u168, u169, u170, u171, u172, u173, u174, u175, u176, u177, u178, u179, u180, u181, u182, u183, u184, u185, u186, u187, u188, u189, u190, u191, u192, u193, u194, u195, u196, u197, u198, u199, u200, u201, u202, u203, u204, u205, u206, u207, u208, u209, u210, u211, u212, u213, u214, u215, u216, u217, u218, u219], []⟩ w := by
  have HI := Lib.hid hr
  have HL := Lib.hid hl
  have HK := Lib.hid hk
  have HM := Lib.hid hmem
  have K1 := Lib.hid k1
  have hlo0 : lo ≤ 1000 := by omega
  have hhi0 : hi ≤ 1000 := by omega
  obtain ⟨T, hT⟩ : ∃ T : Nat → Bool, T = fun q => !decide (keyF sp (l.getD (p - q) 0) < keyF sp (l.getD q 0)) := ⟨_, rfl⟩
  rw [← hT] at K1
  have HLE := Lib.hid (show lo ≤ hi by omega)
  have HT := Lib.hid (fun q => congrFun hT q)
  have HC := Lib.hid (fun q (h1 : lo ≤ q) (h2 : q < hi) => (show q ≤ p ∧ p - q < n ∧ q < n by exact hp q h1 h2))
  clear hr hl hk hmem k1 hT hlo hhi hp
  conv => arg 2; whnf
  go_wp2
  go_loopw [20, 21] (fun vi vj wr => ∃ (i j : Nat), vi = .int .i64 i ∧ vj = .int .i64 j ∧ i ≤ 1000 ∧ j ≤ 1000 ∧ Hid (BS T lo hi i j ∧ OrdAt wr g l rest ∧ Below w.heap.size w wr)) (fun vi vj _ => (intOf vj).toNat - (intOf vi).toNat)
  case atStart => exact ⟨lo, hi, rfl, rfl, hlo0, hhi0, Lib.hid ⟨BS.start T HLE.out, HI.out, Below.refl _ _⟩⟩
  case round =>
    clear HI
    obtain ⟨i, j, rfl, rfl, hi1, hj1, HJ⟩ := hrel
    by_cases hlt : i < j
    · have HH := Lib.hid (And.intro (show i ≤ (i + j) / 2 by omega) (show (i + j) / 2 < j by omega))
      have HLT := Lib.hid hlt
      go_upto_region 34 with fail
      refine wp_code (c := partR Tryd.f73 34) (by kernel_rfl) ?_
      refine sm_r34 (i := i) (j := j) _ _ hi1 hj1 ?_
      intro v152 v153 v154 v155 v156 v157
      have hh1 : (i + j) / 2 ≤ 1000 := by have := HH.out; omega
      obtain ⟨h, hh⟩ : ∃ q, (i + j) / 2 = q := ⟨_, rfl⟩
      rw [hh] at HH hh1 ⊢
      clear hh hlt
      have HC1 := Lib.hid (HC.out h (by have := HJ.out.1.lo_; have := HH.out; omega) (by have := HJ.out.1.hi_; have := HH.out; omega))
      go_upto_region 35 with fail
      refine wp_code (c := partR Tryd.f73 35) (by kernel_rfl) ?_
      refine sm_r35 (l := l) (rest := rest) (m := m0) (sp := sp) (gs := gs) (p := p) (i := h) _ _ (HJ.out.2.1) HL.out (HK.out.next HJ.out.2.2) hm0 hn HM.out HC1.out.1 HC1.out.2.1 HC1.out.2.2 ?_
      intro v158 v159 v160 v161 v162 v163 v164 v165 v166 v167 v168 v169 v170 w2 h2
      have H2 := Lib.hid h2
      have HTH := Lib.hid (HT.out h)
      clear h2
      have hts : T h = !decide (keyF sp (l.getD (p - h) 0) < keyF sp (l.getD h 0)) := HTH.out
      rw [← hts]
      clear hts
      cases hd : T h
      · have HD := Lib.hid hd
        clear hd
        go_wp2
        go_roundw
        case rel => exact ⟨i, h, rfl, rfl, hi1, hh1, Lib.hid ⟨HJ.out.1.left HH.out.1 HH.out.2 HD.out, H2.out.1, HJ.out.2.2.trans (H2.out.2.mono HJ.out.2.2.size)⟩⟩
        case measure => have := HH.out; have := HLT.out; simp [intOf]; omega
      · have HD := Lib.hid hd
        clear hd
        go_wp2
        go_roundw
        case rel => exact ⟨h + 1, j, by go_num, rfl, by have := HH.out; omega, hj1, Lib.hid ⟨HJ.out.1.right HH.out.1 HH.out.2 HD.out, H2.out.1, HJ.out.2.2.trans (H2.out.2.mono HJ.out.2.2.size)⟩⟩
        case measure => have := HH.out; have := HLT.out; simp [intOf]; omega
    · have HQ := Lib.hid (show j = i by have := HJ.out.1.le; omega)
      go_wp2
      exact K1.out i (by have := HJ.out.1; rw [HQ.out] at this; exact this) _ _ _ _ _ _ _ _ _ _ _ _ _ _ _ _ _ _ _ _ _ _ _ _ _ _ _ _ _ ⟨HJ.out.2.1, HJ.out.2.2⟩
end Go.Proofs.YtppoiahhaclleaaDoor

/- What the searches of the merge tell; its runs of swaps. -/
namespace Go.Proofs.YtppoiahhaclleaaDoor
open Go.RowKit

theorem gd_mid (x v y : List Int) (i : Nat) (h : i < v.length) : (x ++ v ++ y).getD (x.length + i) 0 = v.getD i 0 := by
  rw [List.getD_eq_getElem?_getD, List.getD_eq_getElem?_getD, List.append_assoc, List.getElem?_append_right (by omega), Nat.add_sub_cancel_left, List.getElem?_append_left h]
theorem srt_get {key : Int → Int} {v : List Int} (h : Srt key v) {i j : Nat} (hij : i ≤ j) (hj : j < v.length) : key (v.getD i 0) ≤ key (v.getD j 0) := by
  rcases Nat.lt_or_eq_of_le hij with h1 | rfl
  · have h2 := (List.pairwise_iff_getElem.1 h) i j (by omega) hj h1
    rw [List.getD_eq_getElem?_getD, List.getD_eq_getElem?_getD, List.getElem?_eq_getElem (by omega), List.getElem?_eq_getElem hj]
    exact h2
  · exact Int.le_refl _
theorem mem_take_get {v : List Int} {k : Nat} {p : Int} (h : p ∈ v.take k) : ∃ i, i < k ∧ i < v.length ∧ v.getD i 0 = p := by
  obtain ⟨i, hi⟩ := List.getElem?_of_mem h
  have hk : i < k := by have := (List.getElem?_eq_some_iff.1 hi).1; rw [List.length_take] at this; omega
  rw [List.getElem?_take, if_pos hk] at hi
  exact ⟨i, hk, (List.getElem?_eq_some_iff.1 hi).1, by rw [List.getD_eq_getElem?_getD, hi]; rfl⟩
theorem mem_drop_get {v : List Int} {k : Nat} {p : Int} (h : p ∈ v.drop k) : ∃ i, k ≤ i ∧ i < v.length ∧ v.getD i 0 = p := by
  obtain ⟨i, hi⟩ := List.getElem?_of_mem h
  rw [List.getElem?_drop] at hi
  exact ⟨k + i, by omega, (List.getElem?_eq_some_iff.1 hi).1, by rw [List.getD_eq_getElem?_getD, hi]; rfl⟩
theorem srt_ins {key : Int → Int} {v : List Int} {t : Int} {k : Nat} (hv : Srt key v) (h1 : ∀ p ∈ v.take k, key p ≤ key t) (h2 : ∀ p ∈ v.drop k, key t ≤ key p) : Srt key (v.take k ++ t :: v.drop k) := by
  have hs : Srt key (v.take k ++ v.drop k) := by rw [List.take_append_drop]; exact hv
  have h := srt_app.1 hs
  refine srt_app.2 ⟨h.1, List.pairwise_cons.2 ⟨h2, h.2.1⟩, fun p hp q hq => ?_⟩
  rcases List.mem_cons.1 hq with rfl | hq
  · exact h1 p hp
  · exact h.2.2 p hp q hq
theorem bs_one {key : Int → Int} {x v y : List Int} {t : Int} {a m b q : Nat} (ha : x.length = a) (hm : a + 1 = m) (hb : m + v.length = b)
    (h : BS (fun q => decide (key ((x ++ [t] ++ v ++ y).getD q 0) < key ((x ++ [t] ++ v ++ y).getD a 0))) m b q q) (hv : Srt key v) : Srt key (v.take (q - m) ++ t :: v.drop (q - m)) := by
  have e0 : (x ++ [t] ++ v ++ y).getD a 0 = t := by
    have := gd_mid x [t] (v ++ y) 0 (by simp)
    rw [ha, Nat.add_zero] at this
    rw [List.append_assoc (x ++ [t]), this]; rfl
  have e1 : ∀ i, i < v.length → (x ++ [t] ++ v ++ y).getD (m + i) 0 = v.getD i 0 := fun i hi => by
    have := gd_mid (x ++ [t]) v y i hi
    rw [List.length_append, ha, List.length_singleton, hm] at this
    exact this
  have hlo := h.lo_
  have hhi := h.hi_
  refine srt_ins hv (fun p hp => ?_) fun p hp => ?_
  · obtain ⟨i, h1, h2, rfl⟩ := mem_take_get hp
    rcases h.right_ with h3 | h3
    · omega
    · have h4 := of_decide_eq_true h3
      rw [e0, show q - 1 = m + (q - m - 1) by omega, e1 _ (by omega)] at h4
      have := srt_get hv (show i ≤ q - m - 1 by omega) (by omega)
      omega
  · obtain ⟨i, h1, h2, rfl⟩ := mem_drop_get hp
    rcases h.left_ with h3 | h3
    · omega
    · have h4 := of_decide_eq_false h3
      rw [e0, show q = m + (q - m) by omega, e1 _ (by omega)] at h4
      have := srt_get hv (show q - m ≤ i by omega) h2
      omega
theorem bs_two {key : Int → Int} {x u y : List Int} {t : Int} {a m q : Nat} (ha : x.length = a) (hm : a + u.length = m)
    (h : BS (fun q => !decide (key ((x ++ u ++ [t] ++ y).getD m 0) < key ((x ++ u ++ [t] ++ y).getD q 0))) a m q q) (hu : Srt key u) : Srt key (u.take (q - a) ++ t :: u.drop (q - a)) := by
  have e0 : (x ++ u ++ [t] ++ y).getD m 0 = t := by
    have := gd_mid (x ++ u) [t] y 0 (by simp)
    rw [List.length_append, ha, hm, Nat.add_zero] at this
    rw [this]; rfl
  have e1 : ∀ i, i < u.length → (x ++ u ++ [t] ++ y).getD (a + i) 0 = u.getD i 0 := fun i hi => by
    have := gd_mid x u ([t] ++ y) i hi
    rw [ha] at this
    rw [List.append_assoc (x ++ u)]
    exact this
  have hlo := h.lo_
  have hhi := h.hi_
  refine srt_ins hu (fun p hp => ?_) fun p hp => ?_
  · obtain ⟨i, h1, h2, rfl⟩ := mem_take_get hp
    rcases h.right_ with h3 | h3
    · omega
    · have h4 : ¬ (key ((x ++ u ++ [t] ++ y).getD m 0) < key ((x ++ u ++ [t] ++ y).getD (q - 1) 0)) := by simpa using h3
      rw [e0, show q - 1 = a + (q - a - 1) by omega, e1 _ (by omega)] at h4
      have := srt_get hu (show i ≤ q - a - 1 by omega) (by omega)
      omega
  · obtain ⟨i, h1, h2, rfl⟩ := mem_drop_get hp
    rcases h.left_ with h3 | h3
    · omega
    · have h4 : key ((x ++ u ++ [t] ++ y).getD m 0) < key ((x ++ u ++ [t] ++ y).getD q 0) := by simpa using h3
      rw [e0, show q = a + (q - a) by omega, e1 _ (by omega)] at h4
      have := srt_get hu (show q - a ≤ i by omega) h2
      omega
theorem bs_gen {key : Int → Int} {x u v y : List Int} {a m b mid q s0 r0 : Nat} (ha : x.length = a) (hm : a + u.length = m) (hb : m + v.length = b) (hmid : mid = (a + b) / 2) (hu0 : 0 < u.length) (hv0 : 0 < v.length)
    (hs : mid < m ∧ s0 = mid + m - b ∧ r0 = mid ∨ m ≤ mid ∧ s0 = a ∧ r0 = m)
    (h : BS (fun q => !decide (key ((x ++ u ++ v ++ y).getD (mid + m - 1 - q) 0) < key ((x ++ u ++ v ++ y).getD q 0))) s0 r0 q q) (hu : Srt key u) (hv : Srt key v) :
    (∀ p ∈ u.take (q - a), ∀ r ∈ v.drop (mid - q), key p ≤ key r) ∧ (∀ p ∈ v.take (mid - q), ∀ r ∈ u.drop (q - a), key p ≤ key r) := by
  have e0 : ∀ i, i < u.length → (x ++ u ++ v ++ y).getD (a + i) 0 = u.getD i 0 := fun i hi => by
    have := gd_mid x u (v ++ y) i hi
    rw [ha] at this
    rw [List.append_assoc (x ++ u)]
    exact this
  have e1 : ∀ i, i < v.length → (x ++ u ++ v ++ y).getD (m + i) 0 = v.getD i 0 := fun i hi => by
    have := gd_mid (x ++ u) v y i hi
    rw [List.length_append, ha, hm] at this
    exact this
  have hlo := h.lo_
  have hhi := h.hi_
  refine ⟨fun p hp r hr => ?_, fun p hp r hr => ?_⟩
  · obtain ⟨i, h1, h2, rfl⟩ := mem_take_get hp
    obtain ⟨j, g1, g2, rfl⟩ := mem_drop_get hr
    rcases h.right_ with h3 | h3
    · rcases hs with hs | hs <;> omega
    · have h4 : ¬ (key ((x ++ u ++ v ++ y).getD (mid + m - 1 - (q - 1)) 0) < key ((x ++ u ++ v ++ y).getD (q - 1) 0)) := by simpa using h3
      have hq : mid + m - 1 - (q - 1) = m + (mid - q) := by rcases hs with hs | hs <;> omega
      rw [hq, e1 _ (by omega), show q - 1 = a + (q - 1 - a) by omega, e0 _ (by rcases hs with hs | hs <;> omega)] at h4
      have := srt_get hu (show i ≤ q - 1 - a by omega) (by rcases hs with hs | hs <;> omega)
      have := srt_get hv (show mid - q ≤ j by omega) g2
      omega
  · obtain ⟨i, h1, h2, rfl⟩ := mem_take_get hp
    obtain ⟨j, g1, g2, rfl⟩ := mem_drop_get hr
    rcases h.left_ with h3 | h3
    · rcases hs with hs | hs <;> omega
    · have h4 : key ((x ++ u ++ v ++ y).getD (mid + m - 1 - q) 0) < key ((x ++ u ++ v ++ y).getD q 0) := by simpa using h3
      have hq : mid + m - 1 - q = m + (mid - 1 - q) := by omega
      have hqa : a ≤ q := by rcases hs with hs | hs <;> omega
      rw [hq, e1 _ (by rcases hs with hs | hs <;> omega), show q = a + (q - a) by omega, e0 _ (by omega)] at h4
      have := srt_get hv (show i ≤ mid - 1 - q by omega) (by rcases hs with hs | hs <;> omega)
      have e5 : mid - 1 - (a + (q - a)) = mid - 1 - q := by omega
      rw [e5] at h4
      have := srt_get hu (show q - a ≤ j by omega) g2
      omega

set_option maxRecDepth 100000 in
set_option maxHeartbeats 8000000 in
theorem sm_l2 {g n c a q : Nat} {X V Y : List Int} {t : Int} {rest : List Value} (w : World) (Q : Exit → Act → World → Prop) {u1 u2 u3 u4 u5 u6 u7 u8 u9 u11 u12 u14 u15 u16 u17 u18 u19 u20 u21 u22 u23 u24 u25 u26 u27 u28 u29 u30 u31 u32 u33 u34 u35 u36 u37 u38 u39 u40 u41 u42 u43 u44 u45 u46 u47 u48 u49 u50 u51 u52 u53 u54 u55 u56 u57 u58 u59 u60 u61 u62 u63 u64 u65 u66 u67 u68 u69 u70 u71 u72 u73 u74 u75 u76 u77 u78 u79 u80 u81 u82 u83 u84 u85 u86 u87 u88 u89 u90 u91 u92 u93 u94 u95 u96 u97 u98 u99 u100 u101 u102 u103 u104 u105 u106 u107 u108 u109 u110 u111 u112 u113 u114 u115 u116 u117 u118 u119 u120 u121 u122 u123 u124 u125 u126 u127 u128 u129 u130 u131 u132 u133 u134 u135 u136 u137 u138 u139 u140 u141 u142 u143 u144 u145 u146 u147 u148 u149 u150 u151 u152 u153 u154 u155 u156 u157 u158 u159 u160 u161 u162 u163 u164 u165 u166 u167 u168 u169 u170 u171 u172 u173 u174 u175 u176 u177 u178 u179 u180 u181 u182 u183 u184 u185 u186 u187 u188 u189 u190 u191 u192 u193 u194 u195 u196 u197 u198 u199 u200 u201 u202 u203 u204 u205 u206 u207 u208 u209 u210 u211 u212 u213 u214 u215 u216 u217 u218 u219 : Value} (hr : OrdAt w g (X ++ t :: (V ++ Y)) rest) (hl : (X ++ t :: (V ++ Y)).length = n ∧ n = X.length + V.length + Y.length + 1) (hn : n ≤ 1000) (ha : X.length = a) (hb : a + 1 + V.length = q)
    (k1 : ∀ (v13 v55 v56 v57 v58 v59 v60 v61 v62 v63 v64 v65 v66 v67 v68 v69 v70 v71 v72 v73 v74 v75 v76 : Value) (w' : World), OrdAt w' g (X ++ V ++ t :: Y) rest ∧ Chg (fun k => k = g) w w' → Q (.exit 2) ⟨#[.slice (some ⟨g, 0, none⟩) n c, u1, u2, u3, u4, u5, u6, u7, u8, u9, .int .i64 (q : Nat), u11, u12, v13, u14, u15, u16, u17, u18, u19, u20, u21, u22, u23, u24, u25, u26, u27, u28, u29, u30, u31, u32, u33, u34, u35, u36, u37, u38, u39, u40, u41, u42, u43, u44, u45, u46, u47, u48, u49, u50, u51, u52, u53, u54, v55, v56, v57, v58, v59, v60, v61, v62, v63, v64, v65, v66, v67, v68, v69, v70, v71, v72, v73, v74, v75, v76, u77, u78, u79, u80, u81, u82, u83, u84, u85, u86, u87, u88, u89, u90, u91, u92, u93, u94, u95, u96, u97, u98, u99, u100, u101, u102, u103, u104, u105, u106, u107, u108, u109, u110, u111, u112, u113, u114, u115, u116, u117, u118, u119, u120, u121, u122, u123, u124, u125, u126, u127, u128, u129, u130, u131, u132, u133, u134, u135, u136, u137, u138, u139, u140, u141, u142, u143, u144, u145, u146, u147, u148, u149, u150, u151, u152, u153, u154, u155, u156, u157, u158, u159, u160, u161, u162, u163, u164, u165, u166, u167, u168, u169, u170, u171, u172, u173, u174, u175, u176, u177, u178, u179, u180, u181, u182, u183, u184, u185, u186, u187, u188, u189, u190, u191, u192, u193, u194, u195, u196, u197, u198, u199, u200, u201, u202, u203, u204, u205, u206, u207, u208, u209, u210, u211, u212, u213, u214, u215, u216, u217, u218, u219], []⟩ w') : (partL Tryd.f73 2).wp Tryd.prog Q ⟨#[.slice (some ⟨g, 0, none⟩) n c, u1, u2, u3, u4, u5, u6, u7, u8, u9, .int .i64 (q : Nat), u11, u12, .int .i64 (a : Nat), u14, u15, u16, u17, u18, u19, u20, u21, u22, u23, u24, u25, u26, u27, u28, u29, u30, u31, u32, u33, u34, u35, u36, u37, u38, u39, u40, u41, u42, u43, u44, u45, u46, u47, u48, u49, u50, u51, u52, u53, u54, u55, u56, u57, u58, u59, u60, u61, u62, u63, u64, u65, u66, u67, u68, u69, u70, u71, u72, u73, u74, u75, u76, u77, u78, u79, u80, u81, u82, u83, u84, u85, u86, u87, u88, u89, u90, u91, u92, u93, u94, u95, u96, u97, u98, u99, u100, u101, u102, u103, u104, u105, u106, u107, u108, u109, u110, u111, u112, u113, u114, u115, u116, u117, u118, u119, u120, u121, u122, u123, u124, u125, u126, u127, u128, u129, u130, u131, u132, u133, u134, u135, u136, u137, u138, u139, u140, u141, u142, u143, u144, u145, u146, u147, u148, u149, u150, u151, u152, u153, u154, u155, u156, u157, u158, u159, u160, u161, u162, u163, u164, u165, u166, u167, u168, u169, u170, u171, u172, u173, u174, u175, u176, u177, u178, u179, u180, u181, u182, u183, u184, u185, u186, u187, u188, u189, u190, u191, u192, u193, u194, u195, u196, u197, u198, u199, u200, u201, u202, u203, u204, u205, u206, u207, u208, u209, u210, u211, u212, u213, u214, u215, u216, u217, u218, u219], []⟩ w := by
  have HI := Lib.hid hr
  have HA := Lib.hid (And.intro hl (And.intro ha hb))
  have K1 := Lib.hid k1
  obtain ⟨qp, hqp⟩ : ∃ z, q = z + 1 := ⟨q - 1, by omega⟩
  have z1 : (q : Int) - 1 = (qp : Int) := by omega
  have ha1 : a ≤ 1000 := by omega
  have hqp1 : qp ≤ 1000 := by omega
  have HQ := Lib.hid (show qp = a + V.length by omega)
  clear hqp
  clear hr hl ha hb k1
  conv => arg 2; whnf
  go_wp2
  go_loopw [13] (fun vi wr => ∃ (k : Nat), vi = .int .i64 k ∧ k ≤ 1000 ∧ Hid (a ≤ k ∧ k ≤ a + V.length ∧ OrdAt wr g (X ++ V.take (k - a) ++ t :: (V.drop (k - a) ++ Y)) rest ∧ Chg (fun k => k = g) w wr)) (fun vi _ => qp - (intOf vi).toNat)
  case atStart => exact ⟨a, rfl, ha1, Lib.hid ⟨Nat.le_refl _, Nat.le_add_right _ _, by rw [Nat.sub_self]; simpa using HI.out, Chg.refl _ _⟩⟩
  case round =>
    clear HI
    obtain ⟨k, rfl, hk1, HJ⟩ := hrel
    by_cases hlt : k < qp
    · obtain ⟨s, hs⟩ : ∃ s, V[k - a]? = some s := ⟨_, List.getElem?_eq_getElem (by have := HQ.out; have := HJ.out.1; omega)⟩
      have e1 : V.drop (k - a) = s :: V.drop (k + 1 - a) := by
        have := HQ.out; have := HJ.out.1
        rw [List.drop_eq_getElem_cons (by omega), (List.getElem?_eq_some_iff.1 hs).2, show k - a + 1 = k + 1 - a by omega]
      have e2 : V.take (k + 1 - a) = V.take (k - a) ++ [s] := by have := HJ.out.1; rw [show k + 1 - a = k - a + 1 by omega, List.take_add_one, hs]; rfl
      have HO := Lib.hid (show OrdAt wr g ((X ++ V.take (k - a)) ++ t :: ([] ++ s :: (V.drop (k + 1 - a) ++ Y))) rest by have := HJ.out.2.2.1; rw [e1] at this; exact this)
      have HSW := Lib.hid (show swapL ((X ++ V.take (k - a)) ++ t :: ([] ++ s :: (V.drop (k + 1 - a) ++ Y))) k (k + 1) = X ++ V.take (k + 1 - a) ++ t :: (V.drop (k + 1 - a) ++ Y) by
        have h := swap_app (X ++ V.take (k - a)) [] (V.drop (k + 1 - a) ++ Y) t s
        have hln : (X ++ V.take (k - a)).length = k := by have := HA.out; have := HQ.out; have := HJ.out.1; rw [List.length_append, List.length_take]; omega
        rw [hln, List.length_nil, Nat.add_zero] at h
        rw [h, e2]; simp)
      have HLN := Lib.hid (show ((X ++ V.take (k - a)) ++ t :: ([] ++ s :: (V.drop (k + 1 - a) ++ Y))).length = n by
        have h1 := HA.out; have := HQ.out; have := HJ.out.1
        have hX : (X ++ t :: (V ++ Y)).length = X.length + V.length + Y.length + 1 := by simp; omega
        simp only [List.length_append, List.length_cons, List.length_take, List.length_drop, List.length_nil]; omega)
      have HKN := Lib.hid (show k + 1 < n by have h1 := HA.out; have := HQ.out; have hX : (X ++ t :: (V ++ Y)).length = X.length + V.length + Y.length + 1 := by simp; omega
                                             omega)
      have HLT := Lib.hid hlt
      clear hs e1 e2
      go_upto_region 11 with fail
      refine wp_code (c := partR Tryd.f73 11) (by kernel_rfl) ?_
      refine sm_r11 (i := k) (l := _) (rest := rest) _ _ HO.out HLN.out hn HKN.out ?_
      intro v61 v62 v63 v64 v65 v66 v67 v68 v69 v70 v71 v72 v73 v74 v75 v76 w2 h2
      have H2 := Lib.hid h2
      clear h2
      go_wp2
      go_roundw
      case rel => exact ⟨k + 1, by go_num, by have := HLT.out; omega, Lib.hid ⟨by have := HJ.out.1; omega, by have := HLT.out; have := HQ.out; omega, by rw [← HSW.out]; exact H2.out.1, HJ.out.2.2.2.trans H2.out.2⟩⟩
      case measure => have := HLT.out; simp [intOf]; omega
    · have HE := Lib.hid (show k - a = V.length by have := HJ.out; have := HQ.out; omega)
      go_wp2
      exact K1.out _ _ _ _ _ _ _ _ _ _ _ _ _ _ _ _ _ _ _ _ _ _ _ _ ⟨by have := HJ.out.2.2.1; rw [HE.out, List.take_length, List.drop_length] at this; exact this, HJ.out.2.2.2⟩

set_option maxRecDepth 100000 in
set_option maxHeartbeats 8000000 in
theorem sm_l6 {g n c a q : Nat} {X V Y : List Int} {t : Int} {rest : List Value} (w : World) (Q : Exit → Act → World → Prop) {u1 u2 u3 u4 u5 u6 u7 u8 u9 u10 u11 u12 u13 u15 u16 u18 u19 u20 u21 u22 u23 u24 u25 u26 u27 u28 u29 u30 u31 u32 u33 u34 u35 u36 u37 u38 u39 u40 u41 u42 u43 u44 u45 u46 u47 u48 u49 u50 u51 u52 u53 u54 u55 u56 u57 u58 u59 u60 u61 u62 u63 u64 u65 u66 u67 u68 u69 u70 u71 u72 u73 u74 u75 u76 u77 u78 u79 u80 u81 u82 u83 u84 u85 u86 u87 u88 u89 u90 u91 u92 u93 u94 u95 u96 u97 u98 u99 u100 u101 u102 u103 u104 u105 u106 u107 u108 u109 u110 u111 u112 u113 u114 u115 u116 u117 u118 u119 u120 u121 u122 u123 u124 u125 u126 u127 u128 u129 u130 u131 u132 u133 u134 u135 u136 u137 u138 u139 u140 u141 u142 u143 u144 u145 u146 u147 u148 u149 u150 u151 u152 u153 u154 u155 u156 u157 u158 u159 u160 u161 u162 u163 u164 u165 u166 u167 u168 u169 u170 u171 u172 u173 u174 u175 u176 u177 u178 u179 u180 u181 u182 u183 u184 u185 u186 u187 u188 u189 u190 u191 u192 u193 u194 u195 u196 u197 u198 u199 u200 u201 u202 u203 u204 u205 u206 u207 u208 u209 u210 u211 u212 u213 u214 u215 u216 u217 u218 u219 : Value} (hr : OrdAt w g (X ++ V ++ t :: Y) rest) (hl : n = X.length + V.length + Y.length + 1) (hn : n ≤ 1000) (ha : X.length = a) (hb : a + V.length = q)
    (k1 : ∀ (v17 v108 v109 v110 v111 v112 v113 v114 v115 v116 v117 v118 v119 v120 v121 v122 v123 v124 v125 v126 v127 v128 : Value) (w' : World), OrdAt w' g (X ++ t :: (V ++ Y)) rest ∧ Chg (fun k => k = g) w w' → Q (.exit 6) ⟨#[.slice (some ⟨g, 0, none⟩) n c, u1, u2, u3, u4, u5, u6, u7, u8, u9, u10, u11, u12, u13, .int .i64 (a : Nat), u15, u16, v17, u18, u19, u20, u21, u22, u23, u24, u25, u26, u27, u28, u29, u30, u31, u32, u33, u34, u35, u36, u37, u38, u39, u40, u41, u42, u43, u44, u45, u46, u47, u48, u49, u50, u51, u52, u53, u54, u55, u56, u57, u58, u59, u60, u61, u62, u63, u64, u65, u66, u67, u68, u69, u70, u71, u72, u73, u74, u75, u76, u77, u78, u79, u80, u81, u82, u83, u84, u85, u86, u87, u88, u89, u90, u91, u92, u93, u94, u95, u96, u97, u98, u99, u100, u101, u102, u103, u104, u105, u106, u107, v108, v109, v110, v111, v112, v113, v114, v115, v116, v117, v118, v119, v120, v121, v122, v123, v124, v125, v126, v127, v128, u129, u130, u131, u132, u133, u134, u135, u136, u137, u138, u139, u140, u141, u142, u143, u144, u145, u146, u147, u148, u149, u150, u151, u152, u153, u154, u155, u156, u157, u158, u159, u160, u161, u162, u163, u164, u165, u166, u167, u168, u169, u170, u171, u172, u173, u174, u175, u176, u177, u178, u179, u180, u181, u182, u183, u184, u185, u186, u187, u188, u189, u190, u191, u192, u193, u194, u195, u196, u197, u198, u199, u200, u201, u202, u203, u204, u205, u206, u207, u208, u209, u210, u211, u212, u213, u214, u215, u216, u217, u218, u219], []⟩ w') : (partL Tryd.f73 6).wp Tryd.prog Q ⟨#[.slice (some ⟨g, 0, none⟩) n c, u1, u2, u3, u4, u5, u6, u7, u8, u9, u10, u11, u12, u13, .int .i64 (a : Nat), u15, u16, .int .i64 (q : Nat), u18, u19, u20, u21, u22, u23, u24, u25, u26, u27, u28, u29, u30, u31, u32, u33, u34, u35, u36, u37, u38, u39, u40, u41, u42, u43, u44, u45, u46, u47, u48, u49, u50, u51, u52, u53, u54, u55, u56, u57, u58, u59, u60, u61, u62, u63, u64, u65, u66, u67, u68, u69, u70, u71, u72, u73, u74, u75, u76, u77, u78, u79, u80, u81, u82, u83, u84, u85, u86, u87, u88, u89, u90, u91, u92, u93, u94, u95, u96, u97, u98, u99, u100, u101, u102, u103, u104, u105, u106, u107, u108, u109, u110, u111, u112, u113, u114, u115, u116, u117, u118, u119, u120, u121, u122, u123, u124, u125, u126, u127, u128, u129, u130, u131, u132, u133, u134, u135, u136, u137, u138, u139, u140, u141, u142, u143, u144, u145, u146, u147, u148, u149, u150, u151, u152, u153, u154, u155, u156, u157, u158, u159, u160, u161, u162, u163, u164, u165, u166, u167, u168, u169, u170, u171, u172, u173, u174, u175, u176, u177, u178, u179, u180, u181, u182, u183, u184, u185, u186, u187, u188, u189, u190, u191, u192, u193, u194, u195, u196, u197, u198, u199, u200, u201, u202, u203, u204, u205, u206, u207, u208, u209, u210, u211, u212, u213, u214, u215, u216, u217, u218, u219], []⟩ w := by
  have HI := Lib.hid hr
  have HA := Lib.hid (And.intro hl (And.intro ha hb))
  have K1 := Lib.hid k1
  have ha1 : a ≤ 1000 := by omega
  have hq1 : q ≤ 1000 := by omega
  clear hr hl ha hb k1
  conv => arg 2; whnf
  go_wp2
  go_loopw [17] (fun vi wr => ∃ (k : Nat), vi = .int .i64 k ∧ k ≤ 1000 ∧ Hid (a ≤ k ∧ k ≤ a + V.length ∧ OrdAt wr g (X ++ V.take (k - a) ++ t :: (V.drop (k - a) ++ Y)) rest ∧ Chg (fun k => k = g) w wr)) (fun vi _ => (intOf vi).toNat - a)
  case atStart => exact ⟨q, rfl, hq1, Lib.hid ⟨by have := HA.out; omega, by have := HA.out; omega, by rw [show q - a = V.length by have := HA.out; omega, List.take_length, List.drop_length]; exact HI.out, Chg.refl _ _⟩⟩
  case round =>
    clear HI
    obtain ⟨k, rfl, hk1, HJ⟩ := hrel
    by_cases hlt : a < k
    · obtain ⟨kp, rfl⟩ : ∃ z, k = z + 1 := ⟨k - 1, by omega⟩
      obtain ⟨s, hs⟩ : ∃ s, V[kp - a]? = some s := ⟨_, List.getElem?_eq_getElem (by have := HJ.out.2.1; omega)⟩
      have e1 : V.drop (kp - a) = s :: V.drop (kp + 1 - a) := by
        have := HJ.out.2.1
        rw [List.drop_eq_getElem_cons (by omega), (List.getElem?_eq_some_iff.1 hs).2, show kp - a + 1 = kp + 1 - a by omega]
      have e2 : V.take (kp + 1 - a) = V.take (kp - a) ++ [s] := by rw [show kp + 1 - a = kp - a + 1 by omega, List.take_add_one, hs]; rfl
      have HO := Lib.hid (show OrdAt wr g ((X ++ V.take (kp - a)) ++ s :: ([] ++ t :: (V.drop (kp + 1 - a) ++ Y))) rest by have := HJ.out.2.2.1; rw [e2] at this; simpa using this)
      have HSW := Lib.hid (show swapL ((X ++ V.take (kp - a)) ++ s :: ([] ++ t :: (V.drop (kp + 1 - a) ++ Y))) (kp + 1) kp = X ++ V.take (kp - a) ++ t :: (V.drop (kp - a) ++ Y) by
        have h := swap_app' (X ++ V.take (kp - a)) [] (V.drop (kp + 1 - a) ++ Y) s t
        have hln : (X ++ V.take (kp - a)).length = kp := by have := HA.out; have := HJ.out.2.1; rw [List.length_append, List.length_take]; omega
        rw [hln, List.length_nil, Nat.add_zero] at h
        rw [h, e1]; simp)
      have HLN := Lib.hid (show ((X ++ V.take (kp - a)) ++ s :: ([] ++ t :: (V.drop (kp + 1 - a) ++ Y))).length = n by
        have h1 := HA.out; have := HJ.out.2.1
        simp only [List.length_append, List.length_cons, List.length_take, List.length_drop, List.length_nil]; omega)
      have HKN := Lib.hid (show kp + 1 < n by have h1 := HA.out; have := HJ.out.2.1; omega)
      have HLT := Lib.hid hlt
      have hgt : decide (a < kp + 1) = true := decide_eq_true hlt
      have hgt2 : decide ((a : Int) < (kp : Int) + 1) = true := decide_eq_true (by omega)
      clear hs e1 e2
      go_upto_region 23 with fail
      refine wp_code (c := partR Tryd.f73 23) (by kernel_rfl) ?_
      refine sm_r23 (i := kp) (l := _) (rest := rest) _ _ HO.out HLN.out hn HKN.out ?_
      intro v113 v114 v115 v116 v117 v118 v119 v120 v121 v122 v123 v124 v125 v126 v127 v128 w2 h2
      have H2 := Lib.hid h2
      clear h2
      go_wp2
      go_roundw
      case rel => exact ⟨kp, by first | rfl | go_num | (congr 1; omega), by omega, Lib.hid ⟨by have := HLT.out; omega, by have := HJ.out.2.1; omega, by rw [← HSW.out]; exact H2.out.1, HJ.out.2.2.2.trans H2.out.2⟩⟩
      case measure => have := HLT.out; simp [intOf]; omega
    · have HE := Lib.hid (show k - a = 0 by omega)
      have hge : decide (a < k) = false := decide_eq_false hlt
      go_wp2
      exact K1.out _ _ _ _ _ _ _ _ _ _ _ _ _ _ _ _ _ _ _ _ _ _ _ ⟨by have := HJ.out.2.2.1; rw [HE.out, List.take_zero, List.drop_zero, List.append_nil] at this; exact this, HJ.out.2.2.2⟩
end Go.Proofs.YtppoiahhaclleaaDoor

/- The merge by halves, behind its search. -/
namespace Go.Proofs.YtppoiahhaclleaaDoor
open Go.RowKit

/-- Two rows side by side are merged: of so many at most. -/
def SymOk (g n c gb gs m0 : Nat) (sp : List (Int × Int)) (rest : List Value) (N : Nat) : Prop :=
  ∀ (x u v y : List Int) (a m b : Nat) (w : World), OrdAt w g (x ++ u ++ v ++ y) rest → n = x.length + u.length + v.length + y.length → KeysAt w gb gs m0 sp → (∀ z ∈ x ++ u ++ v ++ y, 0 ≤ z ∧ z < (m0 : Int)) → x.length = a → a + u.length = m → m + v.length = b → 0 < u.length → 0 < v.length → u.length + v.length ≤ N →
    Calls Tryd.prog 73 #[.slice (some ⟨g, 0, none⟩) n c, .int .i64 a, .int .i64 m, .int .i64 b, .func (.func 35) #[] #[.pointer (some ⟨gb, 0, none⟩)]] w fun e w' => e = .returned (.tuple #[]) ∧ ∃ s, s.Perm (u ++ v) ∧ (Srt (keyF sp) u → Srt (keyF sp) v → Srt (keyF sp) s) ∧ OrdAt w' g (x ++ s ++ y) rest ∧ Chg (fun k => k = g) w w'
theorem len4 (x u v y : List Int) : (x ++ u ++ v ++ y).length = x.length + u.length + v.length + y.length := by simp [Nat.add_assoc]
theorem mem_perm {l l' : List Int} {P : Int → Prop} (h : ∀ z ∈ l, P z) (hp : l'.Perm l) : ∀ z ∈ l', P z := fun z hz => h z (hp.mem_iff.1 hz)
theorem perm_mid (x : List Int) {s t : List Int} (y : List Int) (h : s.Perm t) : (x ++ s ++ y).Perm (x ++ t ++ y) := (h.append_left x).append_right y
theorem perm_rot (x u v y : List Int) : (x ++ v ++ u ++ y).Perm (x ++ u ++ v ++ y) := by
  rw [List.append_assoc x v u, List.append_assoc x u v]
  exact perm_mid x y List.perm_append_comm
/-- Both halves are merged. -/
def Halves (key : Int → Int) (g : Nat) (x u1 u2 v1 v2 y : List Int) (rest : List Value) (w w' : World) : Prop :=
  ∃ s1 s2 : List Int, s1.Perm (u1 ++ v1) ∧ s2.Perm (u2 ++ v2) ∧ (Srt key u1 → Srt key v1 → Srt key s1) ∧ (Srt key u2 → Srt key v2 → Srt key s2) ∧ OrdAt w' g (x ++ s1 ++ s2 ++ y) rest ∧ Chg (fun k => k = g) w w'

set_option maxRecDepth 100000 in
set_option maxHeartbeats 4000000 in
theorem sm_r38 {mid m q e : Nat} (w : World) (Q : Exit → Act → World → Prop) {u0 u1 u2 u3 u4 u5 u6 u7 u8 u9 u10 u11 u12 u13 u14 u15 u16 u17 u18 u21 u22 u23 u24 u25 u26 u27 u28 u29 u30 u31 u32 u33 u34 u35 u36 u37 u38 u39 u40 u41 u42 u43 u44 u45 u46 u47 u48 u49 u50 u51 u52 u53 u54 u55 u56 u57 u58 u59 u60 u61 u62 u63 u64 u65 u66 u67 u68 u69 u70 u71 u72 u73 u74 u75 u76 u77 u78 u79 u80 u81 u82 u83 u84 u85 u86 u87 u88 u89 u90 u91 u92 u93 u94 u95 u96 u97 u98 u99 u100 u101 u102 u103 u104 u105 u106 u107 u108 u109 u110 u111 u112 u113 u114 u115 u116 u117 u118 u119 u120 u121 u122 u123 u124 u125 u126 u127 u128 u129 u130 u131 u132 u133 u134 u135 u136 u137 u138 u139 u140 u141 u142 u143 u144 u145 u146 u147 u148 u149 u150 u151 u152 u153 u154 u155 u156 u157 u158 u159 u160 u161 u162 u163 u164 u165 u166 u167 u168 u169 u170 u171 u172 u173 u174 u175 u176 u177 u178 u179 u180 u181 u182 u183 u184 u185 u186 u187 u188 u189 u190 u191 u192 u193 u194 u195 u196 u197 u198 u199 u200 u201 u202 u203 u204 u205 u206 u207 u208 u209 u210 u211 u212 u213 u214 u215 u216 u217 u218 u219 : Value} (he : mid + m = q + e) (hmid : mid ≤ 1000) (hm : m ≤ 1000) (hq : q ≤ 1000)
    (k : ∀ (v175 v176 v177 : Value), Q .normal ⟨#[u0, u1, u2, u3, u4, u5, u6, u7, u8, u9, u10, u11, u12, u13, u14, u15, u16, u17, u18, .int .i64 ((mid : Int) + (m : Int)), .int .i64 (q : Nat), u21, u22, u23, .int .i64 (e : Nat), u25, u26, u27, u28, u29, u30, u31, u32, u33, u34, u35, u36, u37, u38, u39, u40, u41, u42, u43, u44, u45, u46, u47, u48, u49, u50, u51, u52, u53, u54, u55, u56, u57, u58, u59, u60, u61, u62, u63, u64, u65, u66, u67, u68, u69, u70, u71, u72, u73, u74, u75, u76, u77, u78, u79, u80, u81, u82, u83, u84, u85, u86, u87, u88, u89, u90, u91, u92, u93, u94, u95, u96, u97, u98, u99, u100, u101, u102, u103, u104, u105, u106, u107, u108, u109, u110, u111, u112, u113, u114, u115, u116, u117, u118, u119, u120, u121, u122, u123, u124, u125, u126, u127, u128, u129, u130, u131, u132, u133, u134, u135, u136, u137, u138, u139, u140, u141, u142, u143, u144, u145, u146, u147, u148, u149, u150, u151, u152, u153, u154, u155, u156, u157, u158, u159, u160, u161, u162, u163, u164, u165, u166, u167, u168, u169, u170, u171, u172, u173, u174, v175, v176, v177, u178, u179, u180, u181, u182, u183, u184, u185, u186, u187, u188, u189, u190, u191, u192, u193, u194, u195, u196, u197, u198, u199, u200, u201, u202, u203, u204, u205, u206, u207, u208, u209, u210, u211, u212, u213, u214, u215, u216, u217, u218, u219], []⟩ w) : (partR Tryd.f73 38).wp Tryd.prog Q ⟨#[u0, u1, u2, u3, u4, u5, u6, u7, u8, u9, u10, u11, u12, u13, u14, u15, u16, u17, u18, .int .i64 ((mid : Int) + (m : Int)), .int .i64 (q : Nat), u21, u22, u23, u24, u25, u26, u27, u28, u29, u30, u31, u32, u33, u34, u35, u36, u37, u38, u39, u40, u41, u42, u43, u44, u45, u46, u47, u48, u49, u50, u51, u52, u53, u54, u55, u56, u57, u58, u59, u60, u61, u62, u63, u64, u65, u66, u67, u68, u69, u70, u71, u72, u73, u74, u75, u76, u77, u78, u79, u80, u81, u82, u83, u84, u85, u86, u87, u88, u89, u90, u91, u92, u93, u94, u95, u96, u97, u98, u99, u100, u101, u102, u103, u104, u105, u106, u107, u108, u109, u110, u111, u112, u113, u114, u115, u116, u117, u118, u119, u120, u121, u122, u123, u124, u125, u126, u127, u128, u129, u130, u131, u132, u133, u134, u135, u136, u137, u138, u139, u140, u141, u142, u143, u144, u145, u146, u147, u148, u149, u150, u151, u152, u153, u154, u155, u156, u157, u158, u159, u160, u161, u162, u163, u164, u165, u166, u167, u168, u169, u170, u171, u172, u173, u174, u175, u176, u177, u178, u179, u180, u181, u182, u183, u184, u185, u186, u187, u188, u189, u190, u191, u192, u193, u194, u195, u196, u197, u198, u199, u200, u201, u202, u203, u204, u205, u206, u207, u208, u209, u210, u211, u212, u213, u214, u215, u216, u217, u218, u219], []⟩ w := by
  have HK := Lib.hid k
  have z1 : (mid : Int) + (m : Int) - (q : Int) = (e : Int) := by omega
  have he1 : e ≤ 2000 := by omega
  have hm1 : mid ≤ 1000 := by omega
  have hm2 : m ≤ 1000 := by omega
  have hq1 : q ≤ 1000 := by omega
  clear k he
  conv => arg 2; whnf
  go_wp2
  exact HK.out _ _ _

set_option maxRecDepth 100000 in
set_option maxHeartbeats 32000000 in
theorem sm_tail {g n c gb gs m0 a m b mid q e N : Nat} {sp : List (Int × Int)} {x u1 u2 v1 v2 y : List Int} {rest : List Value} (w : World) (Q : Exit → Act → World → Prop) {u5 u6 u7 u8 u9 u10 u11 u12 u13 u14 u15 u16 u17 u19 u21 u22 u23 u25 u26 u27 u28 u29 u30 u31 u32 u33 u34 u35 u36 u37 u38 u39 u40 u41 u42 u43 u44 u45 u46 u47 u48 u49 u50 u51 u52 u53 u54 u55 u56 u57 u58 u59 u60 u61 u62 u63 u64 u65 u66 u67 u68 u69 u70 u71 u72 u73 u74 u75 u76 u77 u78 u79 u80 u81 u82 u83 u84 u85 u86 u87 u88 u89 u90 u91 u92 u93 u94 u95 u96 u97 u98 u99 u100 u101 u102 u103 u104 u105 u106 u107 u108 u109 u110 u111 u112 u113 u114 u115 u116 u117 u118 u119 u120 u121 u122 u123 u124 u125 u126 u127 u128 u129 u130 u131 u132 u133 u134 u135 u136 u137 u138 u139 u140 u141 u142 u143 u144 u145 u146 u147 u148 u149 u150 u151 u152 u153 u154 u155 u156 u157 u158 u159 u160 u161 u162 u163 u164 u165 u166 u167 u168 u169 u170 u171 u172 u173 u174 u175 u176 u177 u178 u179 u180 u181 u182 u183 u184 u185 u186 u187 u188 u189 u190 u191 u192 u193 u194 u195 u196 u197 u198 u199 u200 u201 u202 u203 u204 u205 u206 u207 u208 u209 u210 u211 u212 u213 u214 u215 u216 u217 u218 u219 : Value} (IH : SymOk g n c gb gs m0 sp rest N) (hr : OrdAt w g (x ++ u1 ++ u2 ++ v1 ++ v2 ++ y) rest) (hl : n = x.length + u1.length + u2.length + v1.length + v2.length + y.length ∧ x.length = a ∧ a + u1.length = q ∧ q + u2.length = m ∧ m + v1.length = e ∧ e + v2.length = b ∧ q + v1.length = mid)
    (hk : KeysAt w gb gs m0 sp) (hmem : ∀ z ∈ x ++ u1 ++ u2 ++ v1 ++ v2 ++ y, 0 ≤ z ∧ z < (m0 : Int)) (hg : gb ≠ g ∧ gs ≠ g) (hn : n ≤ 1000) (hN : u1.length + v1.length ≤ N ∧ u2.length + v2.length ≤ N)
    (k : ∀ (v178 v179 v180 v181 v182 v183 v184 v185 v186 v187 v188 v189 v190 v191 v192 v193 v194 v195 v196 v197 v198 v199 v200 v201 v202 v203 v204 v205 v206 v207 v208 v209 v210 v211 v212 v213 v214 v215 v216 v217 v218 v219 : Value) (w' : World), Halves (keyF sp) g x u1 u2 v1 v2 y rest w w' → Q .normal ⟨#[.slice (some ⟨g, 0, none⟩) n c, .int .i64 (a : Nat), .int .i64 (m : Nat), .int .i64 (b : Nat), .func (.func 35) #[] #[.pointer (some ⟨gb, 0, none⟩)], u5, u6, u7, u8, u9, u10, u11, u12, u13, u14, u15, u16, u17, .int .i64 (mid : Nat), u19, .int .i64 (q : Nat), u21, u22, u23, .int .i64 (e : Nat), u25, u26, u27, u28, u29, u30, u31, u32, u33, u34, u35, u36, u37, u38, u39, u40, u41, u42, u43, u44, u45, u46, u47, u48, u49, u50, u51, u52, u53, u54, u55, u56, u57, u58, u59, u60, u61, u62, u63, u64, u65, u66, u67, u68, u69, u70, u71, u72, u73, u74, u75, u76, u77, u78, u79, u80, u81, u82, u83, u84, u85, u86, u87, u88, u89, u90, u91, u92, u93, u94, u95, u96, u97, u98, u99, u100, u101, u102, u103, u104, u105, u106, u107, u108, u109, u110, u111, u112, u113, u114, u115, u116, u117, u118, u119, u120, u121, u122, u123, u124, u125, u126, u127, u128, u129, u130, u131, u132, u133, u134, u135, u136, u137, u138, u139, u140, u141, u142, u143, u144, u145, u146, u147, u148, u149, u150, u151, u152, u153, u154, u155, u156, u157, u158, u159, u160, u161, u162, u163, u164, u165, u166, u167, u168, u169, u170, u171, u172, u173, u174, u175, u176, u177, v178, v179, v180, v181, v182, v183, v184, v185, v186, v187, v188, v189, v190, v191, v192, v193, v194, v195, v196, v197, v198, v199, v200, v201, v202, v203, v204, v205, v206, v207, v208, v209, v210, v211, v212, v213, v214, v215, v216, v217, v218, v219], []⟩ w') : (partT Tryd.f73 38).wp Tryd.prog Q ⟨#[.slice (some ⟨g, 0, none⟩) n c, .int .i64 (a : Nat), .int .i64 (m : Nat), .int .i64 (b : Nat), .func (.func 35) #[] #[.pointer (some ⟨gb, 0, none⟩)], u5, u6, u7, u8, u9, u10, u11, u12, u13, u14, u15, u16, u17, .int .i64 (mid : Nat), u19, .int .i64 (q : Nat), u21, u22, u23, .int .i64 (e : Nat), u25, u26, u27, u28, u29, u30, u31, u32, u33, u34, u35, u36, u37, u38, u39, u40, u41, u42, u43, u44, u45, u46, u47, u48, u49, u50, u51, u52, u53, u54, u55, u56, u57, u58, u59, u60, u61, u62, u63, u64, u65, u66, u67, u68, u69, u70, u71, u72, u73, u74, u75, u76, u77, u78, u79, u80, u81, u82, u83, u84, u85, u86, u87, u88, u89, u90, u91, u92, u93, u94, u95, u96, u97, u98, u99, u100, u101, u102, u103, u104, u105, u106, u107, u108, u109, u110, u111, u112, u113, u114, u115, u116, u117, u118, u119, u120, u121, u122, u123, u124, u125, u126, u127, u128, u129, u130, u131, u132, u133, u134, u135, u136, u137, u138, u139, u140, u141, u142, u143, u144, u145, u146, u147, u148, u149, u150, u151, u152, u153, u154, u155, u156, u157, u158, u159, u160, u161, u162, u163, u164, u165, u166, u167, u168, u169, u170, u171, u172, u173, u174, u175, u176, u177, u178, u179, u180, u181, u182, u183, u184, u185, u186, u187, u188, u189, u190, u191, u192, u193, u194, u195, u196, u197, u198, u199, u200, u201, u202, u203, u204, u205, u206, u207, u208, u209, u210, u211, u212, u213, u214, u215, u216, u217, u218, u219], []⟩ w := by
  have HK := Lib.hid k
  have HIH := Lib.hid IH
  have HR := Lib.hid hr
  have HA := Lib.hid hl
  have HKY := Lib.hid hk
  have HM := Lib.hid hmem
  have HG := Lib.hid hg
  have HN := Lib.hid hN
  have hm1 : m ≤ 1000 := by omega
  have ha1 : a ≤ 1000 := by omega
  have hb1 : b ≤ 1000 := by omega
  have hq1 : q ≤ 1000 := by omega
  have he1 : e ≤ 1000 := by omega
  have hmid1 : mid ≤ 1000 := by omega
  clear k IH hr hl hk hmem hg hN
  conv => arg 2; whnf
  by_cases d1 : q < m
  · by_cases d2 : m < e
    · have t1 : decide (q < m) = true := decide_eq_true d1
      have t2 : decide (m < e) = true := decide_eq_true d2
      have HD := Lib.hid (And.intro d1 d2)
      have HROT := Lib.hid (rotate_any (g := g) (n := n) (c := c) (a := q) (m := m) (b := e) (x := x ++ u1) (u := u2) (v := v1) (y := v2 ++ y) (rest := rest) (fv := .func (.func 35) #[] #[.pointer (some ⟨gb, 0, none⟩)]) w (by have := HR.out; simpa using this) (by have := HA.out; simp only [List.length_append]; omega) hn (by have := HA.out; rw [List.length_append]; omega) (by have := HA.out; rw [List.length_append]; omega) (by have := HA.out; rw [List.length_append]; omega) (by have := HA.out; omega) (by have := HA.out; omega))
      clear d1 d2
      go_upto_region 41 with ((with_reducible refine (HROT.out).mono ?_); rintro e_ w3 ⟨rfl, h1, h2⟩; have H3 := Lib.hid (And.intro (show OrdAt w3 g (x ++ (u1 ++ v1) ++ (u2 ++ v2) ++ y) rest by simpa using h1) h2); clear h1 h2)
      clear t1 t2
      have HP3 := Lib.hid (show (x ++ (u1 ++ v1) ++ (u2 ++ v2) ++ y).Perm (x ++ u1 ++ u2 ++ v1 ++ v2 ++ y) by have := perm_rot (x ++ u1) u2 v1 (v2 ++ y); simpa using this)
      by_cases d3 : a < q
      · by_cases d4 : q < mid
        · have t3 : decide (a < q) = true := decide_eq_true d3
          have t4 : decide (q < mid) = true := decide_eq_true d4
          have HC1 := Lib.hid (HIH.out x u1 v1 (u2 ++ v2 ++ y) a q mid w3 (by have := H3.out.1; simpa using this) (by have := HA.out; simp only [List.length_append]; omega) (KeysAt.chg HKY.out H3.out.2 HG.out.1 HG.out.2) (mem_perm HM.out (by have := HP3.out; simpa using this)) HA.out.2.1 (by have := HA.out; omega) (by have := HA.out; omega) (by have := HA.out; omega) (by have := HA.out; omega) (by have := HA.out; have := HN.out; omega))
          clear d3 d4
          go_upto_region 43 with ((with_reducible refine (HC1.out).mono ?_); rintro e_ w4 ⟨rfl, s1, p1, c1, o1, h1⟩; have H4 := Lib.hid (And.intro p1 (And.intro c1 (And.intro (show OrdAt w4 g (x ++ s1 ++ (u2 ++ v2) ++ y) rest by simpa using o1) (H3.out.2.trans h1)))); clear p1 c1 o1 h1)
          clear t3 t4
          by_cases d5 : mid < e
          · by_cases d6 : e < b
            · have t5 : decide (mid < e) = true := decide_eq_true d5
              have t6 : decide (e < b) = true := decide_eq_true d6
              have HL1 := Lib.hid (show s1.length = u1.length + v1.length by rw [H4.out.1.length_eq, List.length_append])
              have HC2 := Lib.hid (HIH.out (x ++ s1) u2 v2 y mid e b w4 (by have := H4.out.2.2.1; simpa using this) (by have := HA.out; have := HL1.out; simp only [List.length_append]; omega) (KeysAt.chg HKY.out H4.out.2.2.2 HG.out.1 HG.out.2) (mem_perm HM.out (by have h1 := HP3.out; have h2 := perm_mid x (u2 ++ v2 ++ y) H4.out.1; refine List.Perm.trans (List.Perm.of_eq ?_) (h2.trans ((List.Perm.of_eq ?_).trans h1)) <;> simp)) (by have := HA.out; have := HL1.out; rw [List.length_append]; omega) (by have := HA.out; omega) (by have := HA.out; omega) (by have := HA.out; omega) (by have := HA.out; omega) (by have := HA.out; have := HN.out; omega))
              clear d5 d6
              go_wp2_with ((with_reducible refine (HC2.out).mono ?_); rintro e_ w5 ⟨rfl, s2, p2, c2, o2, h2⟩; have H5 := Lib.hid (And.intro p2 (And.intro c2 (And.intro o2 h2))); clear p2 c2 o2 h2)
              exact HK.out _ _ _ _ _ _ _ _ _ _ _ _ _ _ _ _ _ _ _ _ _ _ _ _ _ _ _ _ _ _ _ _ _ _ _ _ _ _ _ _ _ _ _ ⟨s1, s2, H4.out.1, H5.out.1, H4.out.2.1, H5.out.2.1, by have := H5.out.2.2.1; simpa using this, H4.out.2.2.2.trans H5.out.2.2.2⟩
            · have t5 : decide (mid < e) = true := decide_eq_true d5
              have t6 : decide (e < b) = false := decide_eq_false d6
              have HV2 := Lib.hid (show v2 = [] from List.eq_nil_of_length_eq_zero (by have := HA.out; omega))
              clear d5 d6
              go_wp2
              exact HK.out _ _ _ _ _ _ _ _ _ _ _ _ _ _ _ _ _ _ _ _ _ _ _ _ _ _ _ _ _ _ _ _ _ _ _ _ _ _ _ _ _ _ _ ⟨s1, u2 ++ v2, H4.out.1, List.Perm.refl _, H4.out.2.1, (by rw [HV2.out, List.append_nil]; exact fun h _ => h), H4.out.2.2.1, H4.out.2.2.2⟩
          · have t5 : decide (mid < e) = false := decide_eq_false d5
            have HV2 := Lib.hid (show u2 = [] from List.eq_nil_of_length_eq_zero (by have := HA.out; omega))
            clear d5
            go_wp2
            exact HK.out _ _ _ _ _ _ _ _ _ _ _ _ _ _ _ _ _ _ _ _ _ _ _ _ _ _ _ _ _ _ _ _ _ _ _ _ _ _ _ _ _ _ _ ⟨s1, u2 ++ v2, H4.out.1, List.Perm.refl _, H4.out.2.1, (by rw [HV2.out, List.nil_append]; exact fun _ h => h), H4.out.2.2.1, H4.out.2.2.2⟩
        · have t3 : decide (a < q) = true := decide_eq_true d3
          have t4 : decide (q < mid) = false := decide_eq_false d4
          have HV1 := Lib.hid (show v1 = [] from List.eq_nil_of_length_eq_zero (by have := HA.out; omega))
          have H4 := Lib.hid (And.intro (List.Perm.refl (u1 ++ v1)) (And.intro (show Srt (keyF sp) u1 → Srt (keyF sp) v1 → Srt (keyF sp) (u1 ++ v1) by rw [HV1.out, List.append_nil]; exact fun h _ => h) H3.out))
          clear d3 d4
          go_upto_region 43 with fail
          clear t3 t4
          by_cases d5 : mid < e
          · by_cases d6 : e < b
            · have t5 : decide (mid < e) = true := decide_eq_true d5
              have t6 : decide (e < b) = true := decide_eq_true d6
              have HL1 := Lib.hid (show (u1 ++ v1).length = u1.length + v1.length by rw [H4.out.1.length_eq, List.length_append])
              have HC2 := Lib.hid (HIH.out (x ++ (u1 ++ v1)) u2 v2 y mid e b w3 (by have := H4.out.2.2.1; simpa using this) (by have := HA.out; have := HL1.out; simp only [List.length_append]; omega) (KeysAt.chg HKY.out H4.out.2.2.2 HG.out.1 HG.out.2) (mem_perm HM.out (by have h1 := HP3.out; have h2 := perm_mid x (u2 ++ v2 ++ y) H4.out.1; refine List.Perm.trans (List.Perm.of_eq ?_) (h2.trans ((List.Perm.of_eq ?_).trans h1)) <;> simp)) (by have := HA.out; have := HL1.out; rw [List.length_append]; omega) (by have := HA.out; omega) (by have := HA.out; omega) (by have := HA.out; omega) (by have := HA.out; omega) (by have := HA.out; have := HN.out; omega))
              clear d5 d6
              go_wp2_with ((with_reducible refine (HC2.out).mono ?_); rintro e_ w5 ⟨rfl, s2, p2, c2, o2, h2⟩; have H5 := Lib.hid (And.intro p2 (And.intro c2 (And.intro o2 h2))); clear p2 c2 o2 h2)
              exact HK.out _ _ _ _ _ _ _ _ _ _ _ _ _ _ _ _ _ _ _ _ _ _ _ _ _ _ _ _ _ _ _ _ _ _ _ _ _ _ _ _ _ _ _ ⟨(u1 ++ v1), s2, H4.out.1, H5.out.1, H4.out.2.1, H5.out.2.1, by have := H5.out.2.2.1; simpa using this, H4.out.2.2.2.trans H5.out.2.2.2⟩
            · have t5 : decide (mid < e) = true := decide_eq_true d5
              have t6 : decide (e < b) = false := decide_eq_false d6
              have HV2 := Lib.hid (show v2 = [] from List.eq_nil_of_length_eq_zero (by have := HA.out; omega))
              clear d5 d6
              go_wp2
              exact HK.out _ _ _ _ _ _ _ _ _ _ _ _ _ _ _ _ _ _ _ _ _ _ _ _ _ _ _ _ _ _ _ _ _ _ _ _ _ _ _ _ _ _ _ ⟨(u1 ++ v1), u2 ++ v2, H4.out.1, List.Perm.refl _, H4.out.2.1, (by rw [HV2.out, List.append_nil]; exact fun h _ => h), H4.out.2.2.1, H4.out.2.2.2⟩
          · have t5 : decide (mid < e) = false := decide_eq_false d5
            have HV2 := Lib.hid (show u2 = [] from List.eq_nil_of_length_eq_zero (by have := HA.out; omega))
            clear d5
            go_wp2
            exact HK.out _ _ _ _ _ _ _ _ _ _ _ _ _ _ _ _ _ _ _ _ _ _ _ _ _ _ _ _ _ _ _ _ _ _ _ _ _ _ _ _ _ _ _ ⟨(u1 ++ v1), u2 ++ v2, H4.out.1, List.Perm.refl _, H4.out.2.1, (by rw [HV2.out, List.nil_append]; exact fun _ h => h), H4.out.2.2.1, H4.out.2.2.2⟩
      · have t3 : decide (a < q) = false := decide_eq_false d3
        have HV1 := Lib.hid (show u1 = [] from List.eq_nil_of_length_eq_zero (by have := HA.out; omega))
        have H4 := Lib.hid (And.intro (List.Perm.refl (u1 ++ v1)) (And.intro (show Srt (keyF sp) u1 → Srt (keyF sp) v1 → Srt (keyF sp) (u1 ++ v1) by rw [HV1.out, List.nil_append]; exact fun _ h => h) H3.out))
        clear d3
        go_upto_region 43 with fail
        clear t3
        by_cases d5 : mid < e
        · by_cases d6 : e < b
          · have t5 : decide (mid < e) = true := decide_eq_true d5
            have t6 : decide (e < b) = true := decide_eq_true d6
            have HL1 := Lib.hid (show (u1 ++ v1).length = u1.length + v1.length by rw [H4.out.1.length_eq, List.length_append])
            have HC2 := Lib.hid (HIH.out (x ++ (u1 ++ v1)) u2 v2 y mid e b w3 (by have := H4.out.2.2.1; simpa using this) (by have := HA.out; have := HL1.out; simp only [List.length_append]; omega) (KeysAt.chg HKY.out H4.out.2.2.2 HG.out.1 HG.out.2) (mem_perm HM.out (by have h1 := HP3.out; have h2 := perm_mid x (u2 ++ v2 ++ y) H4.out.1; refine List.Perm.trans (List.Perm.of_eq ?_) (h2.trans ((List.Perm.of_eq ?_).trans h1)) <;> simp)) (by have := HA.out; have := HL1.out; rw [List.length_append]; omega) (by have := HA.out; omega) (by have := HA.out; omega) (by have := HA.out; omega) (by have := HA.out; omega) (by have := HA.out; have := HN.out; omega))
            clear d5 d6
            go_wp2_with ((with_reducible refine (HC2.out).mono ?_); rintro e_ w5 ⟨rfl, s2, p2, c2, o2, h2⟩; have H5 := Lib.hid (And.intro p2 (And.intro c2 (And.intro o2 h2))); clear p2 c2 o2 h2)
            exact HK.out _ _ _ _ _ _ _ _ _ _ _ _ _ _ _ _ _ _ _ _ _ _ _ _ _ _ _ _ _ _ _ _ _ _ _ _ _ _ _ _ _ _ _ ⟨(u1 ++ v1), s2, H4.out.1, H5.out.1, H4.out.2.1, H5.out.2.1, by have := H5.out.2.2.1; simpa using this, H4.out.2.2.2.trans H5.out.2.2.2⟩
          · have t5 : decide (mid < e) = true := decide_eq_true d5
            have t6 : decide (e < b) = false := decide_eq_false d6
            have HV2 := Lib.hid (show v2 = [] from List.eq_nil_of_length_eq_zero (by have := HA.out; omega))
            clear d5 d6
            go_wp2
            exact HK.out _ _ _ _ _ _ _ _ _ _ _ _ _ _ _ _ _ _ _ _ _ _ _ _ _ _ _ _ _ _ _ _ _ _ _ _ _ _ _ _ _ _ _ ⟨(u1 ++ v1), u2 ++ v2, H4.out.1, List.Perm.refl _, H4.out.2.1, (by rw [HV2.out, List.append_nil]; exact fun h _ => h), H4.out.2.2.1, H4.out.2.2.2⟩
        · have t5 : decide (mid < e) = false := decide_eq_false d5
          have HV2 := Lib.hid (show u2 = [] from List.eq_nil_of_length_eq_zero (by have := HA.out; omega))
          clear d5
          go_wp2
          exact HK.out _ _ _ _ _ _ _ _ _ _ _ _ _ _ _ _ _ _ _ _ _ _ _ _ _ _ _ _ _ _ _ _ _ _ _ _ _ _ _ _ _ _ _ ⟨(u1 ++ v1), u2 ++ v2, H4.out.1, List.Perm.refl _, H4.out.2.1, (by rw [HV2.out, List.nil_append]; exact fun _ h => h), H4.out.2.2.1, H4.out.2.2.2⟩
    · have t1 : decide (q < m) = true := decide_eq_true d1
      have t2 : decide (m < e) = false := decide_eq_false d2
      have HV := Lib.hid (show v1 = [] from List.eq_nil_of_length_eq_zero (by have := HA.out; omega))
      have H3 := Lib.hid (And.intro (show OrdAt w g (x ++ (u1 ++ v1) ++ (u2 ++ v2) ++ y) rest by have := HR.out; rw [HV.out] at this ⊢; simpa using this) (Chg.refl (fun k => k = g) w))
      clear d1 d2
      go_upto_region 41 with fail
      clear t1 t2
      have HP3 := Lib.hid (show (x ++ (u1 ++ v1) ++ (u2 ++ v2) ++ y).Perm (x ++ u1 ++ u2 ++ v1 ++ v2 ++ y) by have := perm_rot (x ++ u1) u2 v1 (v2 ++ y); simpa using this)
      by_cases d3 : a < q
      · by_cases d4 : q < mid
        · have t3 : decide (a < q) = true := decide_eq_true d3
          have t4 : decide (q < mid) = true := decide_eq_true d4
          have HC1 := Lib.hid (HIH.out x u1 v1 (u2 ++ v2 ++ y) a q mid w (by have := H3.out.1; simpa using this) (by have := HA.out; simp only [List.length_append]; omega) (KeysAt.chg HKY.out H3.out.2 HG.out.1 HG.out.2) (mem_perm HM.out (by have := HP3.out; simpa using this)) HA.out.2.1 (by have := HA.out; omega) (by have := HA.out; omega) (by have := HA.out; omega) (by have := HA.out; omega) (by have := HA.out; have := HN.out; omega))
          clear d3 d4
          go_upto_region 43 with ((with_reducible refine (HC1.out).mono ?_); rintro e_ w4 ⟨rfl, s1, p1, c1, o1, h1⟩; have H4 := Lib.hid (And.intro p1 (And.intro c1 (And.intro (show OrdAt w4 g (x ++ s1 ++ (u2 ++ v2) ++ y) rest by simpa using o1) (H3.out.2.trans h1)))); clear p1 c1 o1 h1)
          clear t3 t4
          by_cases d5 : mid < e
          · by_cases d6 : e < b
            · have t5 : decide (mid < e) = true := decide_eq_true d5
              have t6 : decide (e < b) = true := decide_eq_true d6
              have HL1 := Lib.hid (show s1.length = u1.length + v1.length by rw [H4.out.1.length_eq, List.length_append])
              have HC2 := Lib.hid (HIH.out (x ++ s1) u2 v2 y mid e b w4 (by have := H4.out.2.2.1; simpa using this) (by have := HA.out; have := HL1.out; simp only [List.length_append]; omega) (KeysAt.chg HKY.out H4.out.2.2.2 HG.out.1 HG.out.2) (mem_perm HM.out (by have h1 := HP3.out; have h2 := perm_mid x (u2 ++ v2 ++ y) H4.out.1; refine List.Perm.trans (List.Perm.of_eq ?_) (h2.trans ((List.Perm.of_eq ?_).trans h1)) <;> simp)) (by have := HA.out; have := HL1.out; rw [List.length_append]; omega) (by have := HA.out; omega) (by have := HA.out; omega) (by have := HA.out; omega) (by have := HA.out; omega) (by have := HA.out; have := HN.out; omega))
              clear d5 d6
              go_wp2_with ((with_reducible refine (HC2.out).mono ?_); rintro e_ w5 ⟨rfl, s2, p2, c2, o2, h2⟩; have H5 := Lib.hid (And.intro p2 (And.intro c2 (And.intro o2 h2))); clear p2 c2 o2 h2)
              exact HK.out _ _ _ _ _ _ _ _ _ _ _ _ _ _ _ _ _ _ _ _ _ _ _ _ _ _ _ _ _ _ _ _ _ _ _ _ _ _ _ _ _ _ _ ⟨s1, s2, H4.out.1, H5.out.1, H4.out.2.1, H5.out.2.1, by have := H5.out.2.2.1; simpa using this, H4.out.2.2.2.trans H5.out.2.2.2⟩
            · have t5 : decide (mid < e) = true := decide_eq_true d5
              have t6 : decide (e < b) = false := decide_eq_false d6
              have HV2 := Lib.hid (show v2 = [] from List.eq_nil_of_length_eq_zero (by have := HA.out; omega))
              clear d5 d6
              go_wp2
              exact HK.out _ _ _ _ _ _ _ _ _ _ _ _ _ _ _ _ _ _ _ _ _ _ _ _ _ _ _ _ _ _ _ _ _ _ _ _ _ _ _ _ _ _ _ ⟨s1, u2 ++ v2, H4.out.1, List.Perm.refl _, H4.out.2.1, (by rw [HV2.out, List.append_nil]; exact fun h _ => h), H4.out.2.2.1, H4.out.2.2.2⟩
          · have t5 : decide (mid < e) = false := decide_eq_false d5
            have HV2 := Lib.hid (show u2 = [] from List.eq_nil_of_length_eq_zero (by have := HA.out; omega))
            clear d5
            go_wp2
            exact HK.out _ _ _ _ _ _ _ _ _ _ _ _ _ _ _ _ _ _ _ _ _ _ _ _ _ _ _ _ _ _ _ _ _ _ _ _ _ _ _ _ _ _ _ ⟨s1, u2 ++ v2, H4.out.1, List.Perm.refl _, H4.out.2.1, (by rw [HV2.out, List.nil_append]; exact fun _ h => h), H4.out.2.2.1, H4.out.2.2.2⟩
        · have t3 : decide (a < q) = true := decide_eq_true d3
          have t4 : decide (q < mid) = false := decide_eq_false d4
          have HV1 := Lib.hid (show v1 = [] from List.eq_nil_of_length_eq_zero (by have := HA.out; omega))
          have H4 := Lib.hid (And.intro (List.Perm.refl (u1 ++ v1)) (And.intro (show Srt (keyF sp) u1 → Srt (keyF sp) v1 → Srt (keyF sp) (u1 ++ v1) by rw [HV1.out, List.append_nil]; exact fun h _ => h) H3.out))
          clear d3 d4
          go_upto_region 43 with fail
          clear t3 t4
          by_cases d5 : mid < e
          · by_cases d6 : e < b
            · have t5 : decide (mid < e) = true := decide_eq_true d5
              have t6 : decide (e < b) = true := decide_eq_true d6
              have HL1 := Lib.hid (show (u1 ++ v1).length = u1.length + v1.length by rw [H4.out.1.length_eq, List.length_append])
              have HC2 := Lib.hid (HIH.out (x ++ (u1 ++ v1)) u2 v2 y mid e b w (by have := H4.out.2.2.1; simpa using this) (by have := HA.out; have := HL1.out; simp only [List.length_append]; omega) (KeysAt.chg HKY.out H4.out.2.2.2 HG.out.1 HG.out.2) (mem_perm HM.out (by have h1 := HP3.out; have h2 := perm_mid x (u2 ++ v2 ++ y) H4.out.1; refine List.Perm.trans (List.Perm.of_eq ?_) (h2.trans ((List.Perm.of_eq ?_).trans h1)) <;> simp)) (by have := HA.out; have := HL1.out; rw [List.length_append]; omega) (by have := HA.out; omega) (by have := HA.out; omega) (by have := HA.out; omega) (by have := HA.out; omega) (by have := HA.out; have := HN.out; omega))
              clear d5 d6
              go_wp2_with ((with_reducible refine (HC2.out).mono ?_); rintro e_ w5 ⟨rfl, s2, p2, c2, o2, h2⟩; have H5 := Lib.hid (And.intro p2 (And.intro c2 (And.intro o2 h2))); clear p2 c2 o2 h2)
              exact HK.out _ _ _ _ _ _ _ _ _ _ _ _ _ _ _ _ _ _ _ _ _ _ _ _ _ _ _ _ _ _ _ _ _ _ _ _ _ _ _ _ _ _ _ ⟨(u1 ++ v1), s2, H4.out.1, H5.out.1, H4.out.2.1, H5.out.2.1, by have := H5.out.2.2.1; simpa using this, H4.out.2.2.2.trans H5.out.2.2.2⟩
            · have t5 : decide (mid < e) = true := decide_eq_true d5
              have t6 : decide (e < b) = false := decide_eq_false d6
              have HV2 := Lib.hid (show v2 = [] from List.eq_nil_of_length_eq_zero (by have := HA.out; omega))
              clear d5 d6
              go_wp2
              exact HK.out _ _ _ _ _ _ _ _ _ _ _ _ _ _ _ _ _ _ _ _ _ _ _ _ _ _ _ _ _ _ _ _ _ _ _ _ _ _ _ _ _ _ _ ⟨(u1 ++ v1), u2 ++ v2, H4.out.1, List.Perm.refl _, H4.out.2.1, (by rw [HV2.out, List.append_nil]; exact fun h _ => h), H4.out.2.2.1, H4.out.2.2.2⟩
          · have t5 : decide (mid < e) = false := decide_eq_false d5
            have HV2 := Lib.hid (show u2 = [] from List.eq_nil_of_length_eq_zero (by have := HA.out; omega))
            clear d5
            go_wp2
            exact HK.out _ _ _ _ _ _ _ _ _ _ _ _ _ _ _ _ _ _ _ _ _ _ _ _ _ _ _ _ _ _ _ _ _ _ _ _ _ _ _ _ _ _ _ ⟨(u1 ++ v1), u2 ++ v2, H4.out.1, List.Perm.refl _, H4.out.2.1, (by rw [HV2.out, List.nil_append]; exact fun _ h => h), H4.out.2.2.1, H4.out.2.2.2⟩
      · have t3 : decide (a < q) = false := decide_eq_false d3
        have HV1 := Lib.hid (show u1 = [] from List.eq_nil_of_length_eq_zero (by have := HA.out; omega))
        have H4 := Lib.hid (And.intro (List.Perm.refl (u1 ++ v1)) (And.intro (show Srt (keyF sp) u1 → Srt (keyF sp) v1 → Srt (keyF sp) (u1 ++ v1) by rw [HV1.out, List.nil_append]; exact fun _ h => h) H3.out))
        clear d3
        go_upto_region 43 with fail
        clear t3
        by_cases d5 : mid < e
        · by_cases d6 : e < b
          · have t5 : decide (mid < e) = true := decide_eq_true d5
            have t6 : decide (e < b) = true := decide_eq_true d6
            have HL1 := Lib.hid (show (u1 ++ v1).length = u1.length + v1.length by rw [H4.out.1.length_eq, List.length_append])
            have HC2 := Lib.hid (HIH.out (x ++ (u1 ++ v1)) u2 v2 y mid e b w (by have := H4.out.2.2.1; simpa using this) (by have := HA.out; have := HL1.out; simp only [List.length_append]; omega) (KeysAt.chg HKY.out H4.out.2.2.2 HG.out.1 HG.out.2) (mem_perm HM.out (by have h1 := HP3.out; have h2 := perm_mid x (u2 ++ v2 ++ y) H4.out.1; refine List.Perm.trans (List.Perm.of_eq ?_) (h2.trans ((List.Perm.of_eq ?_).trans h1)) <;> simp)) (by have := HA.out; have := HL1.out; rw [List.length_append]; omega) (by have := HA.out; omega) (by have := HA.out; omega) (by have := HA.out; omega) (by have := HA.out; omega) (by have := HA.out; have := HN.out; omega))
            clear d5 d6
            go_wp2_with ((with_reducible refine (HC2.out).mono ?_); rintro e_ w5 ⟨rfl, s2, p2, c2, o2, h2⟩; have H5 := Lib.hid (And.intro p2 (And.intro c2 (And.intro o2 h2))); clear p2 c2 o2 h2)
            exact HK.out _ _ _ _ _ _ _ _ _ _ _ _ _ _ _ _ _ _ _ _ _ _ _ _ _ _ _ _ _ _ _ _ _ _ _ _ _ _ _ _ _ _ _ ⟨(u1 ++ v1), s2, H4.out.1, H5.out.1, H4.out.2.1, H5.out.2.1, by have := H5.out.2.2.1; simpa using this, H4.out.2.2.2.trans H5.out.2.2.2⟩
          · have t5 : decide (mid < e) = true := decide_eq_true d5
            have t6 : decide (e < b) = false := decide_eq_false d6
            have HV2 := Lib.hid (show v2 = [] from List.eq_nil_of_length_eq_zero (by have := HA.out; omega))
            clear d5 d6
            go_wp2
            exact HK.out _ _ _ _ _ _ _ _ _ _ _ _ _ _ _ _ _ _ _ _ _ _ _ _ _ _ _ _ _ _ _ _ _ _ _ _ _ _ _ _ _ _ _ ⟨(u1 ++ v1), u2 ++ v2, H4.out.1, List.Perm.refl _, H4.out.2.1, (by rw [HV2.out, List.append_nil]; exact fun h _ => h), H4.out.2.2.1, H4.out.2.2.2⟩
        · have t5 : decide (mid < e) = false := decide_eq_false d5
          have HV2 := Lib.hid (show u2 = [] from List.eq_nil_of_length_eq_zero (by have := HA.out; omega))
          clear d5
          go_wp2
          exact HK.out _ _ _ _ _ _ _ _ _ _ _ _ _ _ _ _ _ _ _ _ _ _ _ _ _ _ _ _ _ _ _ _ _ _ _ _ _ _ _ _ _ _ _ ⟨(u1 ++ v1), u2 ++ v2, H4.out.1, List.Perm.refl _, H4.out.2.1, (by rw [HV2.out, List.nil_append]; exact fun _ h => h), H4.out.2.2.1, H4.out.2.2.2⟩
  · have t1 : decide (q < m) = false := decide_eq_false d1
    have HV := Lib.hid (show u2 = [] from List.eq_nil_of_length_eq_zero (by have := HA.out; omega))
    have H3 := Lib.hid (And.intro (show OrdAt w g (x ++ (u1 ++ v1) ++ (u2 ++ v2) ++ y) rest by have := HR.out; rw [HV.out] at this ⊢; simpa using this) (Chg.refl (fun k => k = g) w))
    clear d1
    go_upto_region 41 with fail
    clear t1
    have HP3 := Lib.hid (show (x ++ (u1 ++ v1) ++ (u2 ++ v2) ++ y).Perm (x ++ u1 ++ u2 ++ v1 ++ v2 ++ y) by have := perm_rot (x ++ u1) u2 v1 (v2 ++ y); simpa using this)
    by_cases d3 : a < q
    · by_cases d4 : q < mid
      · have t3 : decide (a < q) = true := decide_eq_true d3
        have t4 : decide (q < mid) = true := decide_eq_true d4
        have HC1 := Lib.hid (HIH.out x u1 v1 (u2 ++ v2 ++ y) a q mid w (by have := H3.out.1; simpa using this) (by have := HA.out; simp only [List.length_append]; omega) (KeysAt.chg HKY.out H3.out.2 HG.out.1 HG.out.2) (mem_perm HM.out (by have := HP3.out; simpa using this)) HA.out.2.1 (by have := HA.out; omega) (by have := HA.out; omega) (by have := HA.out; omega) (by have := HA.out; omega) (by have := HA.out; have := HN.out; omega))
        clear d3 d4
        go_upto_region 43 with ((with_reducible refine (HC1.out).mono ?_); rintro e_ w4 ⟨rfl, s1, p1, c1, o1, h1⟩; have H4 := Lib.hid (And.intro p1 (And.intro c1 (And.intro (show OrdAt w4 g (x ++ s1 ++ (u2 ++ v2) ++ y) rest by simpa using o1) (H3.out.2.trans h1)))); clear p1 c1 o1 h1)
        clear t3 t4
        by_cases d5 : mid < e
        · by_cases d6 : e < b
          · have t5 : decide (mid < e) = true := decide_eq_true d5
            have t6 : decide (e < b) = true := decide_eq_true d6
            have HL1 := Lib.hid (show s1.length = u1.length + v1.length by rw [H4.out.1.length_eq, List.length_append])
            have HC2 := Lib.hid (HIH.out (x ++ s1) u2 v2 y mid e b w4 (by have := H4.out.2.2.1; simpa using this) (by have := HA.out; have := HL1.out; simp only [List.length_append]; omega) (KeysAt.chg HKY.out H4.out.2.2.2 HG.out.1 HG.out.2) (mem_perm HM.out (by have h1 := HP3.out; have h2 := perm_mid x (u2 ++ v2 ++ y) H4.out.1; refine List.Perm.trans (List.Perm.of_eq ?_) (h2.trans ((List.Perm.of_eq ?_).trans h1)) <;> simp)) (by have := HA.out; have := HL1.out; rw [List.length_append]; omega) (by have := HA.out; omega) (by have := HA.out; omega) (by have := HA.out; omega) (by have := HA.out; omega) (by have := HA.out; have := HN.out; omega))
            clear d5 d6
            go_wp2_with ((with_reducible refine (HC2.out).mono ?_); rintro e_ w5 ⟨rfl, s2, p2, c2, o2, h2⟩; have H5 := Lib.hid (And.intro p2 (And.intro c2 (And.intro o2 h2))); clear p2 c2 o2 h2)
            exact HK.out _ _ _ _ _ _ _ _ _ _ _ _ _ _ _ _ _ _ _ _ _ _ _ _ _ _ _ _ _ _ _ _ _ _ _ _ _ _ _ _ _ _ _ ⟨s1, s2, H4.out.1, H5.out.1, H4.out.2.1, H5.out.2.1, by have := H5.out.2.2.1; simpa using this, H4.out.2.2.2.trans H5.out.2.2.2⟩
          · have t5 : decide (mid < e) = true := decide_eq_true d5
            have t6 : decide (e < b) = false := decide_eq_false d6
            have HV2 := Lib.hid (show v2 = [] from List.eq_nil_of_length_eq_zero (by have := HA.out; omega))
            clear d5 d6
            go_wp2
            exact HK.out _ _ _ _ _ _ _ _ _ _ _ _ _ _ _ _ _ _ _ _ _ _ _ _ _ _ _ _ _ _ _ _ _ _ _ _ _ _ _ _ _ _ _ ⟨s1, u2 ++ v2, H4.out.1, List.Perm.refl _, H4.out.2.1, (by rw [HV2.out, List.append_nil]; exact fun h _ => h), H4.out.2.2.1, H4.out.2.2.2⟩
        · have t5 : decide (mid < e) = false := decide_eq_false d5
          have HV2 := Lib.hid (show u2 = [] from List.eq_nil_of_length_eq_zero (by have := HA.out; omega))
          clear d5
          go_wp2
          exact HK.out _ _ _ _ _ _ _ _ _ _ _ _ _ _ _ _ _ _ _ _ _ _ _ _ _ _ _ _ _ _ _ _ _ _ _ _ _ _ _ _ _ _ _ ⟨s1, u2 ++ v2, H4.out.1, List.Perm.refl _, H4.out.2.1, (by rw [HV2.out, List.nil_append]; exact fun _ h => h), H4.out.2.2.1, H4.out.2.2.2⟩
      · have t3 : decide (a < q) = true := decide_eq_true d3
        have t4 : decide (q < mid) = false := decide_eq_false d4
        have HV1 := Lib.hid (show v1 = [] from List.eq_nil_of_length_eq_zero (by have := HA.out; omega))
        have H4 := Lib.hid (And.intro (List.Perm.refl (u1 ++ v1)) (And.intro (show Srt (keyF sp) u1 → Srt (keyF sp) v1 → Srt (keyF sp) (u1 ++ v1) by rw [HV1.out, List.append_nil]; exact fun h _ => h) H3.out))
        clear d3 d4
        go_upto_region 43 with fail
        clear t3 t4
        by_cases d5 : mid < e
        · by_cases d6 : e < b
          · have t5 : decide (mid < e) = true := decide_eq_true d5
            have t6 : decide (e < b) = true := decide_eq_true d6
            have HL1 := Lib.hid (show (u1 ++ v1).length = u1.length + v1.length by rw [H4.out.1.length_eq, List.length_append])
            have HC2 := Lib.hid (HIH.out (x ++ (u1 ++ v1)) u2 v2 y mid e b w (by have := H4.out.2.2.1; simpa using this) (by have := HA.out; have := HL1.out; simp only [List.length_append]; omega) (KeysAt.chg HKY.out H4.out.2.2.2 HG.out.1 HG.out.2) (mem_perm HM.out (by have h1 := HP3.out; have h2 := perm_mid x (u2 ++ v2 ++ y) H4.out.1; refine List.Perm.trans (List.Perm.of_eq ?_) (h2.trans ((List.Perm.of_eq ?_).trans h1)) <;> simp)) (by have := HA.out; have := HL1.out; rw [List.length_append]; omega) (by have := HA.out; omega) (by have := HA.out; omega) (by have := HA.out; omega) (by have := HA.out; omega) (by have := HA.out; have := HN.out; omega))
            clear d5 d6
            go_wp2_with ((with_reducible refine (HC2.out).mono ?_); rintro e_ w5 ⟨rfl, s2, p2, c2, o2, h2⟩; have H5 := Lib.hid (And.intro p2 (And.intro c2 (And.intro o2 h2))); clear p2 c2 o2 h2)
            exact HK.out _ _ _ _ _ _ _ _ _ _ _ _ _ _ _ _ _ _ _ _ _ _ _ _ _ _ _ _ _ _ _ _ _ _ _ _ _ _ _ _ _ _ _ ⟨(u1 ++ v1), s2, H4.out.1, H5.out.1, H4.out.2.1, H5.out.2.1, by have := H5.out.2.2.1; simpa using this, H4.out.2.2.2.trans H5.out.2.2.2⟩
          · have t5 : decide (mid < e) = true := decide_eq_true d5
            have t6 : decide (e < b) = false := decide_eq_false d6
            have HV2 := Lib.hid (show v2 = [] from List.eq_nil_of_length_eq_zero (by have := HA.out; omega))
            clear d5 d6
            go_wp2
            exact HK.out _ _ _ _ _ _ _ _ _ _ _ _ _ _ _ _ _ _ _ _ _ _ _ _ _ _ _ _ _ _ _ _ _ _ _ _ _ _ _ _ _ _ _ ⟨(u1 ++ v1), u2 ++ v2, H4.out.1, List.Perm.refl _, H4.out.2.1, (by rw [HV2.out, List.append_nil]; exact fun h _ => h), H4.out.2.2.1, H4.out.2.2.2⟩
        · have t5 : decide (mid < e) = false := decide_eq_false d5
          have HV2 := Lib.hid (show u2 = [] from List.eq_nil_of_length_eq_zero (by have := HA.out; omega))
          clear d5
          go_wp2
          exact HK.out _ _ _ _ _ _ _ _ _ _ _ _ _ _ _ _ _ _ _ _ _ _ _ _ _ _ _ _ _ _ _ _ _ _ _ _ _ _ _ _ _ _ _ ⟨(u1 ++ v1), u2 ++ v2, H4.out.1, List.Perm.refl _, H4.out.2.1, (by rw [HV2.out, List.nil_append]; exact fun _ h => h), H4.out.2.2.1, H4.out.2.2.2⟩
    · have t3 : decide (a < q) = false := decide_eq_false d3
      have HV1 := Lib.hid (show u1 = [] from List.eq_nil_of_length_eq_zero (by have := HA.out; omega))
      have H4 := Lib.hid (And.intro (List.Perm.refl (u1 ++ v1)) (And.intro (show Srt (keyF sp) u1 → Srt (keyF sp) v1 → Srt (keyF sp) (u1 ++ v1) by rw [HV1.out, List.nil_append]; exact fun _ h => h) H3.out))
      clear d3
      go_upto_region 43 with fail
      clear t3
      by_cases d5 : mid < e
      · by_cases d6 : e < b
        · have t5 : decide (mid < e) = true := decide_eq_true d5
          have t6 : decide (e < b) = true := decide_eq_true d6
          have HL1 := Lib.hid (show (u1 ++ v1).length = u1.length + v1.length by rw [H4.out.1.length_eq, List.length_append])
          have HC2 := Lib.hid (HIH.out (x ++ (u1 ++ v1)) u2 v2 y mid e b w (by have := H4.out.2.2.1; simpa using this) (by have := HA.out; have := HL1.out; simp only [List.length_append]; omega) (KeysAt.chg HKY.out H4.out.2.2.2 HG.out.1 HG.out.2) (mem_perm HM.out (by have h1 := HP3.out; have h2 := perm_mid x (u2 ++ v2 ++ y) H4.out.1; refine List.Perm.trans (List.Perm.of_eq ?_) (h2.trans ((List.Perm.of_eq ?_).trans h1)) <;> simp)) (by have := HA.out; have := HL1.out; rw [List.length_append]; omega) (by have := HA.out; omega) (by have := HA.out; omega) (by have := HA.out; omega) (by have := HA.out; omega) (by have := HA.out; have := HN.out; omega))
          clear d5 d6
          go_wp2_with ((with_reducible refine (HC2.out).mono ?_); rintro e_ w5 ⟨rfl, s2, p2, c2, o2, h2⟩; have H5 := Lib.hid (And.intro p2 (And.intro c2 (And.intro o2 h2))); clear p2 c2 o2 h2)
          exact HK.out _ _ _ _ _ _ _ _ _ _ _ _ _ _ _ _ _ _ _ _ _ _ _ _ _ _ _ _ _ _ _ _ _ _ _ _ _ _ _ _ _ _ _ ⟨(u1 ++ v1), s2, H4.out.1, H5.out.1, H4.out.2.1, H5.out.2.1, by have := H5.out.2.2.1; simpa using this, H4.out.2.2.2.trans H5.out.2.2.2⟩
        · have t5 : decide (mid < e) = true := decide_eq_true d5
          have t6 : decide (e < b) = false := decide_eq_false d6
          have HV2 := Lib.hid (show v2 = [] from List.eq_nil_of_length_eq_zero (by have := HA.out; omega))
          clear d5 d6
          go_wp2
          exact HK.out _ _ _ _ _ _ _ _ _ _ _ _ _ _ _ _ _ _ _ _ _ _ _ _ _ _ _ _ _ _ _ _ _ _ _ _ _ _ _ _ _ _ _ ⟨(u1 ++ v1), u2 ++ v2, H4.out.1, List.Perm.refl _, H4.out.2.1, (by rw [HV2.out, List.append_nil]; exact fun h _ => h), H4.out.2.2.1, H4.out.2.2.2⟩
      · have t5 : decide (mid < e) = false := decide_eq_false d5
        have HV2 := Lib.hid (show u2 = [] from List.eq_nil_of_length_eq_zero (by have := HA.out; omega))
        clear d5
        go_wp2
        exact HK.out _ _ _ _ _ _ _ _ _ _ _ _ _ _ _ _ _ _ _ _ _ _ _ _ _ _ _ _ _ _ _ _ _ _ _ _ _ _ _ _ _ _ _ ⟨(u1 ++ v1), u2 ++ v2, H4.out.1, List.Perm.refl _, H4.out.2.1, (by rw [HV2.out, List.nil_append]; exact fun _ h => h), H4.out.2.2.1, H4.out.2.2.2⟩
end Go.Proofs.YtppoiahhaclleaaDoor

/- slices.symMergeCmpFunc of ints, whole. -/
namespace Go.Proofs.YtppoiahhaclleaaDoor
open Go.RowKit

set_option maxRecDepth 100000 in
set_option maxHeartbeats 8000000 in
theorem sym_one {g n c gb gs m0 : Nat} {sp : List (Int × Int)} {rest : List Value} (hn : n ≤ 1000) (hm0 : m0 ≤ 1000) (x v y : List Int) (t : Int) (a m b : Nat) (w : World) (hr : OrdAt w g (x ++ [t] ++ v ++ y) rest) (hl : n = x.length + 1 + v.length + y.length) (hk : KeysAt w gb gs m0 sp) (hmem : ∀ z ∈ x ++ [t] ++ v ++ y, 0 ≤ z ∧ z < (m0 : Int)) (ha : x.length = a) (hm : a + 1 = m) (hb : m + v.length = b) :
    Calls Tryd.prog 73 #[.slice (some ⟨g, 0, none⟩) n c, .int .i64 a, .int .i64 m, .int .i64 b, .func (.func 35) #[] #[.pointer (some ⟨gb, 0, none⟩)]] w fun e w' => e = .returned (.tuple #[]) ∧ ∃ s, s.Perm ([t] ++ v) ∧ (Srt (keyF sp) [t] → Srt (keyF sp) v → Srt (keyF sp) s) ∧ OrdAt w' g (x ++ s ++ y) rest ∧ Chg (fun k => k = g) w w' := by
  have z1 : (m : Int) - (a : Int) = 1 := by omega
  have hm1 : m ≤ 1000 := by omega
  have ha1 : a ≤ 1000 := by omega
  have hb1 : b ≤ 1000 := by omega
  have HR := Lib.hid hr
  have HA := Lib.hid (And.intro hl (And.intro ha (And.intro hm hb)))
  have HK := Lib.hid hk
  have HM := Lib.hid hmem
  clear hr hl hk hmem ha hm hb
  go_enter Tryd.func73, Tryd.ntmps73
  go_wp2
  refine wp_code (c := partL Tryd.f73 0) (by kernel_rfl) ?_
  refine sm_l0 (a := a) (lo := m) (hi := b) (l := x ++ [t] ++ v ++ y) (rest := rest) (m0 := m0) (sp := sp) (gs := gs) _ _ HR.out (by have := HA.out; rw [len4]; simp only [List.length_singleton]; omega) hn HK.out hm0 HM.out (by have := HA.out; omega) (by have := HA.out; omega) (by have := HA.out; omega) ?_
  intro q hbs v11 v12 v31 v32 v33 v34 v35 v36 v37 v38 v39 v40 v41 v42 v43 v44 v45 v46 v47 v48 v49 v50 v51 v52 v53 w2 h2
  have H2 := Lib.hid h2
  have HBS := Lib.hid hbs
  have hq1 : q ≤ 1000 := by have := hbs.hi_; omega
  have HO := Lib.hid (show OrdAt w2 g (x ++ t :: (v.take (q - m) ++ (v.drop (q - m) ++ y))) rest by have := h2.1; rw [← List.append_assoc (v.take _), List.take_append_drop]; simpa using this)
  have HL2 := Lib.hid (show (x ++ t :: (v.take (q - m) ++ (v.drop (q - m) ++ y))).length = n ∧ n = x.length + (v.take (q - m)).length + (v.drop (q - m) ++ y).length + 1 by
    have := HA.out; have := hbs.hi_; have := hbs.lo_
    simp only [List.length_append, List.length_cons, List.length_take, List.length_drop]; omega)
  have HQ := Lib.hid (show a + 1 + (v.take (q - m)).length = q by have := HA.out; have := hbs.hi_; have := hbs.lo_; rw [List.length_take]; omega)
  clear h2 hbs
  go_wp2
  refine wp_code (c := partL Tryd.f73 2) (by kernel_rfl) ?_
  refine sm_l2 (a := a) (q := q) (rest := rest) _ _ HO.out HL2.out hn HA.out.2.1 HQ.out ?_
  intro v13 v55 v56 v57 v58 v59 v60 v61 v62 v63 v64 v65 v66 v67 v68 v69 v70 v71 v72 v73 v74 v75 v76 w3 h3
  have H3 := Lib.hid h3
  clear h3
  go_wp2
  refine bodyPost_ret (v := .tuple #[]) (results_none rfl _ _ _) rfl ?_
  refine ⟨rfl, v.take (q - m) ++ t :: v.drop (q - m), ?_, fun _ hv => bs_one (y := y) HA.out.2.1 HA.out.2.2.1 HA.out.2.2.2 HBS.out hv, by have := H3.out.1; simpa using this, (Chg.of_below H2.out.2).trans H3.out.2⟩
  refine List.perm_middle.trans ?_
  rw [List.take_append_drop]

set_option maxRecDepth 100000 in
set_option maxHeartbeats 8000000 in
theorem sym_two {g n c gb gs m0 : Nat} {sp : List (Int × Int)} {rest : List Value} (hn : n ≤ 1000) (hm0 : m0 ≤ 1000) (x u y : List Int) (t : Int) (a m b : Nat) (w : World) (hr : OrdAt w g (x ++ u ++ [t] ++ y) rest) (hl : n = x.length + u.length + 1 + y.length) (hk : KeysAt w gb gs m0 sp) (hmem : ∀ z ∈ x ++ u ++ [t] ++ y, 0 ≤ z ∧ z < (m0 : Int)) (ha : x.length = a) (hm : a + u.length = m) (hb : m + 1 = b) (hu : u.length ≠ 1) :
    Calls Tryd.prog 73 #[.slice (some ⟨g, 0, none⟩) n c, .int .i64 a, .int .i64 m, .int .i64 b, .func (.func 35) #[] #[.pointer (some ⟨gb, 0, none⟩)]] w fun e w' => e = .returned (.tuple #[]) ∧ ∃ s, s.Perm (u ++ [t]) ∧ (Srt (keyF sp) u → Srt (keyF sp) [t] → Srt (keyF sp) s) ∧ OrdAt w' g (x ++ s ++ y) rest ∧ Chg (fun k => k = g) w w' := by
  obtain ⟨lu, hlu⟩ : ∃ q, u.length = q := ⟨_, rfl⟩
  have z0 : (m : Int) - (a : Int) = (lu : Int) := by omega
  have z1 : (b : Int) - (m : Int) = 1 := by omega
  have z2 : ((lu : Int) == 1) = false := by rw [beq_eq_false_iff_ne]; omega
  have hm1 : m ≤ 1000 := by omega
  have ha1 : a ≤ 1000 := by omega
  have hb1 : b ≤ 1000 := by omega
  have hlu1 : lu ≤ 1000 := by omega
  have HR := Lib.hid hr
  have HA := Lib.hid (And.intro hl (And.intro ha (And.intro hm hb)))
  have HK := Lib.hid hk
  have HM := Lib.hid hmem
  clear hr hl hk hmem ha hm hb hu hlu
  go_enter Tryd.func73, Tryd.ntmps73
  go_wp2
  refine wp_code (c := partL Tryd.f73 4) (by kernel_rfl) ?_
  refine sm_l4 (a := m) (lo := a) (hi := m) (l := x ++ u ++ [t] ++ y) (rest := rest) (m0 := m0) (sp := sp) (gs := gs) _ _ HR.out (by have := HA.out; rw [len4]; simp only [List.length_singleton]; omega) hn HK.out hm0 HM.out (by have := HA.out; omega) (by have := HA.out; omega) (by have := HA.out; omega) ?_
  intro q hbs v15 v16 v83 v84 v85 v86 v87 v88 v89 v90 v91 v92 v93 v94 v95 v96 v97 v98 v99 v100 v101 v102 v103 v104 v105 v106 w2 h2
  have H2 := Lib.hid h2
  have HBS := Lib.hid hbs
  have hq1 : q ≤ 1000 := by have := hbs.hi_; omega
  have HO := Lib.hid (show OrdAt w2 g ((x ++ u.take (q - a)) ++ u.drop (q - a) ++ t :: y) rest by have := h2.1; rw [List.append_assoc x, List.take_append_drop]; simpa using this)
  have HL2 := Lib.hid (show n = (x ++ u.take (q - a)).length + (u.drop (q - a)).length + y.length + 1 by
    have := HA.out; have := hbs.hi_; have := hbs.lo_
    simp only [List.length_append, List.length_take, List.length_drop]; omega)
  have HQ := Lib.hid (show (x ++ u.take (q - a)).length = q by have := HA.out; have := hbs.hi_; have := hbs.lo_; rw [List.length_append, List.length_take]; omega)
  have HQ2 := Lib.hid (show q + (u.drop (q - a)).length = m by have := HA.out; have := hbs.hi_; have := hbs.lo_; rw [List.length_drop]; omega)
  clear h2 hbs
  go_wp2
  refine wp_code (c := partL Tryd.f73 6) (by kernel_rfl) ?_
  refine sm_l6 (a := q) (q := m) (rest := rest) _ _ HO.out HL2.out hn HQ.out HQ2.out ?_
  intro v17 v108 v109 v110 v111 v112 v113 v114 v115 v116 v117 v118 v119 v120 v121 v122 v123 v124 v125 v126 v127 v128 w3 h3
  have H3 := Lib.hid h3
  clear h3
  go_wp2
  refine bodyPost_ret (v := .tuple #[]) (results_none rfl _ _ _) rfl ?_
  refine ⟨rfl, u.take (q - a) ++ t :: u.drop (q - a), ?_, fun hu _ => bs_two (y := y) HA.out.2.1 HA.out.2.2.1 HBS.out hu, by have := H3.out.1; simpa using this, (Chg.of_below H2.out.2).trans H3.out.2⟩
  refine List.perm_middle.trans ?_
  rw [List.take_append_drop]
  exact (List.perm_append_comm (l₁ := [t]) (l₂ := u))

set_option maxRecDepth 100000 in
set_option maxHeartbeats 32000000 in
theorem sym_gen {g n c gb gs m0 : Nat} {sp : List (Int × Int)} {rest : List Value} {N : Nat} (IH : SymOk g n c gb gs m0 sp rest N) (hn : n ≤ 1000) (hm0 : m0 ≤ 1000) (hg : gb ≠ g ∧ gs ≠ g) (x u v y : List Int) (a m b : Nat) (w : World) (hr : OrdAt w g (x ++ u ++ v ++ y) rest) (hl : n = x.length + u.length + v.length + y.length) (hk : KeysAt w gb gs m0 sp) (hmem : ∀ z ∈ x ++ u ++ v ++ y, 0 ≤ z ∧ z < (m0 : Int)) (ha : x.length = a) (hm : a + u.length = m) (hb : m + v.length = b) (hu : 1 < u.length) (hv : 1 < v.length) (hN : u.length + v.length ≤ N + 1) :
    Calls Tryd.prog 73 #[.slice (some ⟨g, 0, none⟩) n c, .int .i64 a, .int .i64 m, .int .i64 b, .func (.func 35) #[] #[.pointer (some ⟨gb, 0, none⟩)]] w fun e w' => e = .returned (.tuple #[]) ∧ ∃ s, s.Perm (u ++ v) ∧ (Srt (keyF sp) u → Srt (keyF sp) v → Srt (keyF sp) s) ∧ OrdAt w' g (x ++ s ++ y) rest ∧ Chg (fun k => k = g) w w' := by
  obtain ⟨lu, hlu⟩ : ∃ q, u.length = q := ⟨_, rfl⟩
  obtain ⟨lv, hlv⟩ : ∃ q, v.length = q := ⟨_, rfl⟩
  have z0 : (m : Int) - (a : Int) = (lu : Int) := by omega
  have z1 : (b : Int) - (m : Int) = (lv : Int) := by omega
  have z2 : ((lu : Int) == 1) = false := by rw [beq_eq_false_iff_ne]; omega
  have z3 : ((lv : Int) == 1) = false := by rw [beq_eq_false_iff_ne]; omega
  have hm1 : m ≤ 1000 := by omega
  have ha1 : a ≤ 1000 := by omega
  have hb1 : b ≤ 1000 := by omega
  have hlu1 : lu ≤ 1000 := by omega
  have hlv1 : lv ≤ 1000 := by omega
  have HR := Lib.hid hr
  have HA := Lib.hid (And.intro hl (And.intro ha (And.intro hm (And.intro hb (And.intro hu (And.intro hv hN))))))
  have HK := Lib.hid hk
  have HM := Lib.hid hmem
  have HLU := Lib.hid (And.intro hlu hlv)
  have HIH := Lib.hid IH
  clear hr hl hk hmem ha hm hb hu hv hlu hlv hN IH
  go_enter Tryd.func73, Tryd.ntmps73
  go_upto_region 24 with fail
  refine wp_code (c := partR Tryd.f73 24) (by kernel_rfl) ?_
  refine sm_r24 (i := a) (j := b) _ _ ha1 hb1 ?_
  intro v129 v130 v131 v132 v133 v134
  obtain ⟨mid, hmid⟩ : ∃ q, (a + b) / 2 = q := ⟨_, rfl⟩
  rw [hmid]
  have HMID := Lib.hid hmid
  have hmid1 : mid ≤ 1000 := by omega
  clear hmid z0 z1 z2 z3
  obtain ⟨p, hp⟩ : ∃ q, mid + m - 1 = q := ⟨_, rfl⟩
  have z4 : (mid : Int) + (m : Int) - 1 = (p : Int) := by have := HMID.out; have := HA.out; have := HLU.out; omega
  have hp1 : p ≤ 2000 := by omega
  have HPP := Lib.hid hp
  clear hp
  by_cases hc : mid < m
  · obtain ⟨s0, hs0⟩ : ∃ q, mid + m - b = q := ⟨_, rfl⟩
    have z5 : (mid : Int) + (m : Int) - (b : Int) = (s0 : Int) := by have := HMID.out; have := HA.out; have := HLU.out; omega
    have hs01 : s0 ≤ 1000 := by have := HA.out; have := HLU.out; omega
    have HS := Lib.hid (And.intro hc hs0.symm)
    have hcd : decide (mid < m) = true := decide_eq_true hc
    clear hs0 hc
    have HSR := Lib.hid (show s0 ≤ mid ∧ mid ≤ n by
      have := HA.out; have := HLU.out; have := HMID.out; have := HPP.out
      have := HS.out; omega)
    have HPC : Hid (∀ q, s0 ≤ q → q < mid → q ≤ p ∧ p - q < n ∧ q < n) := Lib.hid (by
      intro q h1 h2
      have := HA.out; have := HLU.out; have := HMID.out; have := HPP.out
      have := HS.out; omega)
    go_wp2
    refine wp_code (c := partL Tryd.f73 8) (by kernel_rfl) ?_
    refine sm_l8 (p := p) (lo := s0) (hi := mid) (l := x ++ u ++ v ++ y) (rest := rest) (m0 := m0) (sp := sp) (gs := gs) _ _ HR.out (by have := HA.out; rw [len4]; omega) hn HK.out hm0 HM.out HPC.out HSR.out.1 HSR.out.2 ?_
    intro q hbs v21 v23 v149 v150 v151 v152 v153 v154 v155 v156 v157 v158 v159 v160 v161 v162 v163 v164 v165 v166 v167 v168 v169 v170 v171 v172 v173 v174 w2 h2
    have H2 := Lib.hid h2
    have HBS := Lib.hid hbs
    have h1 := hbs.lo_
    have h3 := hbs.hi_
    have HQ := Lib.hid (show a ≤ q ∧ q ≤ m ∧ q ≤ mid ∧ mid - q ≤ v.length ∧ q - a ≤ u.length ∧ (u.take (q - a)).length = q - a ∧ (u.drop (q - a)).length = m - q ∧ (v.take (mid - q)).length = mid - q ∧ (v.drop (mid - q)).length = b - m - (mid - q) ∧ m + (mid - q) ≤ b by
      have := HA.out; have := HLU.out; have := HMID.out
      have e1 : (u.take (q - a)).length = min (q - a) u.length := List.length_take
      have e2 : (v.take (mid - q)).length = min (mid - q) v.length := List.length_take
      have e3 : (u.drop (q - a)).length = u.length - (q - a) := List.length_drop
      have e4 : (v.drop (mid - q)).length = v.length - (mid - q) := List.length_drop
      have := HS.out; omega)
    have hq1 : q ≤ 1000 := by have := HQ.out; omega
    obtain ⟨e, he⟩ : ∃ e, mid + m - q = e := ⟨_, rfl⟩
    have HE := Lib.hid he
    have HCR := Lib.hid (fun (hu : Srt (keyF sp) u) (hv : Srt (keyF sp) v) => bs_gen (y := y) HA.out.2.1 HA.out.2.2.1 HA.out.2.2.2.1 HMID.out.symm (by have := HA.out; omega) (by have := HA.out; omega) (.inl ⟨HS.out.1, HS.out.2, rfl⟩) (by rw [HPP.out]; exact HBS.out) hu hv)
    clear h2 hbs h1 h3 he z4
    go_upto_region 38 with fail
    refine wp_code (c := partR Tryd.f73 38) (by kernel_rfl) ?_
    refine sm_r38 (mid := mid) (m := m) (q := q) (e := e) _ _ (by have := HE.out; have := HQ.out; omega) hmid1 hm1 hq1 ?_
    intro v175 v176 v177
    rename_i K_ hK_
    refine hK_ _ _ ?_
    clear hK_
    refine wp_code (c := partT Tryd.f73 38) (by kernel_rfl) ?_
    refine sm_tail (gb := gb) (gs := gs) (m0 := m0) (sp := sp) (x := x) (u1 := u.take (q - a)) (u2 := u.drop (q - a)) (v1 := v.take (mid - q)) (v2 := v.drop (mid - q)) (y := y) (rest := rest) (N := N) _ _ HIH.out (by rw [List.append_assoc x (u.take _), List.take_append_drop, List.append_assoc (x ++ u), List.take_append_drop]; exact H2.out.1) (by have := HA.out; have := HLU.out; have := HQ.out; have := HE.out; have := HMID.out; omega) (HK.out.next H2.out.2) (by rw [List.append_assoc x (u.take _), List.take_append_drop, List.append_assoc (x ++ u), List.take_append_drop]; exact HM.out) hg hn (by have := HA.out; have := HLU.out; have := HQ.out; have := HMID.out; omega) ?_
    intro v178 v179 v180 v181 v182 v183 v184 v185 v186 v187 v188 v189 v190 v191 v192 v193 v194 v195 v196 v197 v198 v199 v200 v201 v202 v203 v204 v205 v206 v207 v208 v209 v210 v211 v212 v213 v214 v215 v216 v217 v218 v219 w3 h3
    obtain ⟨s1, s2, p1, p2, c1, c2, o1, h3⟩ := h3
    refine bodyPost_end (v := .tuple #[]) (results_none rfl _ _ _) rfl ?_
    refine ⟨rfl, s1 ++ s2, ?_, fun hu hv => ?_, by simpa using o1, (Chg.of_below H2.out.2).trans h3⟩
    · have := merge_perm p1 p2
      rw [List.take_append_drop, List.take_append_drop] at this
      exact this
    · exact merge_sorted p1 p2 c1 c2 (by rw [List.take_append_drop]; exact hu) (by rw [List.take_append_drop]; exact hv) (HCR.out hu hv).1 (HCR.out hu hv).2
  · have HS := Lib.hid (show m ≤ mid by omega)
    have hcd : decide (mid < m) = false := decide_eq_false hc
    clear hc
    have HSR := Lib.hid (show a ≤ m ∧ m ≤ n by
      have := HA.out; have := HLU.out; have := HMID.out; have := HPP.out
      have := HS.out; omega)
    have HPC : Hid (∀ q, a ≤ q → q < m → q ≤ p ∧ p - q < n ∧ q < n) := Lib.hid (by
      intro q h1 h2
      have := HA.out; have := HLU.out; have := HMID.out; have := HPP.out
      have := HS.out; omega)
    go_wp2
    refine wp_code (c := partL Tryd.f73 8) (by kernel_rfl) ?_
    refine sm_l8 (p := p) (lo := a) (hi := m) (l := x ++ u ++ v ++ y) (rest := rest) (m0 := m0) (sp := sp) (gs := gs) _ _ HR.out (by have := HA.out; rw [len4]; omega) hn HK.out hm0 HM.out HPC.out HSR.out.1 HSR.out.2 ?_
    intro q hbs v21 v23 v149 v150 v151 v152 v153 v154 v155 v156 v157 v158 v159 v160 v161 v162 v163 v164 v165 v166 v167 v168 v169 v170 v171 v172 v173 v174 w2 h2
    have H2 := Lib.hid h2
    have HBS := Lib.hid hbs
    have h1 := hbs.lo_
    have h3 := hbs.hi_
    have HQ := Lib.hid (show a ≤ q ∧ q ≤ m ∧ q ≤ mid ∧ mid - q ≤ v.length ∧ q - a ≤ u.length ∧ (u.take (q - a)).length = q - a ∧ (u.drop (q - a)).length = m - q ∧ (v.take (mid - q)).length = mid - q ∧ (v.drop (mid - q)).length = b - m - (mid - q) ∧ m + (mid - q) ≤ b by
      have := HA.out; have := HLU.out; have := HMID.out
      have e1 : (u.take (q - a)).length = min (q - a) u.length := List.length_take
      have e2 : (v.take (mid - q)).length = min (mid - q) v.length := List.length_take
      have e3 : (u.drop (q - a)).length = u.length - (q - a) := List.length_drop
      have e4 : (v.drop (mid - q)).length = v.length - (mid - q) := List.length_drop
      have := HS.out; omega)
    have hq1 : q ≤ 1000 := by have := HQ.out; omega
    obtain ⟨e, he⟩ : ∃ e, mid + m - q = e := ⟨_, rfl⟩
    have HE := Lib.hid he
    have HCR := Lib.hid (fun (hu : Srt (keyF sp) u) (hv : Srt (keyF sp) v) => bs_gen (y := y) HA.out.2.1 HA.out.2.2.1 HA.out.2.2.2.1 HMID.out.symm (by have := HA.out; omega) (by have := HA.out; omega) (.inr ⟨HS.out, rfl, rfl⟩) (by rw [HPP.out]; exact HBS.out) hu hv)
    clear h2 hbs h1 h3 he z4
    go_upto_region 38 with fail
    refine wp_code (c := partR Tryd.f73 38) (by kernel_rfl) ?_
    refine sm_r38 (mid := mid) (m := m) (q := q) (e := e) _ _ (by have := HE.out; have := HQ.out; omega) hmid1 hm1 hq1 ?_
    intro v175 v176 v177
    rename_i K_ hK_
    refine hK_ _ _ ?_
    clear hK_
    refine wp_code (c := partT Tryd.f73 38) (by kernel_rfl) ?_
    refine sm_tail (gb := gb) (gs := gs) (m0 := m0) (sp := sp) (x := x) (u1 := u.take (q - a)) (u2 := u.drop (q - a)) (v1 := v.take (mid - q)) (v2 := v.drop (mid - q)) (y := y) (rest := rest) (N := N) _ _ HIH.out (by rw [List.append_assoc x (u.take _), List.take_append_drop, List.append_assoc (x ++ u), List.take_append_drop]; exact H2.out.1) (by have := HA.out; have := HLU.out; have := HQ.out; have := HE.out; have := HMID.out; omega) (HK.out.next H2.out.2) (by rw [List.append_assoc x (u.take _), List.take_append_drop, List.append_assoc (x ++ u), List.take_append_drop]; exact HM.out) hg hn (by have := HA.out; have := HLU.out; have := HQ.out; have := HMID.out; omega) ?_
    intro v178 v179 v180 v181 v182 v183 v184 v185 v186 v187 v188 v189 v190 v191 v192 v193 v194 v195 v196 v197 v198 v199 v200 v201 v202 v203 v204 v205 v206 v207 v208 v209 v210 v211 v212 v213 v214 v215 v216 v217 v218 v219 w3 h3
    obtain ⟨s1, s2, p1, p2, c1, c2, o1, h3⟩ := h3
    refine bodyPost_end (v := .tuple #[]) (results_none rfl _ _ _) rfl ?_
    refine ⟨rfl, s1 ++ s2, ?_, fun hu hv => ?_, by simpa using o1, (Chg.of_below H2.out.2).trans h3⟩
    · have := merge_perm p1 p2
      rw [List.take_append_drop, List.take_append_drop] at this
      exact this
    · exact merge_sorted p1 p2 c1 c2 (by rw [List.take_append_drop]; exact hu) (by rw [List.take_append_drop]; exact hv) (HCR.out hu hv).1 (HCR.out hu hv).2
theorem sym_all {g n c gb gs m0 : Nat} {sp : List (Int × Int)} {rest : List Value} (hn : n ≤ 1000) (hm0 : m0 ≤ 1000) (hg : gb ≠ g ∧ gs ≠ g) : ∀ N, SymOk g n c gb gs m0 sp rest N := by
  intro N
  induction N with
  | zero => intro x u v y a m b w _ _ _ _ _ _ _ hu _ hN; omega
  | succ N ih =>
    intro x u v y a m b w hr hl hk hmem ha hm hb hu hv hN
    by_cases h1 : u.length = 1
    · obtain ⟨t, rfl⟩ := List.length_eq_one_iff.1 h1
      exact sym_one hn hm0 x v y t a m b w hr (by rw [hl]; rfl) hk hmem ha hm hb
    · by_cases h2 : v.length = 1
      · obtain ⟨t, rfl⟩ := List.length_eq_one_iff.1 h2
        exact sym_two hn hm0 x u y t a m b w hr (by rw [hl]; rfl) hk hmem ha hm hb h1
      · exact sym_gen ih hn hm0 hg x u v y a m b w hr hl hk hmem ha hm hb (by omega) (by omega) (by omega)
end Go.Proofs.YtppoiahhaclleaaDoor

/- slices.stableCmpFunc, SortStableFunc of ints: sorted, whatever the length (up to 1000). -/
namespace Go.Proofs.YtppoiahhaclleaaDoor
open Go.RowKit

/-- A block of a length. -/
def blk (k : Nat) (l : List Int) (q : Nat) : List Int := (l.drop (q * k)).take k
theorem blk_pre {k q : Nat} {x t t' : List Int} (h : q * k + k ≤ x.length) : blk k (x ++ t) q = blk k (x ++ t') q := by
  unfold blk
  rw [List.drop_append_of_le_length (by omega), List.drop_append_of_le_length (by omega), List.take_append_of_le_length (by rw [List.length_drop]; omega), List.take_append_of_le_length (by rw [List.length_drop]; omega)]
theorem blk_post {k q : Nat} {x x' t : List Int} (hl : x.length = x'.length) (h : x.length ≤ q * k) : blk k (x ++ t) q = blk k (x' ++ t) q := by
  unfold blk
  rw [show q * k = x.length + (q * k - x.length) by omega, List.drop_length_add_append, hl, List.drop_length_add_append]
theorem blk_at {k q : Nat} {x s y : List Int} (hx : x.length = q * k) (hs : s.length = k) : blk k (x ++ s ++ y) q = s := by
  unfold blk
  rw [← hx, List.append_assoc, List.drop_left, ← hs, List.take_left]
theorem blk_last {k q : Nat} {x s : List Int} (hx : x.length = q * k) (hs : s.length ≤ k) : blk k (x ++ s) q = s := by
  unfold blk
  rw [← hx, List.drop_left, List.take_of_length_le hs]
theorem blk_nil {k q : Nat} {l : List Int} (h : l.length ≤ q * k) : blk k l q = [] := by
  unfold blk
  rw [List.drop_of_length_le h, List.take_nil]
theorem blk_one {k : Nat} {l : List Int} (h : l.length ≤ k) : blk k l 0 = l := by
  unfold blk
  rw [Nat.zero_mul, List.drop_zero, List.take_of_length_le h]
/-- The blocks that lie in the first so many are in order. -/
def Done (key : Int → Int) (k : Nat) (l : List Int) (a : Nat) : Prop := ∀ q, q * k + k ≤ a → Srt key (blk k l q)
theorem cut3 (l : List Int) (a k : Nat) : l = l.take a ++ (l.drop a).take k ++ l.drop (a + k) := by
  rw [List.append_assoc, ← List.drop_drop, List.take_append_drop, List.take_append_drop]
theorem cut4 (l : List Int) (a k : Nat) : l = l.take a ++ (l.drop a).take k ++ (l.drop (a + k)).take k ++ l.drop (a + k + k) := by
  rw [List.append_assoc, ← List.drop_drop (i := k) (j := a + k), List.take_append_drop, ← cut3]
theorem cut4' (l : List Int) (a k : Nat) : l = l.take a ++ (l.drop a).take k ++ l.drop (a + k) ++ [] := by
  rw [List.append_nil, ← cut3]
/-- A block more. -/
theorem done_more {key : Int → Int} {k j : Nat} {x s s' y : List Int} (hk : 0 < k) (hx : x.length = j * k) (hs : s.length = k) (hs' : s'.length = k) (hd : Done key k (x ++ s ++ y) (j * k)) (h : Srt key s') : Done key k (x ++ s' ++ y) (j * k + k) := by
  intro q hq
  have hqj : q ≤ j := by
    have : q * k ≤ j * k := by omega
    exact Nat.le_of_mul_le_mul_right this hk
  rcases Nat.lt_or_eq_of_le hqj with h1 | rfl
  · have h2 : q * k + k ≤ j * k := by
      have := Nat.mul_le_mul_right k (show q + 1 ≤ j by omega)
      rw [Nat.add_mul, Nat.one_mul] at this
      exact this
    have := hd q h2
    rw [List.append_assoc, blk_pre (t' := s' ++ y) (by omega), ← List.append_assoc] at this
    exact this
  · rw [blk_at hx hs']
    exact h
/-- The last one. -/
theorem done_last {key : Int → Int} {k j : Nat} {x s s' : List Int} (hx : x.length = j * k) (hs' : s'.length ≤ k) (hd : Done key k (x ++ s) (j * k)) (h : Srt key s') : ∀ q, Srt key (blk k (x ++ s') q) := by
  intro q
  rcases Nat.lt_trichotomy q j with h1 | rfl | h1
  · have h2 : q * k + k ≤ j * k := by
      have := Nat.mul_le_mul_right k (show q + 1 ≤ j by omega)
      rw [Nat.add_mul, Nat.one_mul] at this
      exact this
    have := hd q h2
    rw [blk_pre (t' := s') (by omega)] at this
    exact this
  · rw [blk_last hx hs']
    exact h
  · have h2 : j * k + k ≤ q * k := by
      have := Nat.mul_le_mul_right k (show j + 1 ≤ q by omega)
      rw [Nat.add_mul, Nat.one_mul] at this
      exact this
    rw [blk_nil (by rw [List.length_append]; omega)]
    exact List.Pairwise.nil

set_option maxRecDepth 100000 in
set_option maxHeartbeats 4000000 in
theorem isort_part {g n c gb gs m a b : Nat} {sp : List (Int × Int)} {x s y : List Int} {rest : List Value} (w : World) (hr : OrdAt w g (x ++ s ++ y) rest) (hl : n = x.length + s.length + y.length) (hk : KeysAt w gb gs m sp) (hm : m ≤ 1000) (hn : n ≤ 1000) (hmem : ∀ z ∈ x ++ s ++ y, 0 ≤ z ∧ z < (m : Int)) (hg : gb ≠ g ∧ gs ≠ g) (ha : x.length = a) (hb : a + s.length = b) :
    Calls Tryd.prog 72 #[.slice (some ⟨g, 0, none⟩) n c, .int .i64 a, .int .i64 b, .func (.func 35) #[] #[.pointer (some ⟨gb, 0, none⟩)]] w fun e w' => e = .returned (.tuple #[]) ∧ ∃ s', s'.Perm s ∧ Srt (keyF sp) s' ∧ OrdAt w' g (x ++ s' ++ y) rest ∧ Chg (fun k => k = g) w w' := by
  obtain ⟨s', h1, h2, h3⟩ := ins_part (keyF sp) x s y
  refine (isort_any (c := c) (a := a) (b := b) w hr (by simp only [List.length_append]; omega) hk hm hn hmem hg (by omega) (by omega)).mono ?_
  rintro e w' ⟨rfl, h4, h5⟩
  rw [show b - (a + 1) = s.length - 1 by omega, ← ha, h3] at h4
  exact ⟨rfl, s', h1, h2, h4, h5⟩

set_option maxRecDepth 100000 in
set_option maxHeartbeats 16000000 in
theorem stable_all {g n c gb gs m : Nat} {sp : List (Int × Int)} {l : List Int} {rest : List Value} (w : World) (hr : OrdAt w g l rest) (hl : l.length = n) (hk : KeysAt w gb gs m sp) (hm : m ≤ 1000) (hn : n ≤ 1000) (hmem : ∀ x ∈ l, 0 ≤ x ∧ x < (m : Int)) (hg : gb ≠ g ∧ gs ≠ g) :
    Calls Tryd.prog 53 #[.slice (some ⟨g, 0, none⟩) n c, .int .i64 n, .func (.func 35) #[] #[.pointer (some ⟨gb, 0, none⟩)]] w fun e w' => e = .returned (.tuple #[]) ∧ ∃ s, s.Perm l ∧ Srt (keyF sp) s ∧ OrdAt w' g s rest ∧ Chg (fun k => k = g) w w' := by
  have HI := Lib.hid hr
  have HL := Lib.hid hl
  have HK := Lib.hid hk
  have HM := Lib.hid hmem
  have HG := Lib.hid hg
  clear hr hl hk hmem hg
  go_enter Tryd.func53, Tryd.ntmps53
  go_wp2
  go_loopw [7, 8] (fun va vb wr => ∃ (a b : Nat) (l1 : List Int), va = .int .i64 a ∧ vb = .int .i64 b ∧ a ≤ 1000 ∧ b ≤ 1020 ∧ Hid (b = a + 20 ∧ a ≤ n ∧ (∃ j, a = j * 20) ∧ l1.Perm l ∧ Done (keyF sp) 20 l1 a ∧ OrdAt wr g l1 rest ∧ Chg (fun k => k = g) w wr)) (fun va _ _ => n - (intOf va).toNat)
  case atStart => exact ⟨0, 20, l, rfl, rfl, by omega, by omega, Lib.hid ⟨rfl, Nat.zero_le _, ⟨0, rfl⟩, List.Perm.refl _, fun q hq => by omega, HI.out, Chg.refl _ _⟩⟩
  case round =>
    clear HI
    obtain ⟨a, b, l1, rfl, rfl, ha1, hb1, HJ⟩ := hrel
    have HLN := Lib.hid (show l1.length = n by rw [HJ.out.2.2.2.1.length_eq]; exact HL.out)
    have HMM := Lib.hid (mem_perm HM.out HJ.out.2.2.2.1)
    have HKW := Lib.hid (KeysAt.chg HK.out HJ.out.2.2.2.2.2.2 HG.out.1 HG.out.2)
    by_cases hlt : b ≤ n
    · have hd : decide (b ≤ n) = true := decide_eq_true hlt
      have HLT := Lib.hid hlt
      have HT := Lib.hid (show (l1.take a).length = a ∧ ((l1.drop a).take 20).length = 20 by
        have := HJ.out.1; have := HLN.out
        rw [List.length_take, List.length_take, List.length_drop]; omega)
      have HC := Lib.hid (isort_part (n := n) (c := c) (gb := gb) (gs := gs) (m := m) (sp := sp) (a := a) (b := b) (x := l1.take a) (s := (l1.drop a).take 20) (y := l1.drop (a + 20)) (rest := rest) wr (by rw [← cut3]; exact HJ.out.2.2.2.2.2.1) (by have := HT.out; have := HJ.out.1; have := HLN.out; rw [List.length_drop]; omega) HKW.out hm hn (by rw [← cut3]; exact HMM.out) HG.out HT.out.1 (by have := HT.out; have := HJ.out.1; omega))
      clear hlt
      go_wp2_with ((with_reducible refine (HC.out).mono ?_); rintro e w1 ⟨rfl, s', p1, c1, o1, h1⟩; have H1 := Lib.hid (And.intro p1 (And.intro c1 (And.intro o1 h1))); clear p1 c1 o1 h1)
      go_roundw
      case rel => exact ⟨b, b + 20, l1.take a ++ s' ++ l1.drop (a + 20), rfl, by go_num, by have := HLT.out; omega, by have := HLT.out; omega, Lib.hid ⟨rfl, HLT.out, by obtain ⟨j, hj⟩ := HJ.out.2.2.1; exact ⟨j + 1, by have := HJ.out.1; omega⟩, by
        refine List.Perm.trans ?_ HJ.out.2.2.2.1
        have := perm_mid (l1.take a) (l1.drop (a + 20)) H1.out.1
        rw [← cut3] at this
        exact this, by
        obtain ⟨j, hj⟩ := HJ.out.2.2.1
        rw [HJ.out.1, hj]
        refine done_more (s := (l1.drop (j * 20)).take 20) (by omega) (by rw [← hj]; exact HT.out.1) (by rw [← hj]; exact HT.out.2) (by rw [H1.out.1.length_eq]; exact HT.out.2) ?_ H1.out.2.1
        have := HJ.out.2.2.2.2.1
        rw [hj] at this
        rw [← cut3]
        exact this, H1.out.2.2.1, HJ.out.2.2.2.2.2.2.trans H1.out.2.2.2⟩⟩
      case measure => have := HLT.out; have := HJ.out.1; simp [intOf]; omega
    · have hd : decide (b ≤ n) = false := decide_eq_false hlt
      have HLT := Lib.hid hlt
      have HT := Lib.hid (show (l1.take a).length = a ∧ (l1.drop a).length = n - a by
        have := HJ.out.2.1; have := HLN.out
        rw [List.length_take, List.length_drop]; omega)
      have HC := Lib.hid (isort_part (n := n) (c := c) (gb := gb) (gs := gs) (m := m) (sp := sp) (a := a) (b := n) (x := l1.take a) (s := l1.drop a) (y := []) (rest := rest) wr (by rw [List.append_nil, List.take_append_drop]; exact HJ.out.2.2.2.2.2.1) (by have := HT.out; have := HJ.out.2.1; simp only [List.length_nil]; omega) HKW.out hm hn (by rw [List.append_nil, List.take_append_drop]; exact HMM.out) HG.out HT.out.1 (by have := HT.out; have := HJ.out.2.1; omega))
      clear hlt
      go_wp2_with ((with_reducible refine (HC.out).mono ?_); rintro e w1 ⟨rfl, s', p1, c1, o1, h1⟩; have H1 := Lib.hid (And.intro p1 (And.intro c1 (And.intro o1 h1))); clear p1 c1 o1 h1)
      have H2 := Lib.hid (show (l1.take a ++ s').Perm l ∧ (∀ q, Srt (keyF sp) (blk 20 (l1.take a ++ s') q)) ∧ OrdAt w1 g (l1.take a ++ s') rest ∧ Chg (fun k => k = g) w w1 by
        refine ⟨?_, ?_, by have := H1.out.2.2.1; rw [List.append_nil] at this; exact this, HJ.out.2.2.2.2.2.2.trans H1.out.2.2.2⟩
        · refine List.Perm.trans ?_ HJ.out.2.2.2.1
          have := H1.out.1.append_left (l1.take a)
          rw [List.take_append_drop] at this
          exact this
        · obtain ⟨j, hj⟩ := HJ.out.2.2.1
          refine done_last (s := l1.drop a) (j := j) (by rw [HT.out.1, hj]) (by rw [H1.out.1.length_eq, HT.out.2]; have := HJ.out.1; have := HLT.out; omega) ?_ H1.out.2.1
          rw [List.take_append_drop, ← hj]
          exact HJ.out.2.2.2.2.1)
      obtain ⟨l2, hl2⟩ : ∃ q, l1.take a ++ s' = q := ⟨_, rfl⟩
      rw [hl2] at H2
      clear HC HT HLT HMM HKW HLN HJ H1 hl2 hd
      obtain ⟨wo, rfl⟩ : ∃ wo : World, wo = w1 := ⟨_, rfl⟩
      go_loopw [6] (fun vb wr => ∃ (bs : Nat) (l1 : List Int), vb = .int .i64 bs ∧ bs ≤ 2000 ∧ Hid (0 < bs ∧ l1.Perm l ∧ (∀ q, Srt (keyF sp) (blk bs l1 q)) ∧ OrdAt wr g l1 rest ∧ Chg (fun k => k = g) w wr)) (fun vb _ => n - (intOf vb).toNat)
      case atStart => exact ⟨20, l2, rfl, by omega, Lib.hid ⟨by omega, H2.out⟩⟩
      case round =>
        clear H2
        obtain ⟨bs, l3, rfl, hbs1, HJ⟩ := hrel
        by_cases hlt : bs < n
        · have hd1 : decide (bs < n) = true := decide_eq_true hlt
          obtain ⟨d, hd⟩ : ∃ d, 2 * bs = d := ⟨_, rfl⟩
          have z1 : (2 : Int) * (bs : Int) = (d : Int) := by omega
          have z2 : (bs : Int) * 2 = (d : Int) := by omega
          have hdd : d ≤ 4000 := by omega
          have HD := Lib.hid (show d = bs + bs by omega)
          have HLT := Lib.hid hlt
          clear hd hlt
          go_wp2
          clear z1
          obtain ⟨wp, rfl⟩ : ∃ wp : World, wp = wr := ⟨_, rfl⟩
          go_loopw [7, 8] (fun va vb wr => ∃ (a b : Nat) (l1 : List Int), va = .int .i64 a ∧ vb = .int .i64 b ∧ a ≤ 1000 ∧ b ≤ 5000 ∧ Hid (b = a + d ∧ a ≤ n ∧ (∃ j, a = j * d) ∧ l1.Perm l ∧ Done (keyF sp) d l1 a ∧ (∀ q, a ≤ q * bs → Srt (keyF sp) (blk bs l1 q)) ∧ OrdAt wr g l1 rest ∧ Chg (fun k => k = g) w wr)) (fun va _ _ => n - (intOf va).toNat)
          case atStart => exact ⟨0, d, l3, rfl, by first | rfl | go_num, by omega, by omega, Lib.hid ⟨(Nat.zero_add d).symm, Nat.zero_le _, ⟨0, (Nat.zero_mul d).symm⟩, HJ.out.2.1, fun q hq => by have := HJ.out.1; have := HD.out; omega, fun q _ => HJ.out.2.2.1 q, HJ.out.2.2.2.1, HJ.out.2.2.2.2⟩⟩
          case round =>
            have HBS := Lib.hid HJ.out.1
            clear HJ
            obtain ⟨a, b, l4, rfl, rfl, ha1, hb1, HJ⟩ := hrel
            have HLN := Lib.hid (show l4.length = n by rw [HJ.out.2.2.2.1.length_eq]; exact HL.out)
            have HMM := Lib.hid (mem_perm HM.out HJ.out.2.2.2.1)
            have HKW := Lib.hid (KeysAt.chg HK.out HJ.out.2.2.2.2.2.2.2 HG.out.1 HG.out.2)
            obtain ⟨mm, hmm⟩ : ∃ mm, a + bs = mm := ⟨_, rfl⟩
            have z3 : (a : Int) + (bs : Int) = (mm : Int) := by omega
            have hmm1 : mm ≤ 3000 := by omega
            have HMN := Lib.hid hmm
            have HU := Lib.hid (show Srt (keyF sp) ((l4.drop a).take bs) ∧ Srt (keyF sp) ((l4.drop mm).take bs) by
              obtain ⟨j, hj⟩ := HJ.out.2.2.1
              have e1 : a = (2 * j) * bs := by rw [hj, HD.out, ← Nat.two_mul, ← Nat.mul_assoc, Nat.mul_comm j 2]
              have e2 : mm = (2 * j + 1) * bs := by rw [Nat.add_mul, Nat.one_mul, ← e1]; exact hmm.symm
              have h1 := HJ.out.2.2.2.2.2.1 (2 * j) (by omega)
              have h2 := HJ.out.2.2.2.2.2.1 (2 * j + 1) (by omega)
              unfold blk at h1 h2
              rw [← e1] at h1
              rw [← e2] at h2
              exact ⟨h1, h2⟩)
            clear hmm
            by_cases hbn : b ≤ n
            · have hd2 : decide (b ≤ n) = true := decide_eq_true hbn
              have HLT2 := Lib.hid hbn
              have HT := Lib.hid (show (l4.take a).length = a ∧ ((l4.drop a).take bs).length = bs ∧ ((l4.drop mm).take bs).length = bs ∧ (l4.drop (mm + bs)).length = n - b by
                have := HJ.out.1; have := HLN.out; have := HD.out; have := HMN.out
                rw [List.length_take, List.length_take, List.length_take, List.length_drop, List.length_drop, List.length_drop]; omega)
              have HCT := Lib.hid (show l4 = l4.take a ++ (l4.drop a).take bs ++ (l4.drop mm).take bs ++ l4.drop (mm + bs) by rw [← HMN.out]; exact cut4 l4 a bs)
              have HC := Lib.hid (sym_all (c := c) (gb := gb) (gs := gs) (sp := sp) (rest := rest) hn hm HG.out n (l4.take a) ((l4.drop a).take bs) ((l4.drop mm).take bs) (l4.drop (mm + bs)) a mm b wr (by rw [← HCT.out]; exact HJ.out.2.2.2.2.2.2.1) (by have := HT.out; have := HJ.out.1; have := HD.out; have := HMN.out; omega) HKW.out (by rw [← HCT.out]; exact HMM.out) HT.out.1 (by have := HT.out; have := HMN.out; omega) (by have := HT.out; have := HMN.out; have := HJ.out.1; have := HD.out; omega) (by have := HT.out; have := HBS.out; omega) (by have := HT.out; have := HBS.out; omega) (by have := HT.out; have := HJ.out.1; have := HD.out; omega))
              clear hbn
              go_wp2_with ((with_reducible refine (HC.out).mono ?_); rintro e w1 ⟨rfl, s', p1, c1, o1, h1⟩; have H1 := Lib.hid (And.intro p1 (And.intro (c1 HU.out.1 HU.out.2) (And.intro o1 h1))); clear p1 c1 o1 h1)
              go_roundw
              case rel => exact ⟨b, b + d, l4.take a ++ s' ++ l4.drop (mm + bs), rfl, by first | go_num | (congr 1; omega), by have := HLT2.out; omega, by have := HLT2.out; omega, Lib.hid ⟨rfl, HLT2.out, by obtain ⟨j, hj⟩ := HJ.out.2.2.1; exact ⟨j + 1, by have := HJ.out.1; rw [Nat.add_mul, Nat.one_mul, ← hj]; exact this⟩, by
                refine List.Perm.trans ?_ HJ.out.2.2.2.1
                have := perm_mid (l4.take a) (l4.drop (mm + bs)) H1.out.1
                rw [← List.append_assoc (l4.take a), ← HCT.out] at this
                exact this, by
                obtain ⟨j, hj⟩ := HJ.out.2.2.1
                rw [HJ.out.1, hj]
                refine done_more (s := (l4.drop a).take bs ++ (l4.drop mm).take bs) (by have := HBS.out; have := HD.out; omega) (by rw [← hj]; exact HT.out.1) (by rw [List.length_append]; have := HT.out; have := HD.out; omega) (by rw [H1.out.1.length_eq, List.length_append]; have := HT.out; have := HD.out; omega) ?_ H1.out.2.1
                have := HJ.out.2.2.2.2.1
                rw [hj] at this
                rw [← hj, ← List.append_assoc (l4.take a), ← HCT.out, hj]
                exact this, by
                intro q hq
                have h2 := HJ.out.2.2.2.2.2.1 q (by have := HJ.out.1; omega)
                rw [HCT.out, List.append_assoc (l4.take a)] at h2
                rw [blk_post (x' := l4.take a ++ ((l4.drop a).take bs ++ (l4.drop mm).take bs)) (by rw [List.length_append, List.length_append, H1.out.1.length_eq]) (by rw [List.length_append, H1.out.1.length_eq, List.length_append]; have := HT.out; have := HD.out; have := HJ.out.1; omega)]
                exact h2, H1.out.2.2.1, HJ.out.2.2.2.2.2.2.2.trans H1.out.2.2.2⟩⟩
              case measure => have := HLT2.out; have := HJ.out.1; have := HD.out; have := HBS.out; simp [intOf]; omega
            · have hd2 : decide (b ≤ n) = false := decide_eq_false hbn
              have HLT2 := Lib.hid hbn
              clear hbn
              by_cases hmn : mm < n
              · have hd3 : decide (mm < n) = true := decide_eq_true hmn
                have HLT3 := Lib.hid hmn
                have HT := Lib.hid (show (l4.take a).length = a ∧ ((l4.drop a).take bs).length = bs ∧ (l4.drop mm).length = n - mm by
                  have := HJ.out.1; have := HLN.out; have := HD.out; have := HMN.out
                  rw [List.length_take, List.length_take, List.length_drop, List.length_drop]; omega)
                have HCT := Lib.hid (show l4 = l4.take a ++ (l4.drop a).take bs ++ l4.drop mm ++ [] by rw [← HMN.out]; exact cut4' l4 a bs)
                have HU2 := Lib.hid (show Srt (keyF sp) (l4.drop mm) by
                  have := HU.out.2
                  rw [List.take_of_length_le (by have := HT.out; have := HLT2.out; have := HJ.out.1; have := HD.out; have := HMN.out; omega)] at this
                  exact this)
                have HC := Lib.hid (sym_all (c := c) (gb := gb) (gs := gs) (sp := sp) (rest := rest) hn hm HG.out n (l4.take a) ((l4.drop a).take bs) (l4.drop mm) [] a mm n wr (by rw [← HCT.out]; exact HJ.out.2.2.2.2.2.2.1) (by have := HT.out; have := HMN.out; simp only [List.length_nil]; omega) HKW.out (by rw [← HCT.out]; exact HMM.out) HT.out.1 (by have := HT.out; have := HMN.out; omega) (by have := HT.out; omega) (by have := HT.out; have := HBS.out; omega) (by have := HT.out; omega) (by have := HT.out; have := HMN.out; omega))
                clear hmn
                go_wp2_with ((with_reducible refine (HC.out).mono ?_); rintro e w1 ⟨rfl, s', p1, c1, o1, h1⟩; have H1 := Lib.hid (And.intro p1 (And.intro (c1 HU.out.1 HU2.out) (And.intro o1 h1))); clear p1 c1 o1 h1)
                go_roundw
                case rel => exact ⟨d, l4.take a ++ s', by first | rfl | go_num, by have := HLT.out; have := HD.out; omega, Lib.hid ⟨by have := HD.out; have := HBS.out; omega, by
                  refine List.Perm.trans ?_ HJ.out.2.2.2.1
                  have := perm_mid (l4.take a) [] H1.out.1
                  rw [← List.append_assoc (l4.take a), ← HCT.out, List.append_nil] at this
                  exact this, by
                  obtain ⟨j, hj⟩ := HJ.out.2.2.1
                  refine done_last (s := l4.drop a) (j := j) (by rw [HT.out.1, hj]) (by rw [H1.out.1.length_eq, List.length_append]; have := HT.out; have := HLT2.out; have := HJ.out.1; have := HMN.out; have := HD.out; omega) ?_ H1.out.2.1
                  rw [List.take_append_drop, ← hj]
                  exact HJ.out.2.2.2.2.1, by have := H1.out.2.2.1; rw [List.append_nil] at this; exact this, HJ.out.2.2.2.2.2.2.2.trans H1.out.2.2.2⟩⟩
                case measure => have := HLT.out; have := HD.out; have := HBS.out; simp [intOf]; omega
              · have hd3 : decide (mm < n) = false := decide_eq_false hmn
                have HLT3 := Lib.hid hmn
                clear hmn
                go_wp2
                go_roundw
                case rel => exact ⟨d, l4, by first | rfl | go_num, by have := HLT.out; have := HD.out; omega, Lib.hid ⟨by have := HD.out; have := HBS.out; omega, HJ.out.2.2.2.1, by
                  obtain ⟨j, hj⟩ := HJ.out.2.2.1
                  have hln : (l4.drop a).length ≤ bs := by rw [List.length_drop]; have := HLN.out; have := HLT3.out; have := HMN.out; omega
                  have h1 := done_last (key := keyF sp) (k := d) (x := l4.take a) (s := l4.drop a) (s' := l4.drop a) (j := j) (by rw [List.length_take, ← hj]; have := HJ.out.2.1; have := HLN.out; omega) (by have := HD.out; omega) (by rw [List.take_append_drop, ← hj]; exact HJ.out.2.2.2.2.1) (by have := HU.out.1; rw [List.take_of_length_le hln] at this; exact this)
                  rw [List.take_append_drop] at h1
                  exact h1, HJ.out.2.2.2.2.2.2.1, HJ.out.2.2.2.2.2.2.2⟩⟩
                case measure => have := HLT.out; have := HD.out; have := HBS.out; simp [intOf]; omega
        · have hd1 : decide (bs < n) = false := decide_eq_false hlt
          have HLT := Lib.hid hlt
          clear hlt
          go_wp2
          refine bodyPost_end (v := .tuple #[]) (results_none rfl _ _ _) rfl ?_
          refine ⟨rfl, l3, HJ.out.2.1, ?_, HJ.out.2.2.2.1, HJ.out.2.2.2.2⟩
          have := HJ.out.2.2.1 0
          rw [blk_one (by rw [HJ.out.2.1.length_eq, HL.out]; have := HLT.out; omega)] at this
          exact this

set_option maxRecDepth 100000 in
set_option maxHeartbeats 4000000 in
/-- slices.SortStableFunc: sorted. -/
theorem SortStable_all {g n c gb gs m : Nat} {sp : List (Int × Int)} {l : List Int} {rest : List Value} (w : World) (hr : OrdAt w g l rest) (hl : l.length = n) (hk : KeysAt w gb gs m sp) (hm : m ≤ 1000) (hn : n ≤ 1000) (hmem : ∀ x ∈ l, 0 ≤ x ∧ x < (m : Int)) (hg : gb ≠ g ∧ gs ≠ g) :
    Calls Tryd.prog 34 #[.slice (some ⟨g, 0, none⟩) n c, .func (.func 35) #[] #[.pointer (some ⟨gb, 0, none⟩)]] w fun e w' => e = .returned (.tuple #[]) ∧ ∃ s, s.Perm l ∧ Srt (keyF sp) s ∧ OrdAt w' g s rest ∧ Chg (fun k => k = g) w w' := by
  have HC := Lib.hid (stable_all (c := c) (rest := rest) w hr hl hk hm hn hmem hg)
  clear hr hl hk hmem hg
  go_enter Tryd.func34, Tryd.ntmps34
  go_wp2_with ((with_reducible refine (HC.out).mono ?_); rintro e w1 ⟨rfl, s, h1, h2, h3, h4⟩; have H2 := Lib.hid (And.intro h1 (And.intro h2 (And.intro h3 h4))); clear h1 h2 h3 h4)
  refine bodyPost_end (v := .tuple #[]) (results_none rfl _ _ _) rfl ?_
  exact ⟨rfl, s, H2.out⟩
end Go.Proofs.YtppoiahhaclleaaDoor
