/- alloc.spans: the pass over all operations. -/
import Derived.Test.YtppoiahhaclleaaDoorAllocA
namespace Go.Proofs.YtppoiahhaclleaaDoor
open Go.RowKit

theorem pass_next {ops : List LOp} {E : List Int} {sp : List (Int × Int)} {k : Nat} {o : LOp} (h : ops[k]? = some o) : passTo ops E sp (k + 1) = if o.kind = 16 then ((passTo ops E sp k).1.map (lastF k (E.getD k 0)), (passTo ops E sp k).2 || (passTo ops E sp k).1.any (lasts k (E.getD k 0))) else passTo ops E sp k := by
  simp only [passTo, h]
theorem getD_of {E : List Int} {k : Nat} {e : Int} (h : E[k]? = some e) : E.getD k 0 = e := by rw [List.getD_eq_getElem?_getD, h]; rfl

set_option maxRecDepth 100000 in
set_option maxHeartbeats 4000000 in
theorem spans_l6 {Ao : Option Addr} {gs ge n no co : Nat} {sp : List (Int × Int)} {E : List Int} {ops : List LOp} {G : Nat → Prop} (w : World) (Q : Exit → Act → World → Prop) {u0 u1 u2 u5 u6 u7 u8 u9 u11 u12 u13 u14 u15 u16 u17 u18 u19 u20 u21 u22 u23 u24 u25 u26 u27 u28 u29 u30 u31 u32 u33 u34 u35 u36 u37 u38 u39 u40 u41 u42 u43 u44 u45 u46 u47 u48 u49 u50 u51 u52 u53 u54 u55 u56 u57 u58 u59 u60 u61 u62 u63 u64 u65 u66 u67 u68 u69 u70 u71 u72 u76 u77 u78 u79 u80 u81 u82 u83 u84 u85 u86 u87 u88 u89 u90 u91 u92 u93 u94 u95 u96 u97 u98 u99 u100 u101 u102 u103 u104 u105 u106 u107 u108 u109 u110 u111 u112 u113 u114 u115 u116 u117 u118 u119 u120 u121 u122 u123 u124 u125 u126 u127 u128 u129 u130 u131 : Value} (hg : SpansAt w gs sp) (hn : sp.length = n) (hE : EndsAt w ge E) (hle : E.length = no) (hO : OpsAt w G (.slice Ao no co) ops) (hlo : ops.length = no) (hF : ∀ k, G k → k < w.heap.size ∧ k ≠ gs) (hgg : gs ≠ ge) (hn3 : n ≤ 1000) (hn4 : no ≤ 65536)
    (k1 : ∀ (v11 v12 v13 v14 v75 v76 v77 v78 v79 v80 v81 v82 v83 v84 v85 v86 v87 v88 v89 v90 v91 v92 v93 v94 v95 v96 v97 v98 v99 v100 v101 v102 v103 v104 v105 v106 v107 v108 v109 v110 v111 v112 v113 v114 v115 v116 v117 v118 v119 v120 v121 v122 v123 v124 v125 v126 v127 v128 v129 v130 : Value) (w' : World), Chg (fun k => k = gs) w w' → SpansAt w' gs (passF ops E sp).1 → Q (.exit 6) ⟨#[u0, u1, u2, .slice (some ⟨gs, 0, none⟩) n n, .slice (some ⟨ge, 0, none⟩) no no, u5, u6, u7, u8, u9, .bool (passF ops E sp).2, v11, v12, v13, v14, u15, u16, u17, u18, u19, u20, u21, u22, u23, u24, u25, u26, u27, u28, u29, u30, u31, u32, u33, u34, u35, u36, u37, u38, u39, u40, u41, u42, u43, u44, u45, u46, u47, u48, u49, u50, u51, u52, u53, u54, u55, u56, u57, u58, u59, u60, u61, u62, u63, u64, u65, u66, u67, u68, u69, u70, u71, u72, .slice Ao no co, .int .i64 (no : Nat), v75, v76, v77, v78, v79, v80, v81, v82, v83, v84, v85, v86, v87, v88, v89, v90, v91, v92, v93, v94, v95, v96, v97, v98, v99, v100, v101, v102, v103, v104, v105, v106, v107, v108, v109, v110, v111, v112, v113, v114, v115, v116, v117, v118, v119, v120, v121, v122, v123, v124, v125, v126, v127, v128, v129, v130, u131], []⟩ w') : (partL Tryd.f32 6).wp Tryd.prog Q ⟨#[u0, u1, u2, .slice (some ⟨gs, 0, none⟩) n n, .slice (some ⟨ge, 0, none⟩) no no, u5, u6, u7, u8, u9, .bool false, u11, u12, u13, u14, u15, u16, u17, u18, u19, u20, u21, u22, u23, u24, u25, u26, u27, u28, u29, u30, u31, u32, u33, u34, u35, u36, u37, u38, u39, u40, u41, u42, u43, u44, u45, u46, u47, u48, u49, u50, u51, u52, u53, u54, u55, u56, u57, u58, u59, u60, u61, u62, u63, u64, u65, u66, u67, u68, u69, u70, u71, u72, .slice Ao no co, .int .i64 (no : Nat), .int .i64 0, u76, u77, u78, u79, u80, u81, u82, u83, u84, u85, u86, u87, u88, u89, u90, u91, u92, u93, u94, u95, u96, u97, u98, u99, u100, u101, u102, u103, u104, u105, u106, u107, u108, u109, u110, u111, u112, u113, u114, u115, u116, u117, u118, u119, u120, u121, u122, u123, u124, u125, u126, u127, u128, u129, u130, u131], []⟩ w := by
  have HG := Lib.hid hg
  have HN := Lib.hid hn
  have HE0 := Lib.hid hE
  have HOPS := Lib.hid hO
  have HL := Lib.hid (And.intro hlo hle)
  have HGG := Lib.hid (And.intro hgg (lt_of_block hE))
  have HF := Lib.hid hF
  have K1 := Lib.hid k1
  clear hg hn hE hO hlo hle hgg k1 hF
  conv => arg 2; whnf
  go_wp2
  go_loopw [10, 75] (fun bv j wr => ∃ k : Nat, k ≤ no ∧ j = .int .i64 k ∧ bv = .bool (passTo ops E sp k).2 ∧ Chg (fun k => k = gs) w wr ∧ SpansAt wr gs (passTo ops E sp k).1) (fun _ j _ => no - (intOf j).toNat)
  case atStart => exact ⟨0, by omega, rfl, rfl, Chg.refl _ _, HG.out⟩
  case round =>
    obtain ⟨k, hk, rfl, rfl, hch, hca⟩ := hrel
    have HCH := Lib.hid hch
    have HCA := Lib.hid hca
    have HEW := Lib.hid (show EndsAt wr ge E from (hch.block ge HGG.out.2 (fun e => HGG.out.1 e.symm)).trans HE0.out)
    clear hch hca
    by_cases hlt : k < no
    · obtain ⟨o, ho⟩ : ∃ o, ops[k]? = some o := ⟨_, List.getElem?_eq_getElem (by have := HL.out.1; omega)⟩
      obtain ⟨e, he⟩ : ∃ e, E[k]? = some e := ⟨_, List.getElem?_eq_getElem (by have := HL.out.2; omega)⟩
      obtain ⟨g, off, hA, hFg, x0, x1, x2, x3, x4, x5, x6, x7⟩ := HOPS.out.at_ ho
      subst hA
      have hkeep : ∀ j, wr.cell? ⟨g, off + k * 8 + j, none⟩ = w.cell? ⟨g, off + k * 8 + j, none⟩ := fun j => World.cell?_of_block (w := w) (w' := wr) (a := ⟨g, off + k * 8 + j, none⟩) (HCH.out.block g (HF.out g hFg).1 (HF.out g hFg).2)
      have y0 := (hkeep 0).trans x0
      have y1 := (hkeep 1).trans x1
      have y2 := (hkeep 2).trans x2
      have y3 := (hkeep 3).trans x3
      have y4 := (hkeep 4).trans x4
      have y5 := (hkeep 5).trans x5
      have y6 := (hkeep 6).trans x6
      have y7 := (hkeep 7).trans x7
      rw [Nat.add_zero] at y0
      have HNX := Lib.hid (pass_next (E := E) (sp := sp) ho)
      have HEK := Lib.hid he
      have HEG := Lib.hid (getD_of he)
      have i0 : (0 : Int) ≤ (k : Int) := by omega
      have i1 : (k : Int) < (no : Int) := by omega
      obtain ⟨kd, hkd⟩ : ∃ q, o.kind = q := ⟨_, rfl⟩
      have HKD := Lib.hid hkd
      rw [hkd] at y0
      have hb5 : Below wr.heap.size wr (wr.alloc (.cells #[.int .i64 kd, .int .i64 o.d, .int .i64 o.e, .int .i64 o.a, .int .i64 o.b, .int .i64 o.c, .int .i64 o.buf, .int .u64 o.imm] 47)) := (Below.refl _ _).alloc (Nat.le_refl _) _
      have HB5 := Lib.hid hb5
      clear x0 x1 x2 x3 x4 x5 x6 x7 hkeep hFg ho he hkd hb5
      by_cases h16 : kd = 16
      · have e16 : (kd != 16) = false := by rw [h16]; rfl
        have HN2 := Lib.hid (HNX.out.trans (if_pos (by rw [HKD.out]; exact h16)))
        obtain ⟨bb, hbb⟩ : ∃ x, (passTo ops E sp k).2 = x := ⟨_, rfl⟩
        rw [hbb]
        have HBB := Lib.hid hbb
        clear h16 hbb
        go_wp2
        refine wp_code (c := partL Tryd.f32 8) (by kernel_rfl) ?_
        refine spans_l8 (gs := gs) (ge := ge) (n := n) (ne := no) (k := k) (e := e) (b := bb) (sp := (passTo ops E sp k).1) (E := E) _ _ (HCA.out.next HB5.out) (by rw [pass_len]; exact HN.out) (HEW.out.next HB5.out) HEK.out hlt HGG.out.1 hn3 ?_
        intro v13 v14 v85 v86 v87 v88 v89 v90 v91 v92 v93 v94 v95 v96 v97 v98 v99 v100 v101 v102 v103 v104 v105 v106 v107 v108 v109 v110 v111 v112 v113 v114 v115 v116 v117 v118 v119 v120 v121 v122 v123 v124 v125 v126 v127 v128 v129 w8 hch8 hsp8
        have HCH8 := Lib.hid hch8
        have HSP8 := Lib.hid hsp8
        clear hch8 hsp8
        go_wp2
        go_roundw
        case rel => exact ⟨k + 1, by omega, by go_num, by rw [HN2.out, HEG.out, HBB.out], HCH.out.trans ((Chg.of_below HB5.out).trans HCH8.out), by rw [HN2.out, HEG.out]; exact HSP8.out⟩
        case measure => simp [intOf]; omega
      · have e16 : (kd != 16) = true := by simpa using h16
        have HN2 := Lib.hid (HNX.out.trans (if_neg (by rw [HKD.out]; exact h16)))
        clear h16
        go_wp2
        go_roundw
        case rel => exact ⟨k + 1, by omega, by go_num, by rw [HN2.out], HCH.out.trans (Chg.of_below HB5.out), by rw [HN2.out]; exact HCA.out.next HB5.out⟩
        case measure => simp [intOf]; omega
    · have HY := Lib.hid (show passTo ops E sp k = passF ops E sp by unfold passF; rw [show k = ops.length by have := HL.out.1; omega])
      have HZ := HCA.out
      rw [HY.out] at HZ
      have HZ := Lib.hid HZ
      rw [HY.out]
      go_wp2
      exact K1.out _ _ _ _ _ _ _ _ _ _ _ _ _ _ _ _ _ _ _ _ _ _ _ _ _ _ _ _ _ _ _ _ _ _ _ _ _ _ _ _ _ _ _ _ _ _ _ _ _ _ _ _ _ _ _ _ _ _ _ _ _ HCH.out HZ.out

end Go.Proofs.YtppoiahhaclleaaDoor
