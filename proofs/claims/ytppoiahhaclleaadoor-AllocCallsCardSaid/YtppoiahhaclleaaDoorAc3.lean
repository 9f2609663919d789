/- ref14.Live, plain: its notes are those of alloc. -/
import Derived.Test.YtppoiahhaclleaaDoorAc2
import Derived.Test.YtppoiahhaclleaaDoorAllocD
import Derived.ChangeKeysEq
import Derived.Laws.StructEq
namespace Go.Proofs.YtppoiahhaclleaaDoor
open Go.RowKit

def rnoteF (s : Int × Int) (i : Int) : Int × Int := (if s.1 < 0 then i else s.1, i)
def rnoteL (sp : List (Int × Int)) (r i : Int) : List (Int × Int) := sp.modify r.toNat (fun s => rnoteF s i)
theorem rnote_same {s : Int × Int} {i : Int} (h : s.2 ≤ i) : rnoteF s i = noteF s i := by
  unfold rnoteF noteF
  rw [Int.max_eq_right h]
theorem rnoteL_len (sp : List (Int × Int)) (r i : Int) : (rnoteL sp r i).length = sp.length := by simp [rnoteL]
theorem rfold_len (l : List Int) (i : Int) : ∀ sp : List (Int × Int), (l.foldl (fun sp r => rnoteL sp r i) sp).length = sp.length := by
  induction l with
  | nil => exact fun _ => rfl
  | cons r l ih => intro sp; rw [List.foldl_cons, ih, rnoteL_len]
theorem rnoteL_eq {sp : List (Int × Int)} {r i : Int} (h : ∀ s ∈ sp, s.2 ≤ i) (hr : 0 ≤ r) : rnoteL sp r i = noteR sp r i ∧ ∀ s ∈ noteR sp r i, s.2 ≤ i := by
  unfold rnoteL noteR
  rw [if_pos hr]
  refine ⟨List.ext_getElem? fun j => ?_, fun s hs => ?_⟩
  · rw [List.getElem?_modify, List.getElem?_modify]
    cases hj : sp[j]? with
    | none => rfl
    | some s =>
      have := h s (List.mem_of_getElem? hj)
      simp only [Option.map_eq_map, Option.map_some]
      split
      · rw [rnote_same this]
      · rfl
  · obtain ⟨j, hj⟩ := List.getElem?_of_mem hs
    rw [List.getElem?_modify] at hj
    cases hj2 : sp[j]? with
    | none => rw [hj2] at hj; cases hj
    | some t =>
      have := h t (List.mem_of_getElem? hj2)
      rw [hj2] at hj
      simp only [Option.map_eq_map, Option.map_some, Option.some.injEq] at hj
      split at hj
      · rw [← hj]; unfold noteF; simp only; omega
      · rw [← hj]; exact this
theorem rfold_eq {l : List Int} {i : Int} : ∀ {sp : List (Int × Int)}, (∀ s ∈ sp, s.2 ≤ i) → (∀ r ∈ l, 0 ≤ r) → l.foldl (fun sp r => rnoteL sp r i) sp = l.foldl (fun sp r => noteR sp r i) sp := by
  induction l with
  | nil => exact fun _ _ => rfl
  | cons r l ih =>
    intro sp h hr
    obtain ⟨h1, h2⟩ := rnoteL_eq h (hr r (List.mem_cons_self))
    rw [List.foldl_cons, List.foldl_cons, h1]
    exact ih h2 fun x hx => hr x (List.mem_cons_of_mem _ hx)
theorem fold_mem {l l' : List Int} (h : ∀ j : Nat, (j : Int) ∈ l ↔ (j : Int) ∈ l') (i : Int) (sp : List (Int × Int)) : l.foldl (fun sp r => noteR sp r i) sp = l'.foldl (fun sp r => noteR sp r i) sp := by
  refine List.ext_getElem? fun j => ?_
  rw [notes_fold_get, notes_fold_get]
  simp only [h j]
theorem kind_or {k : Int} (h1 : 1 ≤ k) (h2 : k ≤ 17) : k = 1 ∨ k = 2 ∨ k = 3 ∨ k = 4 ∨ k = 5 ∨ k = 6 ∨ k = 7 ∨ k = 8 ∨ k = 9 ∨ k = 10 ∨ k = 11 ∨ k = 12 ∨ k = 13 ∨ k = 14 ∨ k = 15 ∨ k = 16 ∨ k = 17 := by omega
/-- What an operation takes and makes are its registers. -/
theorem regs_same {p : LP} {o : LOp} (h : fieldsF p o = true) : (∀ j : Nat, (j : Int) ∈ takesF o ++ makesF o ↔ (j : Int) ∈ [o.a, o.b, o.c, o.d, o.e]) ∧ (∀ r ∈ takesF o ++ makesF o, 0 ≤ r ∧ r < p.regs) := by
  obtain ⟨h1, h2, hr⟩ := regs_is h
  obtain ⟨hd, he, ha, hb, hc⟩ := hr
  obtain ⟨k, d, e, a, b, c, buf, imm⟩ := o
  simp only at h1 h2 hd he ha hb hc ⊢
  unfold takesF makesF
  rcases kind_or h1 h2 with rfl | rfl | rfl | rfl | rfl | rfl | rfl | rfl | rfl | rfl | rfl | rfl | rfl | rfl | rfl | rfl | rfl <;>
    simp [kD, kE, kA, kB, kC, kM] at hd he ha hb hc ⊢ <;> (try split) <;> simp_all <;> (refine ⟨fun j => ?_, ?_⟩ <;> omega)
end Go.Proofs.YtppoiahhaclleaaDoor

/- ref14.note; the loops of ref14.Live that note. -/
namespace Go.Proofs.YtppoiahhaclleaaDoor
open Go.RowKit

/-- Spans in a block of arrays of two. -/
def SpansR (w : World) (g : Nat) (sp : List (Int × Int)) : Prop := w.heap[g]? = some (.cells (spV sp).toArray 43 (0, 0))
theorem SpansR.cells {w : World} {g : Nat} {sp : List (Int × Int)} (h : SpansR w g sp) {r : Nat} {s : Int × Int} (hr : sp[r]? = some s) : w.cell? ⟨g, r * 2, none⟩ = some (.int .i64 s.1) ∧ w.cell? ⟨g, r * 2 + 1, none⟩ = some (.int .i64 s.2) :=
  ⟨cell_row h (spV_get hr).1, cell_row h (spV_get hr).2⟩
theorem SpansR.next {w w' : World} {g : Nat} {sp : List (Int × Int)} (h : SpansR w g sp) (hb : Below w.heap.size w w') : SpansR w' g sp := (hb.block g (lt_of_block h)).trans h

set_option maxRecDepth 100000 in
set_option maxHeartbeats 1600000 in
theorem rnote_any (g r n : Nat) (sp : List (Int × Int)) (s : Int × Int) (i : Int) (w : World) (hg : SpansR w g sp) (hr : sp[r]? = some s) (hn : sp.length = n) :
    Calls Tryd.prog 39 #[.slice (some ⟨g, 0, none⟩) n n, .int .i64 (r : Nat), .int .i64 i] w fun e w' => e = .returned (.tuple #[]) ∧ Chg (fun k => k = g) w w' ∧ SpansR w' g (sp.set r (rnoteF s i)) := by
  have hlt := (List.getElem?_eq_some_iff.1 hr).1
  have hc := hg.cells hr
  have hf : ∀ k, w.frozen? ⟨g, k, none⟩ = false := fun k => frozen_row hg k
  obtain ⟨a, ha⟩ : ∃ a, s.1 = a := ⟨_, rfl⟩
  obtain ⟨b, hb⟩ : ∃ a, s.2 = a := ⟨_, rfl⟩
  have hn0 : rnoteF s i = (if a < 0 then i else a, i) := by unfold rnoteF; rw [ha]
  rw [ha, hb] at hc
  have i0 : (0 : Int) ≤ (r : Int) := by omega
  have i1 : (r : Int) < (n : Int) := by omega
  have HN := Lib.hid hn0
  have HG := Lib.hid hg
  have HR := Lib.hid hr
  have HA := Lib.hid (And.intro ha hb)
  have hc0 := hc.1
  have hc1 := hc.2
  have hf0 := hf (r * 2)
  have hf1 := hf (r * 2 + 1)
  clear hg hr ha hb hn0 hc hf hlt hn
  by_cases h0 : a < 0
  · have d0 : decide (a < (0 : Int)) = true := decide_eq_true h0
    have hn2 : rnoteF s i = (i, i) := by rw [HN.out, if_pos h0]
    have hS1 := setCell_row HG.out (r * 2) (.int .i64 i)
    have hS2 := setCell_row hS1 (r * 2 + 1) (.int .i64 i)
    rw [spV_set HR.out i i, ← hn2] at hS2
    have HS2 := Lib.hid hS2
    have hc2 : (w.setCell ⟨g, r * 2, none⟩ (.int .i64 i)).cell? ⟨g, r * 2 + 1, none⟩ = some (.int .i64 b) := cell_row hS1 (by rw [List.getElem?_set_ne (by omega), ← HA.out.2]; exact (spV_get HR.out).2)
    have hf2 : (w.setCell ⟨g, r * 2, none⟩ (.int .i64 i)).frozen? ⟨g, r * 2 + 1, none⟩ = false := frozen_row hS1 _
    clear h0 hn2 hS1 hS2
    go_enter Tryd.func39, Tryd.ntmps39
    go_wp2
    refine bodyPost_end (v := .tuple #[]) (results_none rfl _ _ _) rfl ?_
    exact ⟨rfl, ((Chg.refl (fun k => k = g) w).setCell (.inl rfl) _).setCell (.inl rfl) _, HS2.out⟩
  · have d0 : decide (a < (0 : Int)) = false := decide_eq_false h0
    have hn2 : rnoteF s i = (a, i) := by rw [HN.out, if_neg h0]
    have hS2 := setCell_row HG.out (r * 2 + 1) (.int .i64 i)
    rw [spV_set2 HR.out, HA.out.1, ← hn2] at hS2
    have HS2 := Lib.hid hS2
    clear h0 hn2 hS2
    go_enter Tryd.func39, Tryd.ntmps39
    go_wp2
    refine bodyPost_end (v := .tuple #[]) (results_none rfl _ _ _) rfl ?_
    exact ⟨rfl, (Chg.refl (fun k => k = g) w).setCell (.inl rfl) _, HS2.out⟩
theorem rnoteL_pos {sp : List (Int × Int)} {q : Nat} {i : Int} {s : Int × Int} (h : sp[q]? = some s) : rnoteL sp (q : Int) i = sp.set q (rnoteF s i) := by
  unfold rnoteL
  rw [Int.toNat_natCast]
  refine List.ext_getElem? fun j => ?_
  rw [List.getElem?_modify, List.getElem?_set]
  by_cases e : q = j
  · subst e
    rw [if_pos rfl, h]
    simp [(List.getElem?_eq_some_iff.1 h).1]
  · rw [if_neg e]
    cases sp[j]? <;> simp [e]
theorem rnotes_take {l : List Int} {k : Nat} {r : Int} (h : l[k]? = some r) (sp : List (Int × Int)) (i : Int) : (l.take (k + 1)).foldl (fun sp r => rnoteL sp r i) sp = rnoteL ((l.take k).foldl (fun sp r => rnoteL sp r i) sp) r i := by
  rw [List.take_add_one, h, List.foldl_append]
  rfl

set_option maxRecDepth 100000 in
set_option maxHeartbeats 4000000 in
theorem rl_l4 {Al : Option Addr} {gs n nl cl : Nat} {i : Int} {sp : List (Int × Int)} {l : List Int} {G : Nat → Prop} (w : World) (Q : Exit → Act → World → Prop) {u0 u1 u2 u3 u4 u5 u7 u10 u12 u13 u14 u15 u16 u17 u18 u19 u20 u21 u22 u23 u24 u25 u26 u27 u28 u29 u30 u31 u32 u33 u34 u35 u36 u37 u38 u39 u40 u41 u42 u43 u44 u45 u46 u47 u48 u49 u50 u51 u52 u53 u54 u55 u56 u57 u58 u59 u60 u61 u62 u63 u64 u65 u66 u67 u68 u69 u70 u71 u72 u73 u74 u75 u76 u77 u78 u79 u80 u81 u82 u83 u84 u85 u86 u87 u88 u89 u90 u91 u92 u93 u94 u95 u96 u97 u98 u99 u100 u101 u102 u103 u104 u105 u106 u107 u108 u109 u110 u111 u112 u113 u114 u115 u116 u117 u118 u119 u120 u121 u122 u123 u124 u125 u126 u127 u128 u129 u130 u131 u132 u133 u134 u135 u136 u137 u138 u139 u140 u141 u142 u143 u144 u145 u146 u147 u148 u149 u150 u151 u152 u153 u154 u155 u156 u157 u158 u159 u160 u161 u162 u163 u164 u165 u166 u167 u168 u169 : Value} (hg : SpansR w gs sp) (hn : sp.length = n) (hl : NumsAt w G (.slice Al nl cl) l) (hG : ∀ k, G k → k ≠ gs ∧ k < w.heap.size) (hnl : l.length = nl) (hn3 : nl ≤ 1000) (hr : ∀ r ∈ l, 0 ≤ r ∧ r < n)
    (k1 : ∀ (v11 v57 v58 v59 v60 v61 v62 v63 v64 v65 v66 v67 v68 v69 : Value) (w' : World), Chg (fun k => k = gs) w w' ∧ SpansR w' gs (l.foldl (fun sp r => rnoteL sp r i) sp) → Q (.exit 4) ⟨#[u0, u1, u2, u3, u4, u5, .slice (some ⟨gs, 0, none⟩) n n, u7, .int .i64 i, .slice Al nl cl, u10, v11, u12, u13, u14, u15, u16, u17, u18, u19, u20, u21, u22, u23, u24, u25, u26, u27, u28, u29, u30, u31, u32, u33, u34, u35, u36, u37, u38, u39, u40, u41, u42, u43, u44, u45, u46, u47, u48, u49, u50, u51, u52, u53, u54, u55, u56, v57, v58, v59, v60, v61, v62, v63, v64, v65, v66, v67, v68, v69, u70, u71, u72, u73, u74, u75, u76, u77, u78, u79, u80, u81, u82, u83, u84, u85, u86, u87, u88, u89, u90, u91, u92, u93, u94, u95, u96, u97, u98, u99, u100, u101, u102, u103, u104, u105, u106, u107, u108, u109, u110, u111, u112, u113, u114, u115, u116, u117, u118, u119, u120, u121, u122, u123, u124, u125, u126, u127, u128, u129, u130, u131, u132, u133, u134, u135, u136, u137, u138, u139, u140, u141, u142, u143, u144, u145, u146, u147, u148, u149, u150, u151, u152, u153, u154, u155, u156, u157, u158, u159, u160, u161, u162, u163, u164, u165, u166, u167, u168, u169], []⟩ w') : (partL Tryd.f15 4).wp Tryd.prog Q ⟨#[u0, u1, u2, u3, u4, u5, .slice (some ⟨gs, 0, none⟩) n n, u7, .int .i64 i, .slice Al nl cl, u10, .int .i64 0, u12, u13, u14, u15, u16, u17, u18, u19, u20, u21, u22, u23, u24, u25, u26, u27, u28, u29, u30, u31, u32, u33, u34, u35, u36, u37, u38, u39, u40, u41, u42, u43, u44, u45, u46, u47, u48, u49, u50, u51, u52, u53, u54, u55, u56, u57, u58, u59, u60, u61, u62, u63, u64, u65, u66, u67, u68, u69, u70, u71, u72, u73, u74, u75, u76, u77, u78, u79, u80, u81, u82, u83, u84, u85, u86, u87, u88, u89, u90, u91, u92, u93, u94, u95, u96, u97, u98, u99, u100, u101, u102, u103, u104, u105, u106, u107, u108, u109, u110, u111, u112, u113, u114, u115, u116, u117, u118, u119, u120, u121, u122, u123, u124, u125, u126, u127, u128, u129, u130, u131, u132, u133, u134, u135, u136, u137, u138, u139, u140, u141, u142, u143, u144, u145, u146, u147, u148, u149, u150, u151, u152, u153, u154, u155, u156, u157, u158, u159, u160, u161, u162, u163, u164, u165, u166, u167, u168, u169], []⟩ w := by
  have HG := Lib.hid hg
  have HGG := Lib.hid hG
  have HN := Lib.hid hn
  have HL := Lib.hid hl
  have HNL := Lib.hid hnl
  have HR := Lib.hid hr
  have K1 := Lib.hid k1
  clear hg hG hn hl hnl hr k1
  conv => arg 2; whnf
  go_wp2
  go_loopw [11] (fun j wr => ∃ k : Nat, k ≤ nl ∧ j = .int .i64 k ∧ Hid (Chg (fun k => k = gs) w wr ∧ SpansR wr gs ((l.take k).foldl (fun sp r => rnoteL sp r i) sp))) (fun j _ => nl - (intOf j).toNat)
  case atStart => exact ⟨0, by omega, rfl, Lib.hid ⟨Chg.refl _ _, by simpa using HG.out⟩⟩
  case round =>
    obtain ⟨k, hk, rfl, HJ⟩ := hrel
    by_cases hlt : k < nl
    · obtain ⟨x, hx⟩ : ∃ x, l[k]? = some x := ⟨_, List.getElem?_eq_getElem (by have := HNL.out; omega)⟩
      obtain ⟨b, o, rfl, hb, hc⟩ := HL.out.at_ hx
      have hc2 := (World.cell?_of_block (w := w) (w' := wr) (a := ⟨b, o + k, none⟩) (HJ.out.1.block b (HGG.out b hb).2 (HGG.out b hb).1)).trans hc
      have hx2 := HR.out x (List.mem_of_getElem? hx)
      have HT := Lib.hid (rnotes_take hx sp i)
      have i0 : (0 : Int) ≤ (k : Int) := by omega
      have i1 : (k : Int) < (nl : Int) := by omega
      obtain ⟨q, rfl⟩ : ∃ q : Nat, x = q := ⟨x.toNat, by omega⟩
      have hlen : ((l.take k).foldl (fun sp r => rnoteL sp r i) sp).length = n := by rw [rfold_len]; exact HN.out
      obtain ⟨s, hs⟩ : ∃ s, ((l.take k).foldl (fun sp r => rnoteL sp r i) sp)[q]? = some s := ⟨_, List.getElem?_eq_getElem (by omega)⟩
      have HNT := Lib.hid (rnote_any gs q n _ s i wr HJ.out.2 hs hlen)
      have HP := Lib.hid (rnoteL_pos (i := i) hs)
      clear hx hx2 hlen hs hc hb
      go_wp2_with ((with_reducible refine (HNT.out).mono ?_); rintro e w1 ⟨rfl, hch1, hsp1⟩; have H1 := Lib.hid (And.intro hch1 hsp1); clear hch1 hsp1)
      go_roundw
      case rel => exact ⟨k + 1, by omega, by go_num, Lib.hid ⟨HJ.out.1.trans H1.out.1, by rw [HT.out, HP.out]; exact H1.out.2⟩⟩
      case measure => simp [intOf]; omega
    · have HZ := Lib.hid (show SpansR wr gs (l.foldl (fun sp r => rnoteL sp r i) sp) by have := HJ.out.2; rwa [List.take_of_length_le (by have := HNL.out; omega)] at this)
      go_wp2
      exact K1.out _ _ _ _ _ _ _ _ _ _ _ _ _ _ _ ⟨HJ.out.1, HZ.out⟩

set_option maxRecDepth 100000 in
set_option maxHeartbeats 4000000 in
theorem rl_l6 {Al : Option Addr} {gs n nl cl : Nat} {i : Int} {sp : List (Int × Int)} {l : List Int} {G : Nat → Prop} (w : World) (Q : Exit → Act → World → Prop) {u0 u1 u2 u3 u4 u5 u7 u9 u11 u13 u14 u15 u16 u17 u18 u19 u20 u21 u22 u23 u24 u25 u26 u27 u28 u29 u30 u31 u32 u33 u34 u35 u36 u37 u38 u39 u40 u41 u42 u43 u44 u45 u46 u47 u48 u49 u50 u51 u52 u53 u54 u55 u56 u57 u58 u59 u60 u61 u62 u63 u64 u65 u66 u67 u68 u69 u70 u71 u72 u73 u74 u75 u76 u77 u78 u79 u80 u81 u82 u83 u84 u85 u86 u87 u88 u89 u90 u91 u92 u93 u94 u95 u96 u97 u98 u99 u100 u101 u102 u103 u104 u105 u106 u107 u108 u109 u110 u111 u112 u113 u114 u115 u116 u117 u118 u119 u120 u121 u122 u123 u124 u125 u126 u127 u128 u129 u130 u131 u132 u133 u134 u135 u136 u137 u138 u139 u140 u141 u142 u143 u144 u145 u146 u147 u148 u149 u150 u151 u152 u153 u154 u155 u156 u157 u158 u159 u160 u161 u162 u163 u164 u165 u166 u167 u168 u169 : Value} (hg : SpansR w gs sp) (hn : sp.length = n) (hl : NumsAt w G (.slice Al nl cl) l) (hG : ∀ k, G k → k ≠ gs ∧ k < w.heap.size) (hnl : l.length = nl) (hn3 : nl ≤ 1000) (hr : ∀ r ∈ l, 0 ≤ r ∧ r < n)
    (k1 : ∀ (v12 v70 v71 v72 v73 v74 v75 v76 v77 v78 v79 v80 v81 v82 : Value) (w' : World), Chg (fun k => k = gs) w w' ∧ SpansR w' gs (l.foldl (fun sp r => rnoteL sp r i) sp) → Q (.exit 6) ⟨#[u0, u1, u2, u3, u4, u5, .slice (some ⟨gs, 0, none⟩) n n, u7, .int .i64 i, u9, .slice Al nl cl, u11, v12, u13, u14, u15, u16, u17, u18, u19, u20, u21, u22, u23, u24, u25, u26, u27, u28, u29, u30, u31, u32, u33, u34, u35, u36, u37, u38, u39, u40, u41, u42, u43, u44, u45, u46, u47, u48, u49, u50, u51, u52, u53, u54, u55, u56, u57, u58, u59, u60, u61, u62, u63, u64, u65, u66, u67, u68, u69, v70, v71, v72, v73, v74, v75, v76, v77, v78, v79, v80, v81, v82, u83, u84, u85, u86, u87, u88, u89, u90, u91, u92, u93, u94, u95, u96, u97, u98, u99, u100, u101, u102, u103, u104, u105, u106, u107, u108, u109, u110, u111, u112, u113, u114, u115, u116, u117, u118, u119, u120, u121, u122, u123, u124, u125, u126, u127, u128, u129, u130, u131, u132, u133, u134, u135, u136, u137, u138, u139, u140, u141, u142, u143, u144, u145, u146, u147, u148, u149, u150, u151, u152, u153, u154, u155, u156, u157, u158, u159, u160, u161, u162, u163, u164, u165, u166, u167, u168, u169], []⟩ w') : (partL Tryd.f15 6).wp Tryd.prog Q ⟨#[u0, u1, u2, u3, u4, u5, .slice (some ⟨gs, 0, none⟩) n n, u7, .int .i64 i, u9, .slice Al nl cl, u11, .int .i64 0, u13, u14, u15, u16, u17, u18, u19, u20, u21, u22, u23, u24, u25, u26, u27, u28, u29, u30, u31, u32, u33, u34, u35, u36, u37, u38, u39, u40, u41, u42, u43, u44, u45, u46, u47, u48, u49, u50, u51, u52, u53, u54, u55, u56, u57, u58, u59, u60, u61, u62, u63, u64, u65, u66, u67, u68, u69, u70, u71, u72, u73, u74, u75, u76, u77, u78, u79, u80, u81, u82, u83, u84, u85, u86, u87, u88, u89, u90, u91, u92, u93, u94, u95, u96, u97, u98, u99, u100, u101, u102, u103, u104, u105, u106, u107, u108, u109, u110, u111, u112, u113, u114, u115, u116, u117, u118, u119, u120, u121, u122, u123, u124, u125, u126, u127, u128, u129, u130, u131, u132, u133, u134, u135, u136, u137, u138, u139, u140, u141, u142, u143, u144, u145, u146, u147, u148, u149, u150, u151, u152, u153, u154, u155, u156, u157, u158, u159, u160, u161, u162, u163, u164, u165, u166, u167, u168, u169], []⟩ w := by
  have HG := Lib.hid hg
  have HGG := Lib.hid hG
  have HN := Lib.hid hn
  have HL := Lib.hid hl
  have HNL := Lib.hid hnl
  have HR := Lib.hid hr
  have K1 := Lib.hid k1
  clear hg hG hn hl hnl hr k1
  conv => arg 2; whnf
  go_wp2
  go_loopw [12] (fun j wr => ∃ k : Nat, k ≤ nl ∧ j = .int .i64 k ∧ Hid (Chg (fun k => k = gs) w wr ∧ SpansR wr gs ((l.take k).foldl (fun sp r => rnoteL sp r i) sp))) (fun j _ => nl - (intOf j).toNat)
  case atStart => exact ⟨0, by omega, rfl, Lib.hid ⟨Chg.refl _ _, by simpa using HG.out⟩⟩
  case round =>
    obtain ⟨k, hk, rfl, HJ⟩ := hrel
    by_cases hlt : k < nl
    · obtain ⟨x, hx⟩ : ∃ x, l[k]? = some x := ⟨_, List.getElem?_eq_getElem (by have := HNL.out; omega)⟩
      obtain ⟨b, o, rfl, hb, hc⟩ := HL.out.at_ hx
      have hc2 := (World.cell?_of_block (w := w) (w' := wr) (a := ⟨b, o + k, none⟩) (HJ.out.1.block b (HGG.out b hb).2 (HGG.out b hb).1)).trans hc
      have hx2 := HR.out x (List.mem_of_getElem? hx)
      have HT := Lib.hid (rnotes_take hx sp i)
      have i0 : (0 : Int) ≤ (k : Int) := by omega
      have i1 : (k : Int) < (nl : Int) := by omega
      obtain ⟨q, rfl⟩ : ∃ q : Nat, x = q := ⟨x.toNat, by omega⟩
      have hlen : ((l.take k).foldl (fun sp r => rnoteL sp r i) sp).length = n := by rw [rfold_len]; exact HN.out
      obtain ⟨s, hs⟩ : ∃ s, ((l.take k).foldl (fun sp r => rnoteL sp r i) sp)[q]? = some s := ⟨_, List.getElem?_eq_getElem (by omega)⟩
      have HNT := Lib.hid (rnote_any gs q n _ s i wr HJ.out.2 hs hlen)
      have HP := Lib.hid (rnoteL_pos (i := i) hs)
      clear hx hx2 hlen hs hc hb
      go_wp2_with ((with_reducible refine (HNT.out).mono ?_); rintro e w1 ⟨rfl, hch1, hsp1⟩; have H1 := Lib.hid (And.intro hch1 hsp1); clear hch1 hsp1)
      go_roundw
      case rel => exact ⟨k + 1, by omega, by go_num, Lib.hid ⟨HJ.out.1.trans H1.out.1, by rw [HT.out, HP.out]; exact H1.out.2⟩⟩
      case measure => simp [intOf]; omega
    · have HZ := Lib.hid (show SpansR wr gs (l.foldl (fun sp r => rnoteL sp r i) sp) by have := HJ.out.2; rwa [List.take_of_length_le (by have := HNL.out; omega)] at this)
      go_wp2
      exact K1.out _ _ _ _ _ _ _ _ _ _ _ _ _ _ _ ⟨HJ.out.1, HZ.out⟩
end Go.Proofs.YtppoiahhaclleaaDoor

/- ref14.Live: the pass over all operations. -/
namespace Go.Proofs.YtppoiahhaclleaaDoor
open Go.RowKit


set_option maxRecDepth 100000 in
set_option maxHeartbeats 4000000 in
theorem rl_r33 {gs n ge m r i : Nat} {a q e : Int} {bl : Bool} (w : World) (Q : Exit → Act → World → Prop) {u0 u1 u2 u3 u4 u7 u8 u9 u10 u11 u12 u13 u16 u17 u18 u19 u20 u21 u22 u23 u24 u25 u26 u27 u28 u29 u30 u31 u32 u33 u34 u35 u36 u37 u38 u39 u40 u41 u42 u43 u44 u45 u46 u47 u48 u49 u50 u51 u52 u53 u54 u55 u56 u57 u58 u59 u60 u61 u62 u63 u64 u65 u66 u67 u68 u69 u70 u71 u72 u73 u74 u75 u76 u77 u78 u79 u80 u81 u82 u83 u84 u85 u86 u87 u88 u89 u90 u91 u92 u93 u94 u95 u96 u97 u98 u99 u100 u101 u102 u103 u104 u105 u106 u107 u108 u109 u110 u111 u112 u113 u114 u115 u116 u117 u118 u119 u120 u121 u122 u123 u124 u125 u126 u127 u128 u129 u130 u131 u132 u133 u134 u135 u136 u137 u138 u139 u140 u141 u142 u143 u144 u145 u146 u147 u148 u149 u150 u151 u152 u153 u154 u155 u156 u157 u158 u159 u160 u161 u162 u163 u164 u165 u166 u167 u168 u169 : Value} (ha : w.cell? ⟨gs, r * 2, none⟩ = some (.int .i64 a)) (hq : w.cell? ⟨gs, r * 2 + 1, none⟩ = some (.int .i64 q)) (he : w.cell? ⟨ge, i, none⟩ = some (.int .i64 e)) (hr : r < n) (hi : i < m) (hn : n ≤ 65536) (hm : m ≤ 65536) (hL : lasts i e (a, q) = bl) 
    (k : ∀ (v125 v126 v127 v128 v129 v130 v131 v132 v133 v134 v135 v136 v137 v138 v139 v140 v141 v142 v143 v144 v145 v146 v147 v148 v149 v150 v151 v152 v153 v154 v155 v156 v157 v158 v159 : Value) (w' : World), w' = w.drew → Q .normal ⟨#[u0, u1, u2, u3, u4, .slice (some ⟨ge, 0, none⟩) m m, .slice (some ⟨gs, 0, none⟩) n n, u7, u8, u9, u10, u11, u12, u13, .int .i64 (i : Nat), .int .i64 (r : Nat), u16, u17, u18, u19, u20, u21, u22, u23, u24, u25, u26, u27, u28, u29, u30, u31, u32, u33, u34, u35, u36, u37, u38, u39, u40, u41, u42, u43, u44, u45, u46, u47, u48, u49, u50, u51, u52, u53, u54, u55, u56, u57, u58, u59, u60, u61, u62, u63, u64, u65, u66, u67, u68, u69, u70, u71, u72, u73, u74, u75, u76, u77, u78, u79, u80, u81, u82, u83, u84, u85, u86, u87, u88, u89, u90, u91, u92, u93, u94, u95, u96, u97, u98, u99, u100, u101, u102, u103, u104, u105, u106, u107, u108, u109, u110, u111, u112, u113, u114, u115, u116, u117, u118, u119, u120, u121, u122, u123, u124, v125, v126, v127, v128, v129, v130, v131, v132, v133, v134, v135, v136, v137, v138, v139, v140, v141, v142, v143, v144, v145, v146, v147, v148, v149, v150, v151, v152, v153, v154, v155, v156, v157, v158, v159, .bool bl, u161, u162, u163, u164, u165, u166, u167, u168, u169], []⟩ w') : (partR Tryd.f15 33).wp Tryd.prog Q ⟨#[u0, u1, u2, u3, u4, .slice (some ⟨ge, 0, none⟩) m m, .slice (some ⟨gs, 0, none⟩) n n, u7, u8, u9, u10, u11, u12, u13, .int .i64 (i : Nat), .int .i64 (r : Nat), u16, u17, u18, u19, u20, u21, u22, u23, u24, u25, u26, u27, u28, u29, u30, u31, u32, u33, u34, u35, u36, u37, u38, u39, u40, u41, u42, u43, u44, u45, u46, u47, u48, u49, u50, u51, u52, u53, u54, u55, u56, u57, u58, u59, u60, u61, u62, u63, u64, u65, u66, u67, u68, u69, u70, u71, u72, u73, u74, u75, u76, u77, u78, u79, u80, u81, u82, u83, u84, u85, u86, u87, u88, u89, u90, u91, u92, u93, u94, u95, u96, u97, u98, u99, u100, u101, u102, u103, u104, u105, u106, u107, u108, u109, u110, u111, u112, u113, u114, u115, u116, u117, u118, u119, u120, u121, u122, u123, u124, u125, u126, u127, u128, u129, u130, u131, u132, u133, u134, u135, u136, u137, u138, u139, u140, u141, u142, u143, u144, u145, u146, u147, u148, u149, u150, u151, u152, u153, u154, u155, u156, u157, u158, u159, u160, u161, u162, u163, u164, u165, u166, u167, u168, u169], []⟩ w := by
  have HC := Lib.hid (And.intro ha (And.intro hq he))
  have i0 : (0 : Int) ≤ (r : Int) := by omega
  have i1 : (r : Int) < (n : Int) := by omega
  have i2 : (0 : Int) ≤ (i : Int) := by omega
  have i3 : (i : Int) < (m : Int) := by omega
  have q1 : IntKind.i64.wrap (r : Int) = r := by rw [IntKind.wrap_i64]; omega
  have q2 : IntKind.i64.wrap (i : Int) = i := by rw [IntKind.wrap_i64]; omega
  have HK := Lib.hid k
  have HL := Lib.hid hL
  clear k ha hq he hr hi hL
  conv => arg 2; whnf
  go_wp2
  cases e0 : decide ((0 : Int) ≤ a)
  · skip
    obtain rfl : bl = false := by rw [← HL.out]; unfold lasts; rw [e0]; rfl
    (refine wp_region_lines (fun w_ => w_.cell? ⟨gs, r * 2, none⟩ = some (.int .i64 a) ∧ w_.cell? ⟨gs, r * 2 + 1, none⟩ = some (.int .i64 q) ∧ w_.cell? ⟨ge, i, none⟩ = some (.int .i64 e)) (by kernel_rfl) (by kernel_rfl) HC.out ?_)
    (try simp only [])
    repeat (first | (refine runL_no (by rfl) ?_; (try simp only [Act.put, List.setIfInBounds_toArray, List.set_cons_zero, List.set_cons_succ])) | (refine runL_val (v := ?_) (by rfl) ?_ ?_; rotate_left; (focus (intro w_ hw_; obtain ⟨f1_, f2_, f3_⟩ := hw_; go_simp; (try with_reducible rfl); done)); (try simp only [Act.put, List.setIfInBounds_toArray, List.set_cons_zero, List.set_cons_succ])))
    (refine runL_nil ?_)
    exact HK.out _ _ _ _ _ _ _ _ _ _ _ _ _ _ _ _ _ _ _ _ _ _ _ _ _ _ _ _ _ _ _ _ _ _ _ _ rfl
  cases e1 : decide (a < (i : Int))
  · skip
    obtain rfl : bl = false := by rw [← HL.out]; unfold lasts; rw [e0, e1]; rfl
    (refine wp_region_lines (fun w_ => w_.cell? ⟨gs, r * 2, none⟩ = some (.int .i64 a) ∧ w_.cell? ⟨gs, r * 2 + 1, none⟩ = some (.int .i64 q) ∧ w_.cell? ⟨ge, i, none⟩ = some (.int .i64 e)) (by kernel_rfl) (by kernel_rfl) HC.out ?_)
    (try simp only [])
    repeat (first | (refine runL_no (by rfl) ?_; (try simp only [Act.put, List.setIfInBounds_toArray, List.set_cons_zero, List.set_cons_succ])) | (refine runL_val (v := ?_) (by rfl) ?_ ?_; rotate_left; (focus (intro w_ hw_; obtain ⟨f1_, f2_, f3_⟩ := hw_; go_simp; (try with_reducible rfl); done)); (try simp only [Act.put, List.setIfInBounds_toArray, List.set_cons_zero, List.set_cons_succ])))
    (refine runL_nil ?_)
    exact HK.out _ _ _ _ _ _ _ _ _ _ _ _ _ _ _ _ _ _ _ _ _ _ _ _ _ _ _ _ _ _ _ _ _ _ _ _ rfl
  cases e2 : decide ((i : Int) ≤ q)
  · skip
    obtain rfl : bl = false := by rw [← HL.out]; unfold lasts; rw [e0, e1, e2]; rfl
    (refine wp_region_lines (fun w_ => w_.cell? ⟨gs, r * 2, none⟩ = some (.int .i64 a) ∧ w_.cell? ⟨gs, r * 2 + 1, none⟩ = some (.int .i64 q) ∧ w_.cell? ⟨ge, i, none⟩ = some (.int .i64 e)) (by kernel_rfl) (by kernel_rfl) HC.out ?_)
    (try simp only [])
    repeat (first | (refine runL_no (by rfl) ?_; (try simp only [Act.put, List.setIfInBounds_toArray, List.set_cons_zero, List.set_cons_succ])) | (refine runL_val (v := ?_) (by rfl) ?_ ?_; rotate_left; (focus (intro w_ hw_; obtain ⟨f1_, f2_, f3_⟩ := hw_; go_simp; (try with_reducible rfl); done)); (try simp only [Act.put, List.setIfInBounds_toArray, List.set_cons_zero, List.set_cons_succ])))
    (refine runL_nil ?_)
    exact HK.out _ _ _ _ _ _ _ _ _ _ _ _ _ _ _ _ _ _ _ _ _ _ _ _ _ _ _ _ _ _ _ _ _ _ _ _ rfl
  cases e3 : decide (q < e)
  · skip
    obtain rfl : bl = false := by rw [← HL.out]; unfold lasts; rw [e0, e1, e2, e3]; rfl
    (refine wp_region_lines (fun w_ => w_.cell? ⟨gs, r * 2, none⟩ = some (.int .i64 a) ∧ w_.cell? ⟨gs, r * 2 + 1, none⟩ = some (.int .i64 q) ∧ w_.cell? ⟨ge, i, none⟩ = some (.int .i64 e)) (by kernel_rfl) (by kernel_rfl) HC.out ?_)
    (try simp only [])
    repeat (first | (refine runL_no (by rfl) ?_; (try simp only [Act.put, List.setIfInBounds_toArray, List.set_cons_zero, List.set_cons_succ])) | (refine runL_val (v := ?_) (by rfl) ?_ ?_; rotate_left; (focus (intro w_ hw_; obtain ⟨f1_, f2_, f3_⟩ := hw_; go_simp; (try with_reducible rfl); done)); (try simp only [Act.put, List.setIfInBounds_toArray, List.set_cons_zero, List.set_cons_succ])))
    (refine runL_nil ?_)
    exact HK.out _ _ _ _ _ _ _ _ _ _ _ _ _ _ _ _ _ _ _ _ _ _ _ _ _ _ _ _ _ _ _ _ _ _ _ _ rfl
  obtain rfl : bl = true := by rw [← HL.out]; unfold lasts; rw [e0, e1, e2, e3]; rfl
  (refine wp_region_lines (fun w_ => w_.cell? ⟨gs, r * 2, none⟩ = some (.int .i64 a) ∧ w_.cell? ⟨gs, r * 2 + 1, none⟩ = some (.int .i64 q) ∧ w_.cell? ⟨ge, i, none⟩ = some (.int .i64 e)) (by kernel_rfl) (by kernel_rfl) HC.out ?_)
  (try simp only [])
  repeat (first | (refine runL_no (by rfl) ?_; (try simp only [Act.put, List.setIfInBounds_toArray, List.set_cons_zero, List.set_cons_succ])) | (refine runL_val (v := ?_) (by rfl) ?_ ?_; rotate_left; (focus (intro w_ hw_; obtain ⟨f1_, f2_, f3_⟩ := hw_; go_simp; (try with_reducible rfl); done)); (try simp only [Act.put, List.setIfInBounds_toArray, List.set_cons_zero, List.set_cons_succ])))
  (refine runL_nil ?_)
  exact HK.out _ _ _ _ _ _ _ _ _ _ _ _ _ _ _ _ _ _ _ _ _ _ _ _ _ _ _ _ _ _ _ _ _ _ _ _ rfl

set_option maxRecDepth 100000 in
set_option maxHeartbeats 4000000 in
theorem rl_r34 {gs n ge m r i : Nat} {e : Int} {s : Int × Int} {sp : List (Int × Int)} {E : List Int} (w : World) (Q : Exit → Act → World → Prop) {u0 u1 u2 u3 u4 u7 u8 u9 u10 u11 u12 u13 u16 u17 u18 u19 u20 u21 u22 u23 u24 u25 u26 u27 u28 u29 u30 u31 u32 u33 u34 u35 u36 u37 u38 u39 u40 u41 u42 u43 u44 u45 u46 u47 u48 u49 u50 u51 u52 u53 u54 u55 u56 u57 u58 u59 u60 u61 u62 u63 u64 u65 u66 u67 u68 u69 u70 u71 u72 u73 u74 u75 u76 u77 u78 u79 u80 u81 u82 u83 u84 u85 u86 u87 u88 u89 u90 u91 u92 u93 u94 u95 u96 u97 u98 u99 u100 u101 u102 u103 u104 u105 u106 u107 u108 u109 u110 u111 u112 u113 u114 u115 u116 u117 u118 u119 u120 u121 u122 u123 u124 u125 u126 u127 u128 u129 u130 u131 u132 u133 u134 u135 u136 u137 u138 u139 u140 u141 u142 u143 u144 u145 u146 u147 u148 u149 u150 u151 u152 u153 u154 u155 u156 u157 u158 u159 u160 u161 u162 u163 u164 u165 u166 u167 u168 u169 : Value} (hg : SpansR w gs sp) (hr : sp[r]? = some s) (hn : sp.length = n) (he : EndsAt w ge E) (hE : E[i]? = some e) (hi : i < m) (hn1 : n ≤ 65536) (hm : m ≤ 65536) (hgg : gs ≠ ge)
    (k : ∀ (v161 v162 v163 v164 v165 v166 v167 v168 : Value) (w' : World), SpansR w' gs (sp.set r (s.1, e)) ∧ Chg (fun k => k = gs) w w' → Q .normal ⟨#[u0, u1, u2, u3, u4, .slice (some ⟨ge, 0, none⟩) m m, .slice (some ⟨gs, 0, none⟩) n n, u7, u8, u9, u10, u11, u12, .bool true, .int .i64 (i : Nat), .int .i64 (r : Nat), u16, u17, u18, u19, u20, u21, u22, u23, u24, u25, u26, u27, u28, u29, u30, u31, u32, u33, u34, u35, u36, u37, u38, u39, u40, u41, u42, u43, u44, u45, u46, u47, u48, u49, u50, u51, u52, u53, u54, u55, u56, u57, u58, u59, u60, u61, u62, u63, u64, u65, u66, u67, u68, u69, u70, u71, u72, u73, u74, u75, u76, u77, u78, u79, u80, u81, u82, u83, u84, u85, u86, u87, u88, u89, u90, u91, u92, u93, u94, u95, u96, u97, u98, u99, u100, u101, u102, u103, u104, u105, u106, u107, u108, u109, u110, u111, u112, u113, u114, u115, u116, u117, u118, u119, u120, u121, u122, u123, u124, u125, u126, u127, u128, u129, u130, u131, u132, u133, u134, u135, u136, u137, u138, u139, u140, u141, u142, u143, u144, u145, u146, u147, u148, u149, u150, u151, u152, u153, u154, u155, u156, u157, u158, u159, u160, v161, v162, v163, v164, v165, v166, v167, v168, u169], []⟩ w') : (partR Tryd.f15 34).wp Tryd.prog Q ⟨#[u0, u1, u2, u3, u4, .slice (some ⟨ge, 0, none⟩) m m, .slice (some ⟨gs, 0, none⟩) n n, u7, u8, u9, u10, u11, u12, u13, .int .i64 (i : Nat), .int .i64 (r : Nat), u16, u17, u18, u19, u20, u21, u22, u23, u24, u25, u26, u27, u28, u29, u30, u31, u32, u33, u34, u35, u36, u37, u38, u39, u40, u41, u42, u43, u44, u45, u46, u47, u48, u49, u50, u51, u52, u53, u54, u55, u56, u57, u58, u59, u60, u61, u62, u63, u64, u65, u66, u67, u68, u69, u70, u71, u72, u73, u74, u75, u76, u77, u78, u79, u80, u81, u82, u83, u84, u85, u86, u87, u88, u89, u90, u91, u92, u93, u94, u95, u96, u97, u98, u99, u100, u101, u102, u103, u104, u105, u106, u107, u108, u109, u110, u111, u112, u113, u114, u115, u116, u117, u118, u119, u120, u121, u122, u123, u124, u125, u126, u127, u128, u129, u130, u131, u132, u133, u134, u135, u136, u137, u138, u139, u140, u141, u142, u143, u144, u145, u146, u147, u148, u149, u150, u151, u152, u153, u154, u155, u156, u157, u158, u159, u160, u161, u162, u163, u164, u165, u166, u167, u168, u169], []⟩ w := by
  have HC := Lib.hid (And.intro hg (And.intro hr he))
  have i0 : (0 : Int) ≤ (r : Int) := by omega
  have i1 : (r : Int) < (n : Int) := by have := (List.getElem?_eq_some_iff.1 hr).1; omega
  have i2 : (0 : Int) ≤ (i : Int) := by omega
  have i3 : (i : Int) < (m : Int) := by omega
  have q1 : IntKind.i64.wrap (r : Int) = r := by rw [IntKind.wrap_i64]; omega
  have q2 : IntKind.i64.wrap (i : Int) = i := by rw [IntKind.wrap_i64]; omega
  have HC2 := Lib.hid (hg.cells hr).2
  have HF2 := Lib.hid (frozen_row hg (r * 2 + 1))
  have HE1 := Lib.hid (he.cell hE)
  have hS := setCell_row hg (r * 2 + 1) (.int .i64 e)
  rw [spV_set2 hr] at hS
  have HS := Lib.hid hS
  have HGE := Lib.hid hgg
  have HK := Lib.hid k
  clear k hg hr he hE hS hi hgg
  conv => arg 2; whnf
  go_wp2_with fail
  (refine wp_region_lines (fun w_ => w_.cell? ⟨ge, i, none⟩ = some (.int .i64 e)) (by kernel_rfl) (by kernel_rfl) HE1.out ?_)
  (try simp only [])
  repeat (first | (refine runL_no (by rfl) ?_; (try simp only [Act.put, List.setIfInBounds_toArray, List.set_cons_zero, List.set_cons_succ])) | (refine runL_val (v := ?_) (by rfl) ?_ ?_; rotate_left; (focus (intro w_ hw_; have ce_ := hw_; go_simp; (try with_reducible rfl); done)); (try simp only [Act.put, List.setIfInBounds_toArray, List.set_cons_zero, List.set_cons_succ])) | (refine runL_skip (w1 := w.drew.setCell ⟨gs, r * 2 + 1, none⟩ (.int .i64 e)) (by rfl) (by rfl) (exec_store1 3 _ _ rfl gs (r * 2 + 1) _ rfl rfl (by kernel_rfl) (by show (World.cell? w _).isSome = true; rw [HC2.out]; rfl) HF2.out rfl) (.inr (by exact (show (w.setCell ⟨gs, r * 2 + 1, none⟩ (.int .i64 e)).cell? ⟨ge, i, none⟩ = _ from (World.cell?_of_block (w := w) (a := ⟨ge, i, none⟩) (Below.heap_setCell _ _ _ _ (fun e => HGE.out e.symm))).trans HE1.out))) ?_; (try simp only [Act.put])))
  (refine runL_nil ?_)
  exact HK.out _ _ _ _ _ _ _ _ _ ⟨HS.out, (Chg.refl (fun k => k = gs) w).drew.setCell (p := ⟨gs, r * 2 + 1, none⟩) (.inl rfl) _⟩

set_option maxRecDepth 100000 in
set_option maxHeartbeats 8000000 in
theorem rl_l12 {bp gs ge n no co k g off : Nat} {e : Int} {b : Bool} {sp : List (Int × Int)} {E : List Int} (w : World) (Q : Exit → Act → World → Prop) {u0 u2 u3 u4 u7 u8 u9 u10 u11 u12 u16 u17 u18 u19 u20 u21 u22 u23 u24 u25 u26 u27 u28 u29 u30 u31 u32 u33 u34 u35 u36 u37 u38 u39 u40 u41 u42 u43 u44 u45 u46 u47 u48 u49 u50 u51 u52 u53 u54 u55 u56 u57 u58 u59 u60 u61 u62 u63 u64 u65 u66 u67 u68 u69 u70 u71 u72 u73 u74 u75 u76 u77 u78 u79 u80 u81 u82 u83 u84 u85 u86 u87 u88 u89 u90 u91 u92 u93 u94 u95 u96 u97 u98 u99 u100 u101 u102 u103 u104 u105 u106 u107 u108 u109 u110 u111 u112 u113 u114 u115 u116 u117 u118 u119 u120 u121 u122 u123 u124 u125 u126 u127 u128 u129 u130 u131 u132 u133 u134 u135 u136 u137 u138 u139 u140 u141 u142 u143 u144 u145 u146 u147 u148 u149 u150 u151 u152 u153 u154 u155 u156 u157 u158 u159 u160 u161 u162 u163 u164 u165 u166 u167 u168 u169 : Value} (hg : SpansR w gs sp) (hn : sp.length = n) (hE : EndsAt w ge E) (hk : E[k]? = some e) (hne : k < no) (hno : no ≤ 65536) (hgg : gs ≠ ge) (hn3 : n ≤ 1000)
    (hb0 : w.cell? ⟨bp, 0, none⟩ = some (.int .i64 (n : Nat))) (hb2 : w.cell? ⟨bp, 2, none⟩ = some (.slice (some ⟨g, off, none⟩) no co)) (hkd : w.cell? ⟨g, off + k * 8, none⟩ = some (.int .i64 16)) (hbp : bp < w.heap.size ∧ bp ≠ gs) (hgp : g < w.heap.size ∧ g ≠ gs)
    (k1 : ∀ (v15 v110 v111 v112 v113 v114 v115 v116 v117 v118 v119 v120 v121 v122 v123 v124 v125 v126 v127 v128 v129 v130 v131 v132 v133 v134 v135 v136 v137 v138 v139 v140 v141 v142 v143 v144 v145 v146 v147 v148 v149 v150 v151 v152 v153 v154 v155 v156 v157 v158 v159 v160 v161 v162 v163 v164 v165 v166 v167 v168 : Value) (w' : World), Chg (fun k => k = gs) w w' ∧ SpansR w' gs (sp.map (lastF k e)) → Q (.exit 12) ⟨#[u0, .pointer (some ⟨bp, 0, none⟩), u2, u3, u4, .slice (some ⟨ge, 0, none⟩) no no, .slice (some ⟨gs, 0, none⟩) n n, u7, u8, u9, u10, u11, u12, .bool (b || sp.any (lasts k e)), .int .i64 (k : Nat), v15, u16, u17, u18, u19, u20, u21, u22, u23, u24, u25, u26, u27, u28, u29, u30, u31, u32, u33, u34, u35, u36, u37, u38, u39, u40, u41, u42, u43, u44, u45, u46, u47, u48, u49, u50, u51, u52, u53, u54, u55, u56, u57, u58, u59, u60, u61, u62, u63, u64, u65, u66, u67, u68, u69, u70, u71, u72, u73, u74, u75, u76, u77, u78, u79, u80, u81, u82, u83, u84, u85, u86, u87, u88, u89, u90, u91, u92, u93, u94, u95, u96, u97, u98, u99, u100, u101, u102, u103, u104, u105, u106, u107, u108, u109, v110, v111, v112, v113, v114, v115, v116, v117, v118, v119, v120, v121, v122, v123, v124, v125, v126, v127, v128, v129, v130, v131, v132, v133, v134, v135, v136, v137, v138, v139, v140, v141, v142, v143, v144, v145, v146, v147, v148, v149, v150, v151, v152, v153, v154, v155, v156, v157, v158, v159, v160, v161, v162, v163, v164, v165, v166, v167, v168, u169], []⟩ w') : (partL Tryd.f15 12).wp Tryd.prog Q ⟨#[u0, .pointer (some ⟨bp, 0, none⟩), u2, u3, u4, .slice (some ⟨ge, 0, none⟩) no no, .slice (some ⟨gs, 0, none⟩) n n, u7, u8, u9, u10, u11, u12, .bool b, .int .i64 (k : Nat), .int .i64 0, u16, u17, u18, u19, u20, u21, u22, u23, u24, u25, u26, u27, u28, u29, u30, u31, u32, u33, u34, u35, u36, u37, u38, u39, u40, u41, u42, u43, u44, u45, u46, u47, u48, u49, u50, u51, u52, u53, u54, u55, u56, u57, u58, u59, u60, u61, u62, u63, u64, u65, u66, u67, u68, u69, u70, u71, u72, u73, u74, u75, u76, u77, u78, u79, u80, u81, u82, u83, u84, u85, u86, u87, u88, u89, u90, u91, u92, u93, u94, u95, u96, u97, u98, u99, u100, u101, u102, u103, u104, u105, u106, u107, u108, u109, u110, u111, u112, u113, u114, u115, u116, u117, u118, u119, u120, u121, u122, u123, u124, u125, u126, u127, u128, u129, u130, u131, u132, u133, u134, u135, u136, u137, u138, u139, u140, u141, u142, u143, u144, u145, u146, u147, u148, u149, u150, u151, u152, u153, u154, u155, u156, u157, u158, u159, u160, u161, u162, u163, u164, u165, u166, u167, u168, u169], []⟩ w := by
  have HG := Lib.hid hg
  have HN := Lib.hid hn
  have HE0 := Lib.hid hE
  have HE := Lib.hid hk
  have HGG := Lib.hid (And.intro hgg (lt_of_block hE))
  have HB := Lib.hid (And.intro hb0 (And.intro hb2 hkd))
  have HBP := Lib.hid (And.intro hbp hgp)
  have K1 := Lib.hid k1
  have j0 : (0 : Int) ≤ (k : Int) := by omega
  have j1 : (k : Int) < (no : Int) := by omega
  clear hg hn hE hk hgg k1 hb0 hb2 hkd hbp hgp
  conv => arg 2; whnf
  go_wp2
  go_loopw [13, 15] (fun bv j wr => ∃ (r : Nat) (bb : Bool), r ≤ n ∧ j = .int .i64 r ∧ bv = .bool bb ∧ Hid (bb = (b || (sp.take r).any (lasts k e)) ∧ Chg (fun k => k = gs) w wr ∧ SpansR wr gs (midS k e sp r))) (fun _ j _ => n - (intOf j).toNat)
  case atStart => exact ⟨0, b, by omega, rfl, rfl, Lib.hid ⟨by simp, Chg.refl _ _, by simpa [midS] using HG.out⟩⟩
  case round =>
    obtain ⟨r, bb, hr, rfl, rfl, HJ⟩ := hrel
    have HEW := Lib.hid (show EndsAt wr ge E from (HJ.out.2.1.block ge HGG.out.2 (fun e => HGG.out.1 e.symm)).trans HE0.out)
    have b0 := (World.cell?_of_block (w := w) (w' := wr) (a := ⟨bp, 0, none⟩) (HJ.out.2.1.block bp HBP.out.1.1 HBP.out.1.2)).trans HB.out.1
    have b2 := (World.cell?_of_block (w := w) (w' := wr) (a := ⟨bp, 2, none⟩) (HJ.out.2.1.block bp HBP.out.1.1 HBP.out.1.2)).trans HB.out.2.1
    have b3 := (World.cell?_of_block (w := w) (w' := wr) (a := ⟨g, off + k * 8, none⟩) (HJ.out.2.1.block g HBP.out.2.1 HBP.out.2.2)).trans HB.out.2.2
    by_cases hlt : r < n
    · obtain ⟨s, hs⟩ : ∃ s, sp[r]? = some s := ⟨_, List.getElem?_eq_getElem (by have := HN.out; omega)⟩
      have HSR := Lib.hid hs
      have HMG := Lib.hid (midS_get (i := k) (e := e) hs)
      have HLM := Lib.hid (show (midS k e sp r).length = n by unfold midS; rw [List.length_append, List.length_map, List.length_take, List.length_drop]; have := HN.out; omega)
      obtain ⟨bl, hbl⟩ : ∃ x, lasts k e s = x := ⟨_, rfl⟩
      have HBL := Lib.hid hbl
      have hnd : decide (r < n) = true := decide_eq_true hlt
      clear hs hbl
      go_upto_region 33 with fail
      refine wp_code (c := partR Tryd.f15 33) (by kernel_rfl) ?_
      refine rl_r33 (a := s.1) (q := s.2) (e := e) (bl := bl) _ _ (HJ.out.2.2.cells HMG.out).1 (HJ.out.2.2.cells HMG.out).2 (HEW.out.cell HE.out) hlt hne (by omega) hno HBL.out ?_
      intro v125 v126 v127 v128 v129 v130 v131 v132 v133 v134 v135 v136 v137 v138 v139 v140 v141 v142 v143 v144 v145 v146 v147 v148 v149 v150 v151 v152 v153 v154 v155 v156 v157 v158 v159 w2 hw2
      subst hw2
      clear b0 b2 b3 hnd
      cases bl
      · go_wp2
        go_roundw
        case rel => exact ⟨r + 1, bb, by omega, by go_num, rfl, Lib.hid ⟨by rw [any_step HSR.out, HBL.out, Bool.or_false]; exact HJ.out.1, HJ.out.2.1.drew, by rw [midS_same HSR.out HBL.out]; exact HJ.out.2.2⟩⟩
        case measure => simp [intOf]; omega
      · go_upto_region 34 with fail
        refine wp_code (c := partR Tryd.f15 34) (by kernel_rfl) ?_
        refine rl_r34 (e := e) (s := s) (sp := midS k e sp r) (E := E) _ _ HJ.out.2.2 HMG.out HLM.out HEW.out HE.out hne (by omega) hno HGG.out.1 ?_
        intro v161 v162 v163 v164 v165 v166 v167 v168 w3 h3
        have H3 := Lib.hid h3
        clear h3
        go_wp2
        go_roundw
        case rel => exact ⟨r + 1, true, by omega, by go_num, rfl, Lib.hid ⟨by rw [any_step HSR.out, HBL.out, Bool.or_true], HJ.out.2.1.drew.trans H3.out.2, by rw [midS_next HSR.out, show lastF k e s = (s.1, e) by unfold lastF; rw [HBL.out]; rfl]; exact H3.out.1⟩⟩
        case measure => simp [intOf]; omega
    · have hrn : r = n := by omega
      have HZ := Lib.hid (show SpansR wr gs (sp.map (lastF k e)) by have := HJ.out.2.2; unfold midS at this; rwa [List.take_of_length_le (by have := HN.out; omega), List.drop_of_length_le (by have := HN.out; omega), List.append_nil] at this)
      have HY := Lib.hid (show bb = (b || sp.any (lasts k e)) by rw [HJ.out.1, List.take_of_length_le (by have := HN.out; omega)])
      have hnd : decide (r < n) = false := decide_eq_false hlt
      clear hrn
      go_wp2
      rw [HY.out]
      exact K1.out _ _ _ _ _ _ _ _ _ _ _ _ _ _ _ _ _ _ _ _ _ _ _ _ _ _ _ _ _ _ _ _ _ _ _ _ _ _ _ _ _ _ _ _ _ _ _ _ _ _ _ _ _ _ _ _ _ _ _ _ _ ⟨HJ.out.2.1, HZ.out⟩
end Go.Proofs.YtppoiahhaclleaaDoor

/- ref14.Live: what an operation takes and makes; an end's loop; the pass over all operations. -/
namespace Go.Proofs.YtppoiahhaclleaaDoor
open Go.RowKit


set_option maxRecDepth 100000 in
set_option maxHeartbeats 4000000 in
theorem rl_r13 {bp g off no co k : Nat} {o : LOp} {ops : List LOp} (w : World) (Q : Exit → Act → World → Prop) {u0 u2 u3 u4 u5 u6 u7 u9 u10 u11 u12 u13 u14 u15 u16 u17 u18 u19 u20 u21 u22 u23 u24 u25 u26 u27 u28 u29 u30 u31 u32 u33 u34 u35 u36 u37 u38 u39 u40 u41 u42 u43 u44 u45 u46 u47 u48 u49 u50 u51 u52 u53 u54 u55 u56 u57 u58 u59 u60 u61 u62 u63 u64 u65 u66 u67 u68 u69 u70 u71 u72 u73 u74 u75 u76 u77 u78 u79 u80 u81 u82 u83 u84 u85 u86 u87 u88 u89 u90 u91 u92 u93 u94 u95 u96 u97 u98 u99 u100 u101 u102 u103 u104 u105 u106 u107 u108 u109 u110 u111 u112 u113 u114 u115 u116 u117 u118 u119 u120 u121 u122 u123 u124 u125 u126 u127 u128 u129 u130 u131 u132 u133 u134 u135 u136 u137 u138 u139 u140 u141 u142 u143 u144 u145 u146 u147 u148 u149 u150 u151 u152 u153 u154 u155 u156 u157 u158 u159 u160 u161 u162 u163 u164 u165 u166 u167 u168 u169 : Value} (hO : OpsAt w (fun j => j < w.heap.size) (.slice (some ⟨g, off, none⟩) no co) ops) (ho : ops[k]? = some o) (hlo : ops.length = no) (hno : no ≤ 65536) (hb2 : w.cell? ⟨bp, 2, none⟩ = some (.slice (some ⟨g, off, none⟩) no co)) (hbp : bp < w.heap.size) (hk1 : 1 ≤ o.kind) (hk2 : o.kind ≤ 17)
    (kk : ∀ (v9 v10 v45 v46 v47 v48 v49 v50 v51 v52 v53 v54 v55 v56 : Value) (w' : World), Below w.heap.size w w' ∧ NumsAt w' (New w w') v9 (takesF o) ∧ NumsAt w' (New w w') v10 (makesF o) → Q .normal ⟨#[u0, .pointer (some ⟨bp, 0, none⟩), u2, u3, u4, u5, u6, u7, .int .i64 (k : Nat), v9, v10, u11, u12, u13, u14, u15, u16, u17, u18, u19, u20, u21, u22, u23, u24, u25, u26, u27, u28, u29, u30, u31, u32, u33, u34, u35, u36, u37, u38, u39, u40, u41, u42, u43, u44, v45, v46, v47, v48, v49, v50, v51, v52, v53, v54, v55, v56, u57, u58, u59, u60, u61, u62, u63, u64, u65, u66, u67, u68, u69, u70, u71, u72, u73, u74, u75, u76, u77, u78, u79, u80, u81, u82, u83, u84, u85, u86, u87, u88, u89, u90, u91, u92, u93, u94, u95, u96, u97, u98, u99, u100, u101, u102, u103, u104, u105, u106, u107, u108, u109, u110, u111, u112, u113, u114, u115, u116, u117, u118, u119, u120, u121, u122, u123, u124, u125, u126, u127, u128, u129, u130, u131, u132, u133, u134, u135, u136, u137, u138, u139, u140, u141, u142, u143, u144, u145, u146, u147, u148, u149, u150, u151, u152, u153, u154, u155, u156, u157, u158, u159, u160, u161, u162, u163, u164, u165, u166, u167, u168, u169], []⟩ w') : (partR Tryd.f15 13).wp Tryd.prog Q ⟨#[u0, .pointer (some ⟨bp, 0, none⟩), u2, u3, u4, u5, u6, u7, .int .i64 (k : Nat), u9, u10, u11, u12, u13, u14, u15, u16, u17, u18, u19, u20, u21, u22, u23, u24, u25, u26, u27, u28, u29, u30, u31, u32, u33, u34, u35, u36, u37, u38, u39, u40, u41, u42, u43, u44, u45, u46, u47, u48, u49, u50, u51, u52, u53, u54, u55, u56, u57, u58, u59, u60, u61, u62, u63, u64, u65, u66, u67, u68, u69, u70, u71, u72, u73, u74, u75, u76, u77, u78, u79, u80, u81, u82, u83, u84, u85, u86, u87, u88, u89, u90, u91, u92, u93, u94, u95, u96, u97, u98, u99, u100, u101, u102, u103, u104, u105, u106, u107, u108, u109, u110, u111, u112, u113, u114, u115, u116, u117, u118, u119, u120, u121, u122, u123, u124, u125, u126, u127, u128, u129, u130, u131, u132, u133, u134, u135, u136, u137, u138, u139, u140, u141, u142, u143, u144, u145, u146, u147, u148, u149, u150, u151, u152, u153, u154, u155, u156, u157, u158, u159, u160, u161, u162, u163, u164, u165, u166, u167, u168, u169], []⟩ w := by
  have hlt := (List.getElem?_eq_some_iff.1 ho).1
  have HOP := Lib.hid (fun wr (hb : Below w.heap.size w wr) => (show OpsAt wr (fun j => j < w.heap.size) (.slice (some ⟨g, off, none⟩) no co) ops from Rows.keep hO (SameOn.of_below hb fun _ h => h)).at_ ho)
  have HB2 := Lib.hid (fun wr (hb : Below w.heap.size w wr) => (hb.cell (p := ⟨bp, 2, none⟩) hbp).trans hb2)
  have HTK := Lib.hid (fun wr => show Calls Tryd.prog 29 #[.agg #[.int .i64 o.kind, .int .i64 o.d, .int .i64 o.e, .int .i64 o.a, .int .i64 o.b, .int .i64 o.c, .int .i64 o.buf, .int .u64 o.imm]] wr _ from Takes_any o wr hk1 hk2)
  have HMK := Lib.hid (fun wr => show Calls Tryd.prog 28 #[.agg #[.int .i64 o.kind, .int .i64 o.d, .int .i64 o.e, .int .i64 o.a, .int .i64 o.b, .int .i64 o.c, .int .i64 o.buf, .int .u64 o.imm]] wr _ from Makes_any o wr hk1 hk2)
  have i0 : (0 : Int) ≤ (k : Int) := by omega
  have i1 : (k : Int) < (no : Int) := by omega
  have q1 : IntKind.i64.wrap (k : Int) = k := by rw [IntKind.wrap_i64]; omega
  have HK := Lib.hid kk
  clear hO ho hb2 hbp hk1 hk2 kk hlt hlo
  conv => arg 2; whnf
  go_wp2_with fail
  have hS : Below w.heap.size w w.drew := (Below.refl _ _).drew
  (refine wp_region_lines (Below w.heap.size w) (by kernel_rfl) (by kernel_rfl) (Below.refl w.heap.size w).drew ?_)
  (try simp only [])
  repeat (first | (refine runL_no (by rfl) ?_; (try simp only [Act.put, List.setIfInBounds_toArray, List.set_cons_zero, List.set_cons_succ])) | (refine runL_val (v := ?_) (by rfl) ?_ ?_; rotate_left; (focus (intro w_ hw_; have f0_ := HB2.out w_ hw_; obtain ⟨gg_, oo_, hgo_, hF_, c0_, c1_, c2_, c3_, c4_, c5_, c6_, c7_⟩ := HOP.out w_ hw_; cases hgo_; go_simp; (try with_reducible rfl); done)); (try simp only [Act.put, List.setIfInBounds_toArray, List.set_cons_zero, List.set_cons_succ])) | (refine runL_call (f := ?_) (args := ?_) (w1 := ?_) (by rfl) (by rfl) ?_ ?_; rotate_left 3; (focus (go_simp; refine ⟨⟨?_, ?_⟩, ?_⟩ <;> with_reducible rfl)); (with_reducible refine (HTK.out _).mono ?_); rintro e w1 ⟨vt, rfl, hnt⟩; have HNT := Lib.hid hnt; replace hS := hS.trans (hnt.1.mono hS.size); have HS1 := Lib.hid hS; clear hnt; refine ⟨_, rfl, .inr hS, ?_⟩; (try simp only [Act.put, List.setIfInBounds_toArray, List.set_cons_zero, List.set_cons_succ])) | (refine runL_call (f := ?_) (args := ?_) (w1 := ?_) (by rfl) (by rfl) ?_ ?_; rotate_left 3; (focus (go_simp; refine ⟨⟨?_, ?_⟩, ?_⟩ <;> with_reducible rfl)); (with_reducible refine (HMK.out _).mono ?_); rintro e w2 ⟨vm, rfl, hnm⟩; have HNM := Lib.hid hnm; replace hS := hS.trans (hnm.1.mono hS.size); clear hnm; refine ⟨_, rfl, .inr hS, ?_⟩; (try simp only [Act.put, List.setIfInBounds_toArray, List.set_cons_zero, List.set_cons_succ])))
  (refine runL_nil ?_)
  exact HK.out _ _ _ _ _ _ _ _ _ _ _ _ _ _ _ ⟨hS, (Rows.keep HNT.out.2 (SameOn.of_below HNM.out.1 fun j hj => hj.2)).mono fun j hj => ⟨hj.1, Nat.lt_of_lt_of_le hj.2 HNM.out.1.size⟩, HNM.out.2.mono fun j hj => ⟨Nat.le_trans HS1.out.size hj.1, hj.2⟩⟩

set_option maxRecDepth 100000 in
set_option maxHeartbeats 4000000 in
theorem rl_r23 {bp g off no co k m q gs ge n : Nat} {s : Int × Int} {sp : List (Int × Int)} (w : World) (Q : Exit → Act → World → Prop) {u0 u2 u3 u4 u7 u9 u10 u11 u12 u13 u14 u15 u16 u17 u18 u19 u20 u21 u22 u23 u24 u25 u26 u27 u28 u29 u30 u31 u32 u33 u34 u35 u36 u37 u38 u39 u40 u41 u42 u43 u44 u45 u46 u47 u48 u49 u50 u51 u52 u53 u54 u55 u56 u57 u58 u59 u60 u61 u62 u63 u64 u65 u66 u67 u68 u69 u70 u71 u72 u73 u74 u75 u76 u77 u78 u79 u80 u81 u82 u83 u84 u85 u86 u87 u88 u89 u90 u91 u92 u93 u94 u95 u96 u97 u98 u99 u100 u101 u102 u103 u104 u105 u106 u107 u108 u109 u110 u111 u112 u113 u114 u115 u116 u117 u118 u119 u120 u121 u122 u123 u124 u125 u126 u127 u128 u129 u130 u131 u132 u133 u134 u135 u136 u137 u138 u139 u140 u141 u142 u143 u144 u145 u146 u147 u148 u149 u150 u151 u152 u153 u154 u155 u156 u157 u158 u159 u160 u161 u162 u163 u164 u165 u166 u167 u168 u169 : Value} (hg : SpansR w gs sp) (hs : sp[q]? = some s) (hn : sp.length = n) (hb2 : w.cell? ⟨bp, 2, none⟩ = some (.slice (some ⟨g, off, none⟩) no co)) (he : w.cell? ⟨ge, k, none⟩ = some (.int .i64 (m : Nat))) (hd : w.cell? ⟨g, off + m * 8 + 1, none⟩ = some (.int .i64 (q : Nat))) (hk : k < no) (hm : m < no) (hno : no ≤ 65536) (hqn : (bp < w.heap.size ∧ bp ≠ gs) ∧ (ge < w.heap.size ∧ ge ≠ gs) ∧ (g < w.heap.size ∧ g ≠ gs))
    (kk : ∀ (v90 v91 v92 v93 v94 v95 v96 v97 v98 v99 v100 v101 : Value) (w' : World), SpansR w' gs (sp.set q (rnoteF s k)) ∧ Chg (fun k => k = gs) w w' → Q .normal ⟨#[u0, .pointer (some ⟨bp, 0, none⟩), u2, u3, u4, .slice (some ⟨ge, 0, none⟩) no no, .slice (some ⟨gs, 0, none⟩) n n, u7, .int .i64 (k : Nat), u9, u10, u11, u12, u13, u14, u15, u16, u17, u18, u19, u20, u21, u22, u23, u24, u25, u26, u27, u28, u29, u30, u31, u32, u33, u34, u35, u36, u37, u38, u39, u40, u41, u42, u43, u44, u45, u46, u47, u48, u49, u50, u51, u52, u53, u54, u55, u56, u57, u58, u59, u60, u61, u62, u63, u64, u65, u66, u67, u68, u69, u70, u71, u72, u73, u74, u75, u76, u77, u78, u79, u80, u81, u82, u83, u84, u85, u86, u87, u88, u89, v90, v91, v92, v93, v94, v95, v96, v97, v98, v99, v100, v101, u102, u103, u104, u105, u106, u107, u108, u109, u110, u111, u112, u113, u114, u115, u116, u117, u118, u119, u120, u121, u122, u123, u124, u125, u126, u127, u128, u129, u130, u131, u132, u133, u134, u135, u136, u137, u138, u139, u140, u141, u142, u143, u144, u145, u146, u147, u148, u149, u150, u151, u152, u153, u154, u155, u156, u157, u158, u159, u160, u161, u162, u163, u164, u165, u166, u167, u168, u169], []⟩ w') : (partR Tryd.f15 23).wp Tryd.prog Q ⟨#[u0, .pointer (some ⟨bp, 0, none⟩), u2, u3, u4, .slice (some ⟨ge, 0, none⟩) no no, .slice (some ⟨gs, 0, none⟩) n n, u7, .int .i64 (k : Nat), u9, u10, u11, u12, u13, u14, u15, u16, u17, u18, u19, u20, u21, u22, u23, u24, u25, u26, u27, u28, u29, u30, u31, u32, u33, u34, u35, u36, u37, u38, u39, u40, u41, u42, u43, u44, u45, u46, u47, u48, u49, u50, u51, u52, u53, u54, u55, u56, u57, u58, u59, u60, u61, u62, u63, u64, u65, u66, u67, u68, u69, u70, u71, u72, u73, u74, u75, u76, u77, u78, u79, u80, u81, u82, u83, u84, u85, u86, u87, u88, u89, u90, u91, u92, u93, u94, u95, u96, u97, u98, u99, u100, u101, u102, u103, u104, u105, u106, u107, u108, u109, u110, u111, u112, u113, u114, u115, u116, u117, u118, u119, u120, u121, u122, u123, u124, u125, u126, u127, u128, u129, u130, u131, u132, u133, u134, u135, u136, u137, u138, u139, u140, u141, u142, u143, u144, u145, u146, u147, u148, u149, u150, u151, u152, u153, u154, u155, u156, u157, u158, u159, u160, u161, u162, u163, u164, u165, u166, u167, u168, u169], []⟩ w := by
  have HNT := Lib.hid (rnote_any gs q n sp s (k : Int) w.drew (hg.next (Below.refl _ _).drew) hs hn)
  have HC := Lib.hid (And.intro hb2 (And.intro he hd))
  have HQ := Lib.hid (And.intro (by have := (List.getElem?_eq_some_iff.1 hs).1; omega : q < n) hqn)
  have i0 : (0 : Int) ≤ (k : Int) := by omega
  have i1 : (k : Int) < (no : Int) := by omega
  have i2 : (0 : Int) ≤ (m : Int) := by omega
  have i3 : (m : Int) < (no : Int) := by omega
  have q1 : IntKind.i64.wrap (k : Int) = k := by rw [IntKind.wrap_i64]; omega
  have q2 : IntKind.i64.wrap (m : Int) = m := by rw [IntKind.wrap_i64]; omega
  have HK := Lib.hid kk
  clear hg hs hn hb2 he hd kk hk hm hqn
  conv => arg 2; whnf
  go_wp2_with fail
  (refine wp_region_lines (fun w_ => w_.cell? ⟨bp, 2, none⟩ = some (.slice (some ⟨g, off, none⟩) no co) ∧ w_.cell? ⟨ge, k, none⟩ = some (.int .i64 (m : Nat)) ∧ w_.cell? ⟨g, off + m * 8 + 1, none⟩ = some (.int .i64 (q : Nat))) (by kernel_rfl) (by kernel_rfl) HC.out ?_)
  (try simp only [])
  repeat (first | (refine runL_no (by rfl) ?_; (try simp only [Act.put, List.setIfInBounds_toArray, List.set_cons_zero, List.set_cons_succ])) | (refine runL_val (v := ?_) (by rfl) ?_ ?_; rotate_left; (focus (intro w_ hw_; obtain ⟨f1_, f2_, f3_⟩ := hw_; go_simp; (try with_reducible rfl); done)); (try simp only [Act.put, List.setIfInBounds_toArray, List.set_cons_zero, List.set_cons_succ])) | (refine runL_call (f := ?_) (args := ?_) (w1 := ?_) (by rfl) (by rfl) ?_ ?_; rotate_left 3; (focus (go_simp; refine ⟨⟨?_, ?_⟩, ?_⟩ <;> with_reducible rfl)); (with_reducible refine (HNT.out).mono ?_); rintro e w1 ⟨rfl, hch, hsp⟩; have H1 := Lib.hid (And.intro hch hsp); refine ⟨_, rfl, .inr ⟨(World.cell?_of_block (w := w) (a := ⟨bp, 2, none⟩) (hch.block bp HQ.out.2.1.1 HQ.out.2.1.2)).trans HC.out.1, (World.cell?_of_block (w := w) (a := ⟨ge, k, none⟩) (hch.block ge HQ.out.2.2.1.1 HQ.out.2.2.1.2)).trans HC.out.2.1, (World.cell?_of_block (w := w) (a := ⟨g, off + m * 8 + 1, none⟩) (hch.block g HQ.out.2.2.2.1 HQ.out.2.2.2.2)).trans HC.out.2.2⟩, ?_⟩; clear hch hsp; (try simp only [Act.put, List.setIfInBounds_toArray, List.set_cons_zero, List.set_cons_succ])))
  (refine runL_nil ?_)
  exact HK.out _ _ _ _ _ _ _ _ _ _ _ _ _ ⟨H1.out.2, (Chg.refl (fun k => k = gs) w).drew.trans H1.out.1⟩

set_option maxRecDepth 100000 in
set_option maxHeartbeats 8000000 in
theorem rl_l10 {Ao : Option Addr} {bp gs ge n no co : Nat} {sp : List (Int × Int)} {E : List Int} {ops : List LOp} {G : Nat → Prop} (w : World) (Q : Exit → Act → World → Prop) {u0 u2 u3 u4 u7 u8 u9 u10 u11 u12 u15 u16 u17 u18 u19 u20 u21 u22 u23 u24 u25 u26 u27 u28 u29 u30 u31 u32 u33 u34 u35 u36 u37 u38 u39 u40 u41 u42 u43 u44 u45 u46 u47 u48 u49 u50 u51 u52 u53 u54 u55 u56 u57 u58 u59 u60 u61 u62 u63 u64 u65 u66 u67 u68 u69 u70 u71 u72 u73 u74 u75 u76 u77 u78 u79 u80 u81 u82 u83 u84 u85 u86 u87 u88 u89 u90 u91 u92 u93 u94 u95 u96 u97 u98 u99 u100 u101 u102 u103 u104 u105 u106 u107 u108 u109 u110 u111 u112 u113 u114 u115 u116 u117 u118 u119 u120 u121 u122 u123 u124 u125 u126 u127 u128 u129 u130 u131 u132 u133 u134 u135 u136 u137 u138 u139 u140 u141 u142 u143 u144 u145 u146 u147 u148 u149 u150 u151 u152 u153 u154 u155 u156 u157 u158 u159 u160 u161 u162 u163 u164 u165 u166 u167 u168 u169 : Value} (hg : SpansR w gs sp) (hn : sp.length = n) (hE : EndsAt w ge E) (hle : E.length = no) (hO : OpsAt w G (.slice Ao no co) ops) (hlo : ops.length = no) (hF : ∀ k, G k → k < w.heap.size ∧ k ≠ gs) (hgg : gs ≠ ge) (hn3 : n ≤ 1000) (hn4 : no ≤ 65536)
    (hb0 : w.cell? ⟨bp, 0, none⟩ = some (.int .i64 (n : Nat))) (hb2 : w.cell? ⟨bp, 2, none⟩ = some (.slice Ao no co)) (hbp : bp < w.heap.size ∧ bp ≠ gs)
    (k1 : ∀ (v14 v15 v103 v104 v105 v106 v107 v108 v109 v110 v111 v112 v113 v114 v115 v116 v117 v118 v119 v120 v121 v122 v123 v124 v125 v126 v127 v128 v129 v130 v131 v132 v133 v134 v135 v136 v137 v138 v139 v140 v141 v142 v143 v144 v145 v146 v147 v148 v149 v150 v151 v152 v153 v154 v155 v156 v157 v158 v159 v160 v161 v162 v163 v164 v165 v166 v167 v168 : Value) (w' : World), Chg (fun k => k = gs) w w' ∧ SpansR w' gs (passF ops E sp).1 → Q (.exit 10) ⟨#[u0, .pointer (some ⟨bp, 0, none⟩), u2, u3, u4, .slice (some ⟨ge, 0, none⟩) no no, .slice (some ⟨gs, 0, none⟩) n n, u7, u8, u9, u10, u11, u12, .bool (passF ops E sp).2, v14, v15, u16, u17, u18, u19, u20, u21, u22, u23, u24, u25, u26, u27, u28, u29, u30, u31, u32, u33, u34, u35, u36, u37, u38, u39, u40, u41, u42, u43, u44, u45, u46, u47, u48, u49, u50, u51, u52, u53, u54, u55, u56, u57, u58, u59, u60, u61, u62, u63, u64, u65, u66, u67, u68, u69, u70, u71, u72, u73, u74, u75, u76, u77, u78, u79, u80, u81, u82, u83, u84, u85, u86, u87, u88, u89, u90, u91, u92, u93, u94, u95, u96, u97, u98, u99, u100, u101, u102, v103, v104, v105, v106, v107, v108, v109, v110, v111, v112, v113, v114, v115, v116, v117, v118, v119, v120, v121, v122, v123, v124, v125, v126, v127, v128, v129, v130, v131, v132, v133, v134, v135, v136, v137, v138, v139, v140, v141, v142, v143, v144, v145, v146, v147, v148, v149, v150, v151, v152, v153, v154, v155, v156, v157, v158, v159, v160, v161, v162, v163, v164, v165, v166, v167, v168, u169], []⟩ w') : (partL Tryd.f15 10).wp Tryd.prog Q ⟨#[u0, .pointer (some ⟨bp, 0, none⟩), u2, u3, u4, .slice (some ⟨ge, 0, none⟩) no no, .slice (some ⟨gs, 0, none⟩) n n, u7, u8, u9, u10, u11, u12, .bool false, .int .i64 0, u15, u16, u17, u18, u19, u20, u21, u22, u23, u24, u25, u26, u27, u28, u29, u30, u31, u32, u33, u34, u35, u36, u37, u38, u39, u40, u41, u42, u43, u44, u45, u46, u47, u48, u49, u50, u51, u52, u53, u54, u55, u56, u57, u58, u59, u60, u61, u62, u63, u64, u65, u66, u67, u68, u69, u70, u71, u72, u73, u74, u75, u76, u77, u78, u79, u80, u81, u82, u83, u84, u85, u86, u87, u88, u89, u90, u91, u92, u93, u94, u95, u96, u97, u98, u99, u100, u101, u102, u103, u104, u105, u106, u107, u108, u109, u110, u111, u112, u113, u114, u115, u116, u117, u118, u119, u120, u121, u122, u123, u124, u125, u126, u127, u128, u129, u130, u131, u132, u133, u134, u135, u136, u137, u138, u139, u140, u141, u142, u143, u144, u145, u146, u147, u148, u149, u150, u151, u152, u153, u154, u155, u156, u157, u158, u159, u160, u161, u162, u163, u164, u165, u166, u167, u168, u169], []⟩ w := by
  have HG := Lib.hid hg
  have HN := Lib.hid hn
  have HE0 := Lib.hid hE
  have HOPS := Lib.hid hO
  have HL := Lib.hid (And.intro hlo hle)
  have HGG := Lib.hid (And.intro hgg (lt_of_block hE))
  have HF := Lib.hid hF
  have HB := Lib.hid (And.intro hb0 hb2)
  have HBP := Lib.hid hbp
  have K1 := Lib.hid k1
  clear hg hn hE hO hlo hle hgg k1 hF hb0 hb2 hbp
  conv => arg 2; whnf
  go_wp2
  go_loopw [13, 14] (fun bv j wr => ∃ (k : Nat) (bb : Bool), k ≤ no ∧ j = .int .i64 k ∧ bv = .bool bb ∧ Hid (bb = (passTo ops E sp k).2 ∧ Chg (fun k => k = gs) w wr ∧ SpansR wr gs (passTo ops E sp k).1)) (fun _ j _ => no - (intOf j).toNat)
  case atStart => exact ⟨0, false, by omega, rfl, rfl, Lib.hid ⟨rfl, Chg.refl _ _, HG.out⟩⟩
  case round =>
    obtain ⟨k, bb, hk, rfl, rfl, HJ⟩ := hrel
    have HEW := Lib.hid (show EndsAt wr ge E from (HJ.out.2.1.block ge HGG.out.2 (fun e => HGG.out.1 e.symm)).trans HE0.out)
    have b0 := (World.cell?_of_block (w := w) (w' := wr) (a := ⟨bp, 0, none⟩) (HJ.out.2.1.block bp HBP.out.1 HBP.out.2)).trans HB.out.1
    have b2 := (World.cell?_of_block (w := w) (w' := wr) (a := ⟨bp, 2, none⟩) (HJ.out.2.1.block bp HBP.out.1 HBP.out.2)).trans HB.out.2
    by_cases hlt : k < no
    · obtain ⟨o, ho⟩ : ∃ o, ops[k]? = some o := ⟨_, List.getElem?_eq_getElem (by have := HL.out.1; omega)⟩
      obtain ⟨e, he⟩ : ∃ e, E[k]? = some e := ⟨_, List.getElem?_eq_getElem (by have := HL.out.2; omega)⟩
      obtain ⟨g, off, hA, hFg, x0, x1, x2, x3, x4, x5, x6, x7⟩ := HOPS.out.at_ ho
      subst hA
      have y0 := (World.cell?_of_block (w := w) (w' := wr) (a := ⟨g, off + k * 8, none⟩) (HJ.out.2.1.block g (HF.out g hFg).1 (HF.out g hFg).2)).trans x0
      have HNX := Lib.hid (pass_next (E := E) (sp := sp) ho)
      have HEK := Lib.hid he
      have HEG := Lib.hid (getD_of he)
      have i0 : (0 : Int) ≤ (k : Int) := by omega
      have i1 : (k : Int) < (no : Int) := by omega
      have hkd1 : decide (k < no) = true := decide_eq_true hlt
      obtain ⟨kd, hkd⟩ : ∃ q, o.kind = q := ⟨_, rfl⟩
      have HKD := Lib.hid hkd
      rw [hkd] at y0
      have HGP := Lib.hid (HF.out g hFg)
      clear x0 x1 x2 x3 x4 x5 x6 x7 hFg ho he hkd
      by_cases h16 : kd = 16
      · subst h16
        have HN2 := Lib.hid (HNX.out.trans (if_pos HKD.out))
        have HY := Lib.hid (And.intro b0 (And.intro b2 y0))
        go_wp2
        refine wp_code (c := partL Tryd.f15 12) (by kernel_rfl) ?_
        refine rl_l12 (gs := gs) (ge := ge) (n := n) (no := no) (k := k) (e := e) (b := bb) (sp := (passTo ops E sp k).1) (E := E) (g := g) (off := off) (co := co) _ _ HJ.out.2.2 (by rw [pass_len]; exact HN.out) HEW.out HEK.out hlt hn4 HGG.out.1 hn3 HY.out.1 HY.out.2.1 HY.out.2.2 ⟨Nat.lt_of_lt_of_le HBP.out.1 HJ.out.2.1.size, HBP.out.2⟩ ⟨Nat.lt_of_lt_of_le HGP.out.1 HJ.out.2.1.size, HGP.out.2⟩ ?_
        intro v15 v110 v111 v112 v113 v114 v115 v116 v117 v118 v119 v120 v121 v122 v123 v124 v125 v126 v127 v128 v129 v130 v131 v132 v133 v134 v135 v136 v137 v138 v139 v140 v141 v142 v143 v144 v145 v146 v147 v148 v149 v150 v151 v152 v153 v154 v155 v156 v157 v158 v159 v160 v161 v162 v163 v164 v165 v166 v167 v168 w8 h8
        have H8 := Lib.hid h8
        clear h8 b0 b2 y0
        go_wp2
        go_roundw
        case rel => exact ⟨k + 1, _, by omega, by go_num, rfl, Lib.hid ⟨by rw [HN2.out, HEG.out, HJ.out.1], HJ.out.2.1.trans H8.out.1, by rw [HN2.out, HEG.out]; exact H8.out.2⟩⟩
        case measure => simp [intOf]; omega
      · have e16 : (kd == 16) = false := by simpa using h16
        have HN2 := Lib.hid (HNX.out.trans (if_neg (by rw [HKD.out]; exact h16)))
        clear h16
        by_cases h0 : 0 < n
        · have hd0 : decide (0 < n) = true := decide_eq_true h0
          have hd0' : decide ((0 : Int) < (n : Int)) = true := decide_eq_true (by omega)
          clear h0
          go_wp2
          refine wp_loop_rounds 1 ?_
          rw [rounds_succ]
          go_wp2
          go_roundw
          case rel => exact ⟨k + 1, bb, by omega, by go_num, rfl, Lib.hid ⟨by rw [HN2.out]; exact HJ.out.1, HJ.out.2.1, by rw [HN2.out]; exact HJ.out.2.2⟩⟩
          case measure => simp [intOf]; omega
        · have hd0 : decide (0 < n) = false := decide_eq_false h0
          have hd0' : decide ((0 : Int) < (n : Int)) = false := decide_eq_false (by omega)
          clear h0
          go_wp2
          refine wp_loop_rounds 1 ?_
          rw [rounds_succ]
          go_wp2
          go_roundw
          case rel => exact ⟨k + 1, bb, by omega, by go_num, rfl, Lib.hid ⟨by rw [HN2.out]; exact HJ.out.1, HJ.out.2.1, by rw [HN2.out]; exact HJ.out.2.2⟩⟩
          case measure => simp [intOf]; omega
    · have hkd1 : decide (k < no) = false := decide_eq_false hlt
      have HY := Lib.hid (show passTo ops E sp k = passF ops E sp by unfold passF; rw [show k = ops.length by have := HL.out.1; omega])
      have HZ := HJ.out.2.2
      rw [HY.out] at HZ
      have HZ := Lib.hid HZ
      have HBB := Lib.hid (show bb = (passF ops E sp).2 by rw [← HY.out]; exact HJ.out.1)
      go_wp2
      rw [HBB.out]
      exact K1.out _ _ _ _ _ _ _ _ _ _ _ _ _ _ _ _ _ _ _ _ _ _ _ _ _ _ _ _ _ _ _ _ _ _ _ _ _ _ _ _ _ _ _ _ _ _ _ _ _ _ _ _ _ _ _ _ _ _ _ _ _ _ _ _ _ _ _ _ _ ⟨HJ.out.2.1, HZ.out⟩
end Go.Proofs.YtppoiahhaclleaaDoor


/- alloc.Check: whether places may be. -/
namespace Go.Proofs.YtppoiahhaclleaaDoor
open Go.RowKit

def meetsF (s t : Int × Int) : Bool := decide (0 ≤ s.1) && (decide (0 ≤ t.1) && (decide (s.1 ≤ t.2) && decide (t.1 ≤ s.2)))
def badP (pool : Int) (s : Int × Int) (pl : Int) : Bool := decide (0 ≤ s.1) && (decide (pool ≤ pl) || decide (pl < -64))
def clashP (s t : Int × Int) (a b : Int) : Bool := a == b && meetsF s t
set_option maxRecDepth 100000 in
set_option maxHeartbeats 4000000 in
theorem meets_any (s t : Int × Int) (w : World) : Calls Tryd.prog 46 #[.agg #[.int .i64 s.1, .int .i64 s.2], .agg #[.int .i64 t.1, .int .i64 t.2]] w fun e w' => e = .returned (.bool (meetsF s t)) ∧ Below w.heap.size w w' := by
  obtain ⟨W, hW⟩ : ∃ q, q = (w.alloc (.cells #[.int .i64 s.1, .int .i64 s.2] 68)).alloc (.cells #[.int .i64 t.1, .int .i64 t.2] 68) := ⟨_, rfl⟩
  have hb : Below w.heap.size w W := by rw [hW]; exact ((Below.refl _ _).alloc (Nat.le_refl _) _).alloc (by simp) _
  have z1 : (w.alloc (.cells #[.int .i64 s.1, .int .i64 s.2] 68)).heap.size = w.heap.size + 1 := by simp
  have hz : W.heap.size = w.heap.size + 1 + 1 := by rw [hW]; simp
  have h1 : W.heap[w.heap.size]? = some (.cells #[.int .i64 s.1, .int .i64 s.2] 68 (0, 0)) := by rw [hW]; exact (Below.heap_alloc _ _ _ (by omega)).trans (heap_alloc_new w _)
  have h2 : W.heap[w.heap.size + 1]? = some (.cells #[.int .i64 t.1, .int .i64 t.2] 68 (0, 0)) := by rw [hW, ← z1]; exact heap_alloc_new _ _
  have HLS := Lib.hid (live_any s)
  have HLT := Lib.hid (live_any t)
  obtain ⟨a, ha⟩ : ∃ a, s.1 = a := ⟨_, rfl⟩
  obtain ⟨b, hb2⟩ : ∃ a, s.2 = a := ⟨_, rfl⟩
  obtain ⟨c, hc⟩ : ∃ a, t.1 = a := ⟨_, rfl⟩
  obtain ⟨d, hd⟩ : ∃ a, t.2 = a := ⟨_, rfl⟩
  have hv : meetsF s t = (decide (0 ≤ a) && (decide (0 ≤ c) && (decide (a ≤ d) && decide (c ≤ b)))) := by unfold meetsF; rw [ha, hb2, hc, hd]
  obtain ⟨res, hres⟩ : ∃ x, meetsF s t = x := ⟨_, rfl⟩
  rw [hres] at hv ⊢
  have HR := Lib.hid hv
  rw [ha, hb2] at HLS h1 hW ⊢
  rw [hc, hd] at HLT h2 hW ⊢
  have s0 : W.cell? ⟨w.heap.size, 0, none⟩ = some (.int .i64 a) := by simp only [World.cell?, h1]; rfl
  have s1 : W.cell? ⟨w.heap.size, 1, none⟩ = some (.int .i64 b) := by simp only [World.cell?, h1]; rfl
  have t0 : W.cell? ⟨w.heap.size + 1, 0, none⟩ = some (.int .i64 c) := by simp only [World.cell?, h2]; rfl
  have t1 : W.cell? ⟨w.heap.size + 1, 1, none⟩ = some (.int .i64 d) := by simp only [World.cell?, h2]; rfl
  have HC := Lib.hid (And.intro s0 (And.intro s1 (And.intro t0 t1)))
  have HW := Lib.hid hW
  have HB := Lib.hid hb
  have HZ := Lib.hid hz
  have l0 : w.heap.size < W.heap.size := by omega
  have l1 : w.heap.size + 1 < W.heap.size := by omega
  clear hW hb z1 hz h1 h2 ha hb2 hc hd hv hres
  cases d0 : decide (0 ≤ a)
  · rw [d0] at HLS
    go_enter Tryd.func46, Tryd.ntmps46
    go_upto_region 1 with fail
    rw [← HW.out]
    go_wp2_with ((with_reducible refine (HLS.out _).mono ?_); rintro e w1 ⟨rfl, hb1⟩)
    go_ret
    exact ⟨ret_bool (by rw [HR.out, d0]; rfl), HB.out.trans (hb1.mono HB.out.size)⟩
  rw [d0] at HLS
  go_enter Tryd.func46, Tryd.ntmps46
  go_upto_region 1 with fail
  rw [← HW.out]
  cases d1 : decide (0 ≤ c)
  · rw [d1] at HLT
    go_wp2_with (first | ((with_reducible refine (HLS.out _).mono ?_); rintro e w1 ⟨rfl, hb1⟩; have t0 := (hb1.cell (p := ⟨w.heap.size + 1, 0, none⟩) l1).trans HC.out.2.2.1; have t1 := (hb1.cell (p := ⟨w.heap.size + 1, 1, none⟩) l1).trans HC.out.2.2.2) | ((with_reducible refine (HLT.out _).mono ?_); rintro e w2 ⟨rfl, hb2⟩))
    go_ret
    exact ⟨ret_bool (by rw [HR.out, d0, d1]; rfl), HB.out.trans ((hb1.trans (hb2.mono hb1.size)).mono HB.out.size)⟩
  rw [d1] at HLT
  cases d2 : decide (a ≤ d)
  · go_wp2_with (first | ((with_reducible refine (HLS.out _).mono ?_); rintro e w1 ⟨rfl, hb1⟩; have t0 := (hb1.cell (p := ⟨w.heap.size + 1, 0, none⟩) l1).trans HC.out.2.2.1; have t1 := (hb1.cell (p := ⟨w.heap.size + 1, 1, none⟩) l1).trans HC.out.2.2.2) | ((with_reducible refine (HLT.out _).mono ?_); rintro e w2 ⟨rfl, hb2⟩; have HB2 := Lib.hid (hb1.trans (hb2.mono hb1.size)); have r0 := (HB2.out.cell (p := ⟨w.heap.size, 0, none⟩) l0).trans HC.out.1; have r1 := (HB2.out.cell (p := ⟨w.heap.size, 1, none⟩) l0).trans HC.out.2.1; have r2 := (HB2.out.cell (p := ⟨w.heap.size + 1, 0, none⟩) l1).trans HC.out.2.2.1; have r3 := (HB2.out.cell (p := ⟨w.heap.size + 1, 1, none⟩) l1).trans HC.out.2.2.2))
    go_ret
    exact ⟨ret_bool (by rw [HR.out, d0, d1, d2]; rfl), HB.out.trans (HB2.out.mono HB.out.size)⟩
  cases d3 : decide (c ≤ b)
  · go_wp2_with (first | ((with_reducible refine (HLS.out _).mono ?_); rintro e w1 ⟨rfl, hb1⟩; have t0 := (hb1.cell (p := ⟨w.heap.size + 1, 0, none⟩) l1).trans HC.out.2.2.1; have t1 := (hb1.cell (p := ⟨w.heap.size + 1, 1, none⟩) l1).trans HC.out.2.2.2) | ((with_reducible refine (HLT.out _).mono ?_); rintro e w2 ⟨rfl, hb2⟩; have HB2 := Lib.hid (hb1.trans (hb2.mono hb1.size)); have r0 := (HB2.out.cell (p := ⟨w.heap.size, 0, none⟩) l0).trans HC.out.1; have r1 := (HB2.out.cell (p := ⟨w.heap.size, 1, none⟩) l0).trans HC.out.2.1; have r2 := (HB2.out.cell (p := ⟨w.heap.size + 1, 0, none⟩) l1).trans HC.out.2.2.1; have r3 := (HB2.out.cell (p := ⟨w.heap.size + 1, 1, none⟩) l1).trans HC.out.2.2.2))
    go_ret
    exact ⟨ret_bool (by rw [HR.out, d0, d1, d2, d3]; rfl), HB.out.trans (HB2.out.mono HB.out.size)⟩
  · go_wp2_with (first | ((with_reducible refine (HLS.out _).mono ?_); rintro e w1 ⟨rfl, hb1⟩; have t0 := (hb1.cell (p := ⟨w.heap.size + 1, 0, none⟩) l1).trans HC.out.2.2.1; have t1 := (hb1.cell (p := ⟨w.heap.size + 1, 1, none⟩) l1).trans HC.out.2.2.2) | ((with_reducible refine (HLT.out _).mono ?_); rintro e w2 ⟨rfl, hb2⟩; have HB2 := Lib.hid (hb1.trans (hb2.mono hb1.size)); have r0 := (HB2.out.cell (p := ⟨w.heap.size, 0, none⟩) l0).trans HC.out.1; have r1 := (HB2.out.cell (p := ⟨w.heap.size, 1, none⟩) l0).trans HC.out.2.1; have r2 := (HB2.out.cell (p := ⟨w.heap.size + 1, 0, none⟩) l1).trans HC.out.2.2.1; have r3 := (HB2.out.cell (p := ⟨w.heap.size + 1, 1, none⟩) l1).trans HC.out.2.2.2))
    go_ret
    exact ⟨ret_bool (by rw [HR.out, d0, d1, d2, d3]; rfl), HB.out.trans (HB2.out.mono HB.out.size)⟩

set_option maxRecDepth 100000 in
set_option maxHeartbeats 4000000 in
theorem acheck_l0 {Ap : Option Addr} {cp gs n : Nat} {pool : Int} {sp : List (Int × Int)} {pl : List Int} {G : Nat → Prop} (w : World) (Q : Exit → Act → World → Prop) {u0 u3 u4 u5 u6 u7 u8 u9 u10 u11 u12 u13 u14 u15 u16 u17 u18 u19 u20 u21 u22 u23 u24 u25 u26 u27 u28 u29 u30 u31 u32 u33 u34 u35 u36 u37 u38 u42 u43 u44 u45 u46 u47 u48 u49 u50 u51 u52 u53 u54 u55 u56 u57 u58 u59 u60 u61 u62 u63 u64 u65 u66 u67 u68 u69 u70 u71 u72 u73 u74 u75 u76 u77 u78 u79 u80 u81 u82 u83 u84 u85 u86 u87 u88 u89 u90 u91 u92 u93 u94 u95 : Value} (hg : SpansAt w gs sp) (hn : sp.length = n ∧ pl.length = n) (hp : NumsAt w G (.slice Ap n cp) pl) (hG : ∀ k, G k → k < w.heap.size) (hn3 : n ≤ 1000)
    (k1 : (∀ (k : Nat) (s : Int × Int) (a : Int), sp[k]? = some s → pl[k]? = some a → badP pool s a = false) → ∀ (v6 v10 v11 v41 v42 v43 v44 v45 v46 v47 v48 v49 v50 v51 v52 v53 v54 v55 v56 v57 v58 v59 v60 v61 v62 v63 : Value) (w' : World), Below w.heap.size w w' → Q (.exit 0) ⟨#[u0, .int .i64 pool, .slice Ap n cp, u3, u4, u5, v6, u7, u8, u9, v10, v11, u12, u13, u14, u15, u16, u17, u18, u19, u20, u21, u22, u23, u24, u25, u26, u27, u28, u29, u30, u31, u32, u33, u34, u35, u36, u37, u38, .slice (some ⟨gs, 0, none⟩) n n, .int .i64 (n : Nat), v41, v42, v43, v44, v45, v46, v47, v48, v49, v50, v51, v52, v53, v54, v55, v56, v57, v58, v59, v60, v61, v62, v63, u64, u65, u66, u67, u68, u69, u70, u71, u72, u73, u74, u75, u76, u77, u78, u79, u80, u81, u82, u83, u84, u85, u86, u87, u88, u89, u90, u91, u92, u93, u94, u95], []⟩ w') (k2 : (∃ (k : Nat) (s : Int × Int) (a : Int), sp[k]? = some s ∧ pl[k]? = some a ∧ badP pool s a = true) → ∀ (v10 v11 v41 v42 v43 v44 v45 v46 v47 v48 v49 v50 v51 v52 v53 v54 v55 v56 v57 v58 v59 v60 v61 v62 v63 : Value) (w' : World), Below w.heap.size w w' → Q (.ret) ⟨#[u0, .int .i64 pool, .slice Ap n cp, u3, u4, u5, .int .i64 2, u7, u8, u9, v10, v11, u12, u13, u14, u15, u16, u17, u18, u19, u20, u21, u22, u23, u24, u25, u26, u27, u28, u29, u30, u31, u32, u33, u34, u35, u36, u37, u38, .slice (some ⟨gs, 0, none⟩) n n, .int .i64 (n : Nat), v41, v42, v43, v44, v45, v46, v47, v48, v49, v50, v51, v52, v53, v54, v55, v56, v57, v58, v59, v60, v61, v62, v63, u64, u65, u66, u67, u68, u69, u70, u71, u72, u73, u74, u75, u76, u77, u78, u79, u80, u81, u82, u83, u84, u85, u86, u87, u88, u89, u90, u91, u92, u93, u94, u95], []⟩ w') : (partL Tryd.f24 0).wp Tryd.prog Q ⟨#[u0, .int .i64 pool, .slice Ap n cp, u3, u4, u5, u6, u7, u8, u9, u10, u11, u12, u13, u14, u15, u16, u17, u18, u19, u20, u21, u22, u23, u24, u25, u26, u27, u28, u29, u30, u31, u32, u33, u34, u35, u36, u37, u38, .slice (some ⟨gs, 0, none⟩) n n, .int .i64 (n : Nat), .int .i64 0, u42, u43, u44, u45, u46, u47, u48, u49, u50, u51, u52, u53, u54, u55, u56, u57, u58, u59, u60, u61, u62, u63, u64, u65, u66, u67, u68, u69, u70, u71, u72, u73, u74, u75, u76, u77, u78, u79, u80, u81, u82, u83, u84, u85, u86, u87, u88, u89, u90, u91, u92, u93, u94, u95], []⟩ w := by
  have HG := Lib.hid hg
  have HN := Lib.hid hn
  have HPL := Lib.hid hp
  have HLT := Lib.hid (And.intro (lt_of_block hg) hG)
  have K1 := Lib.hid k1
  have K2 := Lib.hid k2
  clear hg hn hp hG k1 k2
  conv => arg 2; whnf
  go_wp2
  go_loopw [41] (fun j wr => ∃ r : Nat, r ≤ n ∧ j = .int .i64 r ∧ Below w.heap.size w wr ∧ Hid (∀ (k : Nat) (s : Int × Int) (a : Int), k < r → sp[k]? = some s → pl[k]? = some a → badP pool s a = false)) (fun j _ => n - (intOf j).toNat)
  case atStart => exact ⟨0, by omega, rfl, Below.refl _ _, Lib.hid (fun k s a h => absurd h (by omega))⟩
  case round =>
    obtain ⟨r, hr, rfl, hbl, HT⟩ := hrel
    have HBL := Lib.hid hbl
    clear hbl
    by_cases hlt : r < n
    · obtain ⟨s, hs⟩ : ∃ s, sp[r]? = some s := ⟨_, List.getElem?_eq_getElem (by have := HN.out.1; omega)⟩
      obtain ⟨a, ha⟩ : ∃ s, pl[r]? = some s := ⟨_, List.getElem?_eq_getElem (by have := HN.out.2; omega)⟩
      obtain ⟨b, o, rfl, hGb, hc⟩ := HPL.out.at_ ha
      have hsp := (HG.out.next HBL.out).cells hs
      have hpc := (HBL.out.cell (p := ⟨b, o + r, none⟩) (HLT.out.2 b hGb)).trans hc
      have HS := Lib.hid hs
      have HA := Lib.hid ha
      obtain ⟨x, hx⟩ : ∃ x, s.1 = x := ⟨_, rfl⟩
      obtain ⟨y, hy⟩ : ∃ x, s.2 = x := ⟨_, rfl⟩
      have HLV := live_any s (wr.alloc (.cells #[.int .i64 s.1, .int .i64 s.2] 68))
      rw [hx, hy] at hsp HLV
      have hlv := Lib.hid HLV
      clear HLV
      have HX := Lib.hid (And.intro hx hy)
      have hs0 := hsp.1
      have hs1 := hsp.2
      have lb : b < wr.heap.size := Nat.lt_of_lt_of_le (HLT.out.2 b hGb) HBL.out.size
      have hb5 : Below wr.heap.size wr (wr.alloc (.cells #[.int .i64 x, .int .i64 y] 68)) := (Below.refl _ _).alloc (Nat.le_refl _) _
      have HP5 := Lib.hid ((hb5.cell (p := ⟨b, o + r, none⟩) lb).trans hpc)
      have HB5 := Lib.hid (HBL.out.trans (hb5.mono HBL.out.size))
      have HLB := Lib.hid (show b < (wr.alloc (.cells #[.int .i64 x, .int .i64 y] 68)).heap.size from Nat.lt_of_lt_of_le lb hb5.size)
      have i0 : (0 : Int) ≤ (r : Int) := by omega
      have i1 : (r : Int) < (n : Int) := by omega
      clear hs ha hc hx hy hsp hb5 hGb
      cases d0 : decide (0 ≤ x)
      · rw [d0] at hlv
        have HN2 := Lib.hid (show badP pool s a = false by unfold badP; rw [HX.out.1, d0]; rfl)
        go_wp2_with ((with_reducible refine (hlv.out).mono ?_); rintro e w1 ⟨rfl, hb1⟩)
        go_roundw
        case rel => exact ⟨r + 1, by omega, by go_num, HB5.out.trans (hb1.mono HB5.out.size), Lib.hid (fun k s' a' hk h1 h2 => by
          by_cases e : k = r
          · subst e; rw [HS.out] at h1; rw [HA.out] at h2; cases h1; cases h2; exact HN2.out
          · exact HT.out k s' a' (by omega) h1 h2)⟩
        case measure => simp [intOf]; omega
      · rw [d0] at hlv
        cases d1 : decide (pool ≤ a)
        · cases d2 : decide (a < (-64 : Int))
          · have HN2 := Lib.hid (show badP pool s a = false by unfold badP; rw [HX.out.1, d0, d1, d2]; rfl)
            go_wp2_with ((with_reducible refine (hlv.out).mono ?_); rintro e w1 ⟨rfl, hb1⟩; have hp1 := (hb1.cell (p := ⟨b, o + r, none⟩) HLB.out).trans HP5.out)
            go_roundw
            case rel => exact ⟨r + 1, by omega, by go_num, HB5.out.trans (hb1.mono HB5.out.size), Lib.hid (fun k s' a' hk h1 h2 => by
              by_cases e : k = r
              · subst e; rw [HS.out] at h1; rw [HA.out] at h2; cases h1; cases h2; exact HN2.out
              · exact HT.out k s' a' (by omega) h1 h2)⟩
            case measure => simp [intOf]; omega
          · have HN2 := Lib.hid (show badP pool s a = true by unfold badP; rw [HX.out.1, d0, d1, d2]; rfl)
            go_wp2_with ((with_reducible refine (hlv.out).mono ?_); rintro e w1 ⟨rfl, hb1⟩; have hp1 := (hb1.cell (p := ⟨b, o + r, none⟩) HLB.out).trans HP5.out)
            exact K2.out ⟨r, s, a, HS.out, HA.out, HN2.out⟩ _ _ _ _ _ _ _ _ _ _ _ _ _ _ _ _ _ _ _ _ _ _ _ _ _ _ (HB5.out.trans (hb1.mono HB5.out.size))
        · have HN2 := Lib.hid (show badP pool s a = true by unfold badP; rw [HX.out.1, d0, d1]; rfl)
          go_wp2_with ((with_reducible refine (hlv.out).mono ?_); rintro e w1 ⟨rfl, hb1⟩; have hp1 := (hb1.cell (p := ⟨b, o + r, none⟩) HLB.out).trans HP5.out)
          exact K2.out ⟨r, s, a, HS.out, HA.out, HN2.out⟩ _ _ _ _ _ _ _ _ _ _ _ _ _ _ _ _ _ _ _ _ _ _ _ _ _ _ (HB5.out.trans (hb1.mono HB5.out.size))
    · have hrn : n ≤ r := by omega
      have HN2 := Lib.hid (show ∀ (k : Nat) (s : Int × Int) (a : Int), sp[k]? = some s → pl[k]? = some a → badP pool s a = false from fun k s a h1 h2 => HT.out k s a (by have := (List.getElem?_eq_some_iff.1 h1).1; have := HN.out.1; omega) h1 h2)
      clear hrn
      go_wp2
      exact K1.out HN2.out _ _ _ _ _ _ _ _ _ _ _ _ _ _ _ _ _ _ _ _ _ _ _ _ _ _ _ HBL.out

structure At6 (w : World) (p q : Addr) (g h : Nat) (a b : Int) (s t : Int × Int) : Prop where
  p : w.cell? p = some (.int .i64 a)
  q : w.cell? q = some (.int .i64 b)
  g : w.heap[g]? = some (.cells #[.int .i64 s.1, .int .i64 s.2] 68 (0, 0))
  h : w.heap[h]? = some (.cells #[.int .i64 t.1, .int .i64 t.2] 68 (0, 0))
theorem At6.next {w w' : World} {p q : Addr} {g h : Nat} {a b : Int} {s t : Int × Int} (x : At6 w p q g h a b s t) (hb : Below w.heap.size w w') (hp : p.block < w.heap.size) (hq : q.block < w.heap.size) : At6 w' p q g h a b s t :=
  ⟨(hb.cell hp).trans x.p, (hb.cell hq).trans x.q, (hb.block g (lt_of_block x.g)).trans x.g, (hb.block h (lt_of_block x.h)).trans x.h⟩
theorem At6.cells {w : World} {p q : Addr} {g h : Nat} {a b : Int} {s t : Int × Int} (x : At6 w p q g h a b s t) : w.cell? ⟨g, 0, none⟩ = some (.int .i64 s.1) ∧ w.cell? ⟨g, 1, none⟩ = some (.int .i64 s.2) ∧ w.cell? ⟨h, 0, none⟩ = some (.int .i64 t.1) ∧ w.cell? ⟨h, 1, none⟩ = some (.int .i64 t.2) := by
  have h1 := x.g
  have h2 := x.h
  simp only [World.cell?, h1, h2]
  exact ⟨rfl, rfl, rfl, rfl⟩

set_option maxRecDepth 100000 in
set_option maxHeartbeats 4000000 in
theorem acheck_l4 {Ap : Option Addr} {cp gs n r g13 : Nat} {a : Int} {s : Int × Int} {sp : List (Int × Int)} {pl : List Int} {G : Nat → Prop} (w : World) (Q : Exit → Act → World → Prop) {u0 u1 u3 u4 u5 u6 u7 u8 u9 u10 u11 u14 u15 u16 u17 u18 u19 u20 u21 u22 u23 u24 u25 u26 u27 u28 u29 u30 u31 u32 u33 u34 u35 u36 u37 u38 u39 u40 u41 u42 u43 u44 u45 u46 u47 u48 u49 u50 u51 u52 u53 u54 u55 u56 u57 u58 u59 u60 u61 u62 u63 u64 u65 u66 u67 u68 u69 u70 u71 u72 u76 u77 u78 u79 u80 u81 u82 u83 u84 u85 u86 u87 u88 u89 u90 u91 u92 u93 u94 u95 : Value} (hg : SpansAt w gs sp) (hn : sp.length = n ∧ pl.length = n) (hp : NumsAt w G (.slice Ap n cp) pl) (hG : ∀ k, G k → k < w.heap.size) (hr : r < n) (hs : sp[r]? = some s) (ha : pl[r]? = some a) (h13 : w.heap[g13]? = some (.cells #[.int .i64 s.1, .int .i64 s.2] 68 (0, 0))) (hn3 : n ≤ 1000)
    (k1 : (∀ (i : Nat) (t : Int × Int) (b : Int), i < r → sp[i]? = some t → pl[i]? = some b → clashP s t a b = false) → ∀ (v6 v14 v15 v75 v76 v77 v78 v79 v80 v81 v82 v83 v84 v85 v86 v87 v88 v89 v90 v91 v92 v93 v94 : Value) (w' : World), Below w.heap.size w w' → Q (.exit 4) ⟨#[u0, u1, .slice Ap n cp, u3, u4, u5, v6, u7, u8, u9, u10, u11, .int .i64 (r : Nat), .pointer (some ⟨g13, 0, none⟩), v14, v15, u16, u17, u18, u19, u20, u21, u22, u23, u24, u25, u26, u27, u28, u29, u30, u31, u32, u33, u34, u35, u36, u37, u38, u39, u40, u41, u42, u43, u44, u45, u46, u47, u48, u49, u50, u51, u52, u53, u54, u55, u56, u57, u58, u59, u60, u61, u62, u63, u64, u65, u66, u67, u68, u69, u70, u71, u72, .slice (some ⟨gs, 0, none⟩) r n, .int .i64 (r : Nat), v75, v76, v77, v78, v79, v80, v81, v82, v83, v84, v85, v86, v87, v88, v89, v90, v91, v92, v93, v94, u95], []⟩ w') (k2 : (∃ (i : Nat) (t : Int × Int) (b : Int), i < r ∧ sp[i]? = some t ∧ pl[i]? = some b ∧ clashP s t a b = true) → ∀ (v14 v15 v75 v76 v77 v78 v79 v80 v81 v82 v83 v84 v85 v86 v87 v88 v89 v90 v91 v92 v93 v94 : Value) (w' : World), Below w.heap.size w w' → Q (.ret) ⟨#[u0, u1, .slice Ap n cp, u3, u4, u5, .int .i64 6, u7, u8, u9, u10, u11, .int .i64 (r : Nat), .pointer (some ⟨g13, 0, none⟩), v14, v15, u16, u17, u18, u19, u20, u21, u22, u23, u24, u25, u26, u27, u28, u29, u30, u31, u32, u33, u34, u35, u36, u37, u38, u39, u40, u41, u42, u43, u44, u45, u46, u47, u48, u49, u50, u51, u52, u53, u54, u55, u56, u57, u58, u59, u60, u61, u62, u63, u64, u65, u66, u67, u68, u69, u70, u71, u72, .slice (some ⟨gs, 0, none⟩) r n, .int .i64 (r : Nat), v75, v76, v77, v78, v79, v80, v81, v82, v83, v84, v85, v86, v87, v88, v89, v90, v91, v92, v93, v94, u95], []⟩ w') : (partL Tryd.f24 4).wp Tryd.prog Q ⟨#[u0, u1, .slice Ap n cp, u3, u4, u5, u6, u7, u8, u9, u10, u11, .int .i64 (r : Nat), .pointer (some ⟨g13, 0, none⟩), u14, u15, u16, u17, u18, u19, u20, u21, u22, u23, u24, u25, u26, u27, u28, u29, u30, u31, u32, u33, u34, u35, u36, u37, u38, u39, u40, u41, u42, u43, u44, u45, u46, u47, u48, u49, u50, u51, u52, u53, u54, u55, u56, u57, u58, u59, u60, u61, u62, u63, u64, u65, u66, u67, u68, u69, u70, u71, u72, .slice (some ⟨gs, 0, none⟩) r n, .int .i64 (r : Nat), .int .i64 0, u76, u77, u78, u79, u80, u81, u82, u83, u84, u85, u86, u87, u88, u89, u90, u91, u92, u93, u94, u95], []⟩ w := by
  have HG := Lib.hid hg
  have HN := Lib.hid hn
  have HPL := Lib.hid hp
  have HSA := Lib.hid (And.intro hs ha)
  have H13 := Lib.hid h13
  have HLT := Lib.hid (And.intro (lt_of_block hg) hG)
  have K1 := Lib.hid k1
  have K2 := Lib.hid k2
  obtain ⟨bR, oR, hA, hGR, hcR⟩ := hp.at_ ha
  subst hA
  have HCR := Lib.hid hcR
  have HBR := Lib.hid (hG bR hGR)
  clear hg hn hp hG hs ha h13 k1 k2 hGR hcR
  conv => arg 2; whnf
  go_wp2
  go_loopw [75] (fun j wr => ∃ k : Nat, k ≤ r ∧ j = .int .i64 k ∧ Below w.heap.size w wr ∧ Hid (∀ (i : Nat) (t : Int × Int) (b : Int), i < k → sp[i]? = some t → pl[i]? = some b → clashP s t a b = false)) (fun j _ => r - (intOf j).toNat)
  case atStart => exact ⟨0, by omega, rfl, Below.refl _ _, Lib.hid (fun k s a h => absurd h (by omega))⟩
  case round =>
    obtain ⟨k, hk, rfl, hbl, HT⟩ := hrel
    have HBL := Lib.hid hbl
    clear hbl
    by_cases hlt : k < r
    · obtain ⟨t, ht⟩ : ∃ s, sp[k]? = some s := ⟨_, List.getElem?_eq_getElem (by have := HN.out.1; omega)⟩
      obtain ⟨b, hb⟩ : ∃ s, pl[k]? = some s := ⟨_, List.getElem?_eq_getElem (by have := HN.out.2; omega)⟩
      obtain ⟨b', o', hA', hGb, hc⟩ := HPL.out.at_ hb
      cases hA'
      have hsp := (HG.out.next HBL.out).cells ht
      have HS := Lib.hid ht
      have HA := Lib.hid hb
      obtain ⟨W5, hW5⟩ : ∃ q, q = wr.alloc (.cells #[.int .i64 t.1, .int .i64 t.2] 68) := ⟨_, rfl⟩
      have hb5 : Below wr.heap.size wr W5 := by rw [hW5]; exact (Below.refl _ _).alloc (Nat.le_refl _) _
      have HB5 := Lib.hid (HBL.out.trans (hb5.mono HBL.out.size))
      have lb : bR < wr.heap.size := Nat.lt_of_lt_of_le HBR.out HBL.out.size
      have H6 := Lib.hid (show At6 W5 ⟨bR, oR + r, none⟩ ⟨bR, oR + k, none⟩ g13 wr.heap.size a b s t from ⟨(HB5.out.cell (p := ⟨bR, oR + r, none⟩) HBR.out).trans HCR.out, (HB5.out.cell (p := ⟨bR, oR + k, none⟩) HBR.out).trans hc,
        (HB5.out.block g13 (lt_of_block H13.out)).trans H13.out, by rw [hW5]; exact heap_alloc_new wr _⟩)
      have HL5 := Lib.hid (show bR < W5.heap.size from Nat.lt_of_lt_of_le HBR.out HB5.out.size)
      have HMT := Lib.hid (meets_any s t W5.drew)
      have HW5 := Lib.hid hW5
      have hs0 := hsp.1
      have hs1 := hsp.2
      have i0 : (0 : Int) ≤ (k : Int) := by omega
      have i1 : (k : Int) < (r : Int) := by omega
      have j0 : (0 : Int) ≤ (r : Int) := by omega
      have j1 : (r : Int) < (n : Int) := by omega
      have j2 : (k : Int) < (n : Int) := by omega
      have q1 : IntKind.i64.wrap (k : Int) = k := by simp [IntKind.wrap, IntKind.bits, IntKind.signed]; omega
      have q2 : IntKind.i64.wrap (r : Int) = r := by simp [IntKind.wrap, IntKind.bits, IntKind.signed]; omega
      obtain ⟨m, hm⟩ : ∃ m, meetsF s t = m := ⟨_, rfl⟩
      rw [hm] at HMT
      have HM := Lib.hid hm
      clear ht hb hc hsp hb5 hGb hW5 hm
      go_upto_region 19 with fail
      rw [← HW5.out]
      clear hs0 hs1
      cases d0 : (a == b)
      · have HN2 := Lib.hid (show clashP s t a b = false by unfold clashP; rw [d0]; rfl)
        (refine wp_region_lines (fun w_ => At6 w_ ⟨bR, oR + r, none⟩ ⟨bR, oR + k, none⟩ g13 wr.heap.size a b s t) (by kernel_rfl) (by kernel_rfl) (H6.out.next (Below.refl _ _).drew HL5.out HL5.out) ?_)
        (try simp only [])
        repeat (first | (refine runL_no (by rfl) ?_; (try simp only [Act.put, List.setIfInBounds_toArray, List.set_cons_zero, List.set_cons_succ])) | (refine runL_val (v := ?_) (by rfl) ?_ ?_; rotate_left; (focus (intro w_ hw_; have f1_ := hw_.p; have f2_ := hw_.q; have f3_ := hw_.cells.1; have f4_ := hw_.cells.2.1; have f5_ := hw_.cells.2.2.1; have f6_ := hw_.cells.2.2.2; go_simp; (try with_reducible rfl); done)); (try simp only [Act.put, List.setIfInBounds_toArray, List.set_cons_zero, List.set_cons_succ])))
        (refine runL_nil ?_)
        clear d0
        go_wp2
        go_roundw
        case rel => exact ⟨k + 1, by omega, by go_num, HB5.out.drew, Lib.hid (fun i t' b' hk h1 h2 => by
          by_cases e : i = k
          · subst e; rw [HS.out] at h1; rw [HA.out] at h2; cases h1; cases h2; exact HN2.out
          · exact HT.out i t' b' (by omega) h1 h2)⟩
        case measure => simp [intOf]; omega
      · skip
        (refine wp_region_lines (fun w_ => At6 w_ ⟨bR, oR + r, none⟩ ⟨bR, oR + k, none⟩ g13 wr.heap.size a b s t) (by kernel_rfl) (by kernel_rfl) (H6.out.next (Below.refl _ _).drew HL5.out HL5.out) ?_)
        (try simp only [])
        repeat (first | (refine runL_no (by rfl) ?_; (try simp only [Act.put, List.setIfInBounds_toArray, List.set_cons_zero, List.set_cons_succ])) | (refine runL_val (v := ?_) (by rfl) ?_ ?_; rotate_left; (focus (intro w_ hw_; have f1_ := hw_.p; have f2_ := hw_.q; have f3_ := hw_.cells.1; have f4_ := hw_.cells.2.1; have f5_ := hw_.cells.2.2.1; have f6_ := hw_.cells.2.2.2; go_simp; (try with_reducible rfl); done)); (try simp only [Act.put, List.setIfInBounds_toArray, List.set_cons_zero, List.set_cons_succ])) | (refine runL_call (f := ?_) (args := ?_) (w1 := ?_) (by rfl) (by rfl) ?_ ?_; rotate_left 3; (focus (go_simp; refine ⟨⟨?_, ?_⟩, ?_⟩ <;> with_reducible rfl)); (with_reducible refine (HMT.out).mono ?_); rintro e w1 ⟨rfl, hb⟩; have HB6 := Lib.hid ((Below.refl W5.heap.size W5).drew.trans hb); clear hb; refine ⟨_, rfl, .inr (H6.out.next HB6.out HL5.out HL5.out), ?_⟩; (try simp only [Act.put, List.setIfInBounds_toArray, List.set_cons_zero, List.set_cons_succ])))
        (refine runL_nil ?_)
        have HD := Lib.hid d0
        clear d0
        cases m
        · have HN2 := Lib.hid (show clashP s t a b = false by unfold clashP; rw [HD.out, HM.out]; rfl)
          go_wp2
          go_roundw
          case rel => exact ⟨k + 1, by omega, by go_num, HB5.out.trans (HB6.out.mono HB5.out.size), Lib.hid (fun i t' b' hk h1 h2 => by
            by_cases e : i = k
            · subst e; rw [HS.out] at h1; rw [HA.out] at h2; cases h1; cases h2; exact HN2.out
            · exact HT.out i t' b' (by omega) h1 h2)⟩
          case measure => simp [intOf]; omega
        · have HN2 := Lib.hid (show clashP s t a b = true by unfold clashP; rw [HD.out, HM.out]; rfl)
          go_wp2
          exact K2.out ⟨k, t, b, hlt, HS.out, HA.out, HN2.out⟩ _ _ _ _ _ _ _ _ _ _ _ _ _ _ _ _ _ _ _ _ _ _ _ (HB5.out.trans (HB6.out.mono HB5.out.size))
    · have HN2 := Lib.hid (show ∀ (i : Nat) (t : Int × Int) (b : Int), i < r → sp[i]? = some t → pl[i]? = some b → clashP s t a b = false from fun i t b h h1 h2 => HT.out i t b (by omega) h1 h2)
      go_wp2
      exact K1.out HN2.out _ _ _ _ _ _ _ _ _ _ _ _ _ _ _ _ _ _ _ _ _ _ _ _ HBL.out

set_option maxRecDepth 100000 in
set_option maxHeartbeats 4000000 in
theorem acheck_l2 {Ap : Option Addr} {cp gs n : Nat} {sp : List (Int × Int)} {pl : List Int} {G : Nat → Prop} (w : World) (Q : Exit → Act → World → Prop) {u0 u1 u3 u4 u5 u6 u7 u8 u10 u11 u12 u13 u14 u15 u16 u17 u18 u19 u20 u21 u22 u23 u24 u25 u26 u27 u28 u29 u30 u31 u32 u33 u34 u35 u36 u37 u38 u39 u40 u41 u42 u43 u44 u45 u46 u47 u48 u49 u50 u51 u52 u53 u54 u55 u56 u57 u58 u59 u60 u61 u62 u63 u67 u68 u69 u70 u71 u72 u73 u74 u75 u76 u77 u78 u79 u80 u81 u82 u83 u84 u85 u86 u87 u88 u89 u90 u91 u92 u93 u94 u95 : Value} (hg : SpansAt w gs sp) (hn : sp.length = n ∧ pl.length = n) (hp : NumsAt w G (.slice Ap n cp) pl) (hG : ∀ k, G k → k < w.heap.size) (hn3 : n ≤ 1000)
    (k1 : (∀ (r i : Nat) (s t : Int × Int) (a b : Int), i < r → sp[r]? = some s → pl[r]? = some a → sp[i]? = some t → pl[i]? = some b → clashP s t a b = false) → ∀ (v6 v12 v13 v14 v15 v66 v67 v68 v69 v70 v71 v72 v73 v74 v75 v76 v77 v78 v79 v80 v81 v82 v83 v84 v85 v86 v87 v88 v89 v90 v91 v92 v93 v94 v95 : Value) (w' : World), Below w.heap.size w w' → Q (.exit 2) ⟨#[u0, u1, .slice Ap n cp, u3, u4, u5, v6, u7, u8, .slice (some ⟨gs, 0, none⟩) n n, u10, u11, v12, v13, v14, v15, u16, u17, u18, u19, u20, u21, u22, u23, u24, u25, u26, u27, u28, u29, u30, u31, u32, u33, u34, u35, u36, u37, u38, u39, u40, u41, u42, u43, u44, u45, u46, u47, u48, u49, u50, u51, u52, u53, u54, u55, u56, u57, u58, u59, u60, u61, u62, u63, .slice (some ⟨gs, 0, none⟩) n n, .int .i64 (n : Nat), v66, v67, v68, v69, v70, v71, v72, v73, v74, v75, v76, v77, v78, v79, v80, v81, v82, v83, v84, v85, v86, v87, v88, v89, v90, v91, v92, v93, v94, v95], []⟩ w') (k2 : (∃ (r i : Nat) (s t : Int × Int) (a b : Int), i < r ∧ sp[r]? = some s ∧ pl[r]? = some a ∧ sp[i]? = some t ∧ pl[i]? = some b ∧ clashP s t a b = true) → ∀ (v12 v13 v14 v15 v66 v67 v68 v69 v70 v71 v72 v73 v74 v75 v76 v77 v78 v79 v80 v81 v82 v83 v84 v85 v86 v87 v88 v89 v90 v91 v92 v93 v94 v95 : Value) (w' : World), Below w.heap.size w w' → Q (.ret) ⟨#[u0, u1, .slice Ap n cp, u3, u4, u5, .int .i64 6, u7, u8, .slice (some ⟨gs, 0, none⟩) n n, u10, u11, v12, v13, v14, v15, u16, u17, u18, u19, u20, u21, u22, u23, u24, u25, u26, u27, u28, u29, u30, u31, u32, u33, u34, u35, u36, u37, u38, u39, u40, u41, u42, u43, u44, u45, u46, u47, u48, u49, u50, u51, u52, u53, u54, u55, u56, u57, u58, u59, u60, u61, u62, u63, .slice (some ⟨gs, 0, none⟩) n n, .int .i64 (n : Nat), v66, v67, v68, v69, v70, v71, v72, v73, v74, v75, v76, v77, v78, v79, v80, v81, v82, v83, v84, v85, v86, v87, v88, v89, v90, v91, v92, v93, v94, v95], []⟩ w') : (partL Tryd.f24 2).wp Tryd.prog Q ⟨#[u0, u1, .slice Ap n cp, u3, u4, u5, u6, u7, u8, .slice (some ⟨gs, 0, none⟩) n n, u10, u11, u12, u13, u14, u15, u16, u17, u18, u19, u20, u21, u22, u23, u24, u25, u26, u27, u28, u29, u30, u31, u32, u33, u34, u35, u36, u37, u38, u39, u40, u41, u42, u43, u44, u45, u46, u47, u48, u49, u50, u51, u52, u53, u54, u55, u56, u57, u58, u59, u60, u61, u62, u63, .slice (some ⟨gs, 0, none⟩) n n, .int .i64 (n : Nat), .int .i64 0, u67, u68, u69, u70, u71, u72, u73, u74, u75, u76, u77, u78, u79, u80, u81, u82, u83, u84, u85, u86, u87, u88, u89, u90, u91, u92, u93, u94, u95], []⟩ w := by
  have HG := Lib.hid hg
  have HN := Lib.hid hn
  have HPL := Lib.hid hp
  have HLT := Lib.hid (And.intro (lt_of_block hg) hG)
  have K1 := Lib.hid k1
  have K2 := Lib.hid k2
  clear hg hn hp hG k1 k2
  conv => arg 2; whnf
  go_wp2
  go_loopw [66] (fun j wr => ∃ r : Nat, r ≤ n ∧ j = .int .i64 r ∧ Below w.heap.size w wr ∧ Hid (∀ (r' i : Nat) (s t : Int × Int) (a b : Int), r' < r → i < r' → sp[r']? = some s → pl[r']? = some a → sp[i]? = some t → pl[i]? = some b → clashP s t a b = false)) (fun j _ => n - (intOf j).toNat)
  case atStart => exact ⟨0, by omega, rfl, Below.refl _ _, Lib.hid (fun k _ s _ a _ h => absurd h (by omega))⟩
  case round =>
    obtain ⟨r, hr, rfl, hbl, HT⟩ := hrel
    have HBL := Lib.hid hbl
    clear hbl
    by_cases hlt : r < n
    · obtain ⟨s, hs⟩ : ∃ s, sp[r]? = some s := ⟨_, List.getElem?_eq_getElem (by have := HN.out.1; omega)⟩
      obtain ⟨a, ha⟩ : ∃ s, pl[r]? = some s := ⟨_, List.getElem?_eq_getElem (by have := HN.out.2; omega)⟩
      have hsp := (HG.out.next HBL.out).cells hs
      have HS := Lib.hid hs
      have HA := Lib.hid ha
      obtain ⟨W5, hW5⟩ : ∃ q, q = wr.alloc (.cells #[.int .i64 s.1, .int .i64 s.2] 68) := ⟨_, rfl⟩
      have hb5 : Below wr.heap.size wr W5 := by rw [hW5]; exact (Below.refl _ _).alloc (Nat.le_refl _) _
      have HB5 := Lib.hid (HBL.out.trans (hb5.mono HBL.out.size))
      have H13 := Lib.hid (show W5.heap[wr.heap.size]? = some (.cells #[.int .i64 s.1, .int .i64 s.2] 68 (0, 0)) by rw [hW5]; exact heap_alloc_new wr _)
      have HW5 := Lib.hid hW5
      have hs0 := hsp.1
      have hs1 := hsp.2
      have j0 : (0 : Int) ≤ (r : Int) := by omega
      have j1 : (r : Int) < (n : Int) := by omega
      have j2 : (r : Int) ≤ (n : Int) := by omega
      clear hs ha hsp hb5 hW5
      go_upto_region 16 with fail
      rw [← HW5.out]
      clear hs0 hs1
      go_wp2
      refine wp_code (c := partL Tryd.f24 4) (by kernel_rfl) ?_
      refine acheck_l4 (gs := gs) (r := r) (g13 := wr.heap.size) (s := s) (a := a) (sp := sp) (pl := pl) _ _ (HG.out.next HB5.out) HN.out (Rows.keep HPL.out (SameOn.of_below HB5.out HLT.out.2)) (fun k hk => Nat.lt_of_lt_of_le (HLT.out.2 k hk) HB5.out.size) hlt HS.out HA.out H13.out hn3 ?_ ?_
      rotate_left
      · rintro ⟨i, t, b, hi, h1, h2, h3⟩ v14 v15 v75 v76 v77 v78 v79 v80 v81 v82 v83 v84 v85 v86 v87 v88 v89 v90 v91 v92 v93 v94 w7 hb7
        exact K2.out ⟨r, i, s, t, a, b, hi, HS.out, HA.out, h1, h2, h3⟩ _ _ _ _ _ _ _ _ _ _ _ _ _ _ _ _ _ _ _ _ _ _ _ _ _ _ _ _ _ _ _ _ _ _ _ (HB5.out.trans (hb7.mono HB5.out.size))
      · intro hno v6 v14 v15 v75 v76 v77 v78 v79 v80 v81 v82 v83 v84 v85 v86 v87 v88 v89 v90 v91 v92 v93 v94 w7 hb7
        have HNO := Lib.hid hno
        have HB7 := Lib.hid (HB5.out.trans (hb7.mono HB5.out.size))
        clear hno hb7
        go_wp2
        go_roundw
        case rel => exact ⟨r + 1, by omega, by go_num, HB7.out, Lib.hid (fun r' i s' t' a' b' h1 h2 h3 h4 h5 h6 => by
          by_cases e : r' = r
          · subst e; rw [HS.out] at h3; rw [HA.out] at h4; cases h3; cases h4; exact HNO.out i t' b' h2 h5 h6
          · exact HT.out r' i s' t' a' b' (by omega) h2 h3 h4 h5 h6)⟩
        case measure => simp [intOf]; omega
    · have HN2 := Lib.hid (show ∀ (r' i : Nat) (s t : Int × Int) (a b : Int), i < r' → sp[r']? = some s → pl[r']? = some a → sp[i]? = some t → pl[i]? = some b → clashP s t a b = false from fun r' i s t a b h2 h3 h4 h5 h6 => HT.out r' i s t a b (by have := (List.getElem?_eq_some_iff.1 h3).1; have := HN.out.1; omega) h2 h3 h4 h5 h6)
      go_wp2
      exact K1.out HN2.out _ _ _ _ _ _ _ _ _ _ _ _ _ _ _ _ _ _ _ _ _ _ _ _ _ _ _ _ _ _ _ _ _ _ _ _ HBL.out

def anyBad (pool : Int) (sp : List (Int × Int)) (pl : List Int) : Bool := (List.range sp.length).any fun k => badP pool (sp.getD k (-1, -1)) (pl.getD k 0)
def anyClash (sp : List (Int × Int)) (pl : List Int) : Bool := (List.range sp.length).any fun r => (List.range r).any fun i => clashP (sp.getD r (-1, -1)) (sp.getD i (-1, -1)) (pl.getD r 0) (pl.getD i 0)
theorem bad_no {pool : Int} {sp : List (Int × Int)} {pl : List Int} (hl : pl.length = sp.length) (h : ∀ (k : Nat) (s : Int × Int) (a : Int), sp[k]? = some s → pl[k]? = some a → badP pool s a = false) : anyBad pool sp pl = false := by
  unfold anyBad
  rw [List.any_eq_false]
  intro k hk
  have hk := List.mem_range.1 hk
  have h1 : sp[k]? = some (sp.getD k (-1, -1)) := by rw [List.getD_eq_getElem?_getD, List.getElem?_eq_getElem hk]; rfl
  have h2 : pl[k]? = some (pl.getD k 0) := by rw [List.getD_eq_getElem?_getD, List.getElem?_eq_getElem (by omega)]; rfl
  rw [h k _ _ h1 h2]; decide
theorem getD_some {T : Type} {l : List T} {k : Nat} {x : T} (h : l[k]? = some x) (d : T) : l.getD k d = x := by rw [List.getD_eq_getElem?_getD, h]; rfl
theorem bad_yes {pool : Int} {sp : List (Int × Int)} {pl : List Int} (h : ∃ (k : Nat) (s : Int × Int) (a : Int), sp[k]? = some s ∧ pl[k]? = some a ∧ badP pool s a = true) : anyBad pool sp pl = true := by
  obtain ⟨k, s, a, h1, h2, h3⟩ := h
  exact List.any_eq_true.2 ⟨k, List.mem_range.2 (List.getElem?_eq_some_iff.1 h1).1, by rw [getD_some h1, getD_some h2]; exact h3⟩
theorem clash_no {sp : List (Int × Int)} {pl : List Int} (hl : pl.length = sp.length) (h : ∀ (r i : Nat) (s t : Int × Int) (a b : Int), i < r → sp[r]? = some s → pl[r]? = some a → sp[i]? = some t → pl[i]? = some b → clashP s t a b = false) : anyClash sp pl = false := by
  unfold anyClash
  rw [List.any_eq_false]
  intro r hr
  have hr := List.mem_range.1 hr
  rw [Bool.not_eq_true, List.any_eq_false]
  intro i hi
  have hi := List.mem_range.1 hi
  have g1 : ∀ k, k < sp.length → sp[k]? = some (sp.getD k (-1, -1)) := fun k hk => by rw [List.getD_eq_getElem?_getD, List.getElem?_eq_getElem hk]; rfl
  have g2 : ∀ k, k < sp.length → pl[k]? = some (pl.getD k 0) := fun k hk => by rw [List.getD_eq_getElem?_getD, List.getElem?_eq_getElem (by omega)]; rfl
  rw [h r i _ _ _ _ hi (g1 r hr) (g2 r hr) (g1 i (by omega)) (g2 i (by omega))]; decide
theorem clash_yes {sp : List (Int × Int)} {pl : List Int} (h : ∃ (r i : Nat) (s t : Int × Int) (a b : Int), i < r ∧ sp[r]? = some s ∧ pl[r]? = some a ∧ sp[i]? = some t ∧ pl[i]? = some b ∧ clashP s t a b = true) : anyClash sp pl = true := by
  obtain ⟨r, i, s, t, a, b, hi, h1, h2, h3, h4, h5⟩ := h
  exact List.any_eq_true.2 ⟨r, List.mem_range.2 (List.getElem?_eq_some_iff.1 h1).1, List.any_eq_true.2 ⟨i, List.mem_range.2 hi, by rw [getD_some h1, getD_some h2, getD_some h3, getD_some h4]; exact h5⟩⟩
/-- What is told of places. -/
def placesF (p : LP) (pool : Int) (pl : List Int) : Int :=
  if (checkF p 64).2 ≠ 0 then (checkF p 64).2
  else if pool < 0 ∨ 16 < pool ∨ (pl.length : Int) ≠ p.regs then 2
  else if anyBad pool (spansF p) pl = true then 2
  else if anyClash (spansF p) pl = true then 6
  else 0
set_option maxRecDepth 100000 in
set_option maxHeartbeats 8000000 in
theorem acheck_any (p : LP) (Ab Ao Ap : Option Addr) (nb cb no co n0 cp : Nat) (pool : Int) (pl : List Int) (w : World) (hp : ProgAt w (fun k => k < w.heap.size) [.int .i64 p.regs, .slice Ab nb cb, .slice Ao no co] p) (hpl : NumsAt w (fun k => k < w.heap.size) (.slice Ap n0 cp) pl) :
    Calls Tryd.prog 24 #[.agg #[.int .i64 p.regs, .slice Ab nb cb, .slice Ao no co], .int .i64 pool, .slice Ap n0 cp] w fun e w' => e = .returned (.int .i64 (placesF p pool pl)) ∧ Below w.heap.size w w' := by
  obtain ⟨W, hW, hbW, hzW, hl_, hr_⟩ := boxed w #[.int .i64 p.regs, .slice Ab nb cb, .slice Ao no co] 25
  have c0 : W.cell? ⟨w.heap.size, 0, none⟩ = some (.int .i64 p.regs) := by rw [hl_]; rfl
  have c1 : W.cell? ⟨w.heap.size, 1, none⟩ = some (.slice Ab nb cb) := by rw [hl_]; rfl
  have c2 : W.cell? ⟨w.heap.size, 2, none⟩ = some (.slice Ao no co) := by rw [hl_]; rfl
  have hp1 := prog_next hp hbW
  have HC := Lib.hid (check_any p Ab Ao nb cb no co W hp1)
  have hl0 : pl.length = n0 := by obtain ⟨A, c, hv, _⟩ := rows_form hpl; cases hv; rfl
  have HPL := Lib.hid hpl
  have HP1 := Lib.hid hp1
  have HW := Lib.hid hW
  have HB := Lib.hid hbW
  have hlt : w.heap.size < W.heap.size := by omega
  obtain ⟨x, hx⟩ : ∃ x, (checkF p 64).1 = x := ⟨_, rfl⟩
  obtain ⟨y, hy⟩ : ∃ x, (checkF p 64).2 = x := ⟨_, rfl⟩
  obtain ⟨res, hres⟩ : ∃ x, placesF p pool pl = x := ⟨_, rfl⟩
  have hv := hres
  unfold placesF at hv
  rw [hy, hl0] at hv
  have HV := Lib.hid hv
  rw [hx, hy] at HC
  rw [hres]
  have HY := Lib.hid hy
  have HL0 := Lib.hid hl0
  clear hW hbW hzW hl_ hr_ hp hp1 hpl hx hy hres hv hl0
  by_cases h0 : y = 0
  rotate_left
  · have d0 : (y != 0) = true := by simpa using h0
    have HV := Lib.hid (HV.out.symm.trans (if_pos h0))
    clear h0 hlt
    go_enter Tryd.func24, Tryd.ntmps24
    go_upto_region 1 with fail
    rw [← HW.out]
    go_wp2_with ((with_reducible refine (HC.out).mono ?_); rintro e w1 ⟨rfl, hb1⟩)
    go_ret
    exact ⟨by rw [HV.out]; rfl, HB.out.trans (hb1.mono HB.out.size)⟩
  subst h0
  have HV := Lib.hid (HV.out.symm.trans (if_neg (by decide)))
  go_enter Tryd.func24, Tryd.ntmps24
  go_upto_region 1 with fail
  rw [← HW.out]
  go_upto_region 4 with ((with_reducible refine (HC.out).mono ?_); rintro e w1 ⟨rfl, hb1⟩)
  have e0 := (hb1.cell (p := ⟨w.heap.size, 0, none⟩) hlt).trans c0
  have e1 := (hb1.cell (p := ⟨w.heap.size, 1, none⟩) hlt).trans c1
  have e2 := (hb1.cell (p := ⟨w.heap.size, 2, none⟩) hlt).trans c2
  have HB1 := Lib.hid (HB.out.trans (hb1.mono HB.out.size))
  have HPW := Lib.hid (prog_next HP1.out hb1)
  clear c0 c1 c2 hb1 hlt
  by_cases m1 : pool < 0
  · have d1 : decide (pool < (0 : Int)) = true := decide_eq_true m1
    have HV := Lib.hid (HV.out.trans (if_pos (.inl m1)))
    clear m1
    go_wp2
    go_ret
    exact ⟨by rw [HV.out]; rfl, HB1.out⟩
  have d1 : decide (pool < (0 : Int)) = false := decide_eq_false m1
  by_cases m2 : 16 < pool
  · have d2 : decide ((16 : Int) < pool) = true := decide_eq_true m2
    have HV := Lib.hid (HV.out.trans (if_pos (.inr (.inl m2))))
    clear m1 m2
    go_wp2
    go_ret
    exact ⟨by rw [HV.out]; rfl, HB1.out⟩
  have d2 : decide ((16 : Int) < pool) = false := decide_eq_false m2
  by_cases m3 : (n0 : Int) = p.regs
  rotate_left
  · have d3 : ((n0 : Int) != p.regs) = true := by simpa using m3
    have HV := Lib.hid (HV.out.trans (if_pos (.inr (.inr m3))))
    clear m1 m2 m3
    go_wp2
    go_ret
    exact ⟨by rw [HV.out]; rfl, HB1.out⟩
  have d3 : ((n0 : Int) != p.regs) = false := by simpa using m3
  have HV := Lib.hid (HV.out.trans (if_neg (by rw [not_or, not_or]; exact ⟨m1, m2, fun h => h m3⟩)))
  have HSP := Lib.hid (spans_any p Ab Ao nb cb no co n0 w1 HPW.out HY.out m3.symm)
  have HSL := Lib.hid (show (spansF p).length = n0 by rw [spans_len, ← m3]; rfl)
  have hn64 : n0 ≤ 1000 := by have := (head_ok (check_run HY.out).1).1; omega
  clear m1 m2 m3
  go_upto_region 7 with ((with_reducible refine (HSP.out).mono ?_); rintro e w2 ⟨gs, rfl, hgs, hsp, hb2⟩)
  have HS := Lib.hid hsp
  have HB2 := Lib.hid (HB1.out.trans (hb2.mono HB1.out.size))
  have HPL2 := Lib.hid (show NumsAt w2 (fun k => k < w.heap.size) (.slice Ap n0 cp) pl from Rows.keep HPL.out (SameOn.of_below HB2.out fun _ h => h))
  clear e0 e1 e2 d1 d2 d3 hgs hsp hb2
  go_wp2
  refine wp_code (c := partL Tryd.f24 0) (by kernel_rfl) ?_
  refine acheck_l0 (gs := gs) (sp := spansF p) (pl := pl) _ _ HS.out ⟨HSL.out, HL0.out⟩ HPL2.out (fun k hk => Nat.lt_of_lt_of_le hk HB2.out.size) hn64 ?_ ?_
  rotate_left
  · intro hbad v10 v11 v41 v42 v43 v44 v45 v46 v47 v48 v49 v50 v51 v52 v53 v54 v55 v56 v57 v58 v59 v60 v61 v62 v63 w3 hb3
    have HV := Lib.hid (HV.out.trans (if_pos (bad_yes hbad)))
    have HB3 := Lib.hid (HB2.out.trans (hb3.mono HB2.out.size))
    clear hbad hb3
    go_wp2
    go_ret
    exact ⟨by rw [HV.out]; rfl, HB3.out⟩
  intro hno v6 v10 v11 v41 v42 v43 v44 v45 v46 v47 v48 v49 v50 v51 v52 v53 v54 v55 v56 v57 v58 v59 v60 v61 v62 v63 w3 hb3
  have HV := Lib.hid (HV.out.trans (if_neg (by rw [bad_no (by rw [HL0.out, HSL.out]) hno]; decide)))
  have HB3 := Lib.hid (HB2.out.trans (hb3.mono HB2.out.size))
  have HS3 := Lib.hid (HS.out.next hb3)
  clear hno hb3
  go_wp2
  refine wp_code (c := partL Tryd.f24 2) (by kernel_rfl) ?_
  refine acheck_l2 (gs := gs) (sp := spansF p) (pl := pl) _ _ HS3.out ⟨HSL.out, HL0.out⟩ (Rows.keep HPL.out (SameOn.of_below HB3.out fun _ h => h)) (fun k hk => Nat.lt_of_lt_of_le hk HB3.out.size) hn64 ?_ ?_
  rotate_left
  · intro hcl v12 v13 v14 v15 v66 v67 v68 v69 v70 v71 v72 v73 v74 v75 v76 v77 v78 v79 v80 v81 v82 v83 v84 v85 v86 v87 v88 v89 v90 v91 v92 v93 v94 v95 w4 hb4
    have HV := Lib.hid (HV.out.trans (if_pos (clash_yes hcl)))
    have HB4 := Lib.hid (HB3.out.trans (hb4.mono HB3.out.size))
    clear hcl hb4
    go_wp2
    go_ret
    exact ⟨by rw [HV.out]; rfl, HB4.out⟩
  intro hno v6 v12 v13 v14 v15 v66 v67 v68 v69 v70 v71 v72 v73 v74 v75 v76 v77 v78 v79 v80 v81 v82 v83 v84 v85 v86 v87 v88 v89 v90 v91 v92 v93 v94 v95 w4 hb4
  have HV := Lib.hid (HV.out.trans (if_neg (by rw [clash_no (by rw [HL0.out, HSL.out]) hno]; decide)))
  have HB4 := Lib.hid (HB3.out.trans (hb4.mono HB3.out.size))
  clear hno hb4
  go_wp2
  go_ret
  exact ⟨by rw [HV.out]; rfl, HB4.out⟩

end Go.Proofs.YtppoiahhaclleaaDoor

/- The chapter's example: its spans, its places. -/
namespace Go.Proofs.YtppoiahhaclleaaDoor
open Go.RowKit

def exP : LP := ⟨3, [], [⟨1, 0, -1, -1, -1, -1, 0, 7⟩, ⟨16, 1, -1, -1, -1, -1, 0, 3⟩, ⟨3, 0, -1, 0, 1, -1, 0, 0⟩, ⟨17, -1, -1, -1, -1, -1, 0, 0⟩]⟩
theorem ex_check : checkF exP 64 = (4, 0) := by decide +kernel
theorem ex_spans : spansF exP = [(0, 3), (1, 3), (-1, -1)] := by decide +kernel
theorem ex_ord : ordTo (spansF exP) 3 = [0, 1] := by rw [ex_spans]; decide +kernel
theorem ex_sort : insF (keyF (spansF exP)) 0 ((ordTo (spansF exP) 3).length - 1) 1 (ordTo (spansF exP) 3) = [0, 1] := by rw [ex_ord, ex_spans]; decide +kernel
def exPl : Nat → Nat → Int | 1, 0 => 0 | 1, _ => -1 | _, k => -1 - k
theorem ex_keeps1 : Keeps (spansF exP) [0, 1] 1 (exPl 1) := by
  rw [ex_spans]
  refine keeps_two (fun | 0 => 1 | _ => 0) (fun | 0 => 18446744073709551615 | 1 => 18446744073709551615 | _ => 18446744073709551614) (0, 3) (1, 3) rfl rfl rfl rfl ?_ ?_ (by decide)
  · intro k; constructor <;> (split <;> omega)
  · intro k hk
    match k, hk with
    | 0, _ => exact .inl ⟨by decide, by decide +kernel, rfl, by decide +kernel⟩
    | 1, _ => exact .inr ⟨rfl, rfl, by decide +kernel, by decide +kernel⟩
theorem ex_keeps0 : Keeps (spansF exP) [0, 1] 0 (exPl 0) := by
  rw [ex_spans]
  refine keeps_two (fun _ => 0) (fun | 0 => 18446744073709551615 | 1 => 18446744073709551614 | _ => 18446744073709551612) (0, 3) (1, 3) rfl rfl rfl rfl ?_ ?_ (by decide)
  · intro k; refine ⟨by omega, ?_⟩; split <;> omega
  · intro k hk
    match k, hk with
    | 0, _ => exact .inr ⟨rfl, rfl, by decide +kernel, by decide +kernel⟩
    | 1, _ => exact .inr ⟨rfl, rfl, by decide +kernel, by decide +kernel⟩
theorem ex_out1 : OF [0, 1] (exPl 1) 3 2 = [0, -1, 0] := by decide +kernel
theorem ex_out0 : OF [0, 1] (exPl 0) 3 2 = [-1, -2, 0] := by decide +kernel
/-- alloc.Build of the example. -/
theorem Build_ex (Ab Ao : Option Addr) (nb cb no co pool : Nat) (out : List Int) (w : World) (hp : ProgAt w (fun k => k < w.heap.size) [.int .i64 3, .slice Ab nb cb, .slice Ao no co] exP) (hT : TzAt w) (ho : pool = 1 ∧ out = [0, -1, 0] ∨ pool = 0 ∧ out = [-1, -2, 0]) :
    Calls Tryd.prog 13 #[.agg #[.int .i64 3, .slice Ab nb cb, .slice Ao no co], .int .i64 (pool : Nat)] w fun e w' => ∃ go, e = .returned (.tuple #[.slice (some ⟨go, 0, none⟩) 3 3, .int .i64 0]) ∧ w.heap.size ≤ go ∧ EndsAt w' go out ∧ Below w.heap.size w w' := by
  have hl : (ordTo (spansF exP) 3).length = 2 := by rw [ex_ord]; rfl
  have h := Build_any exP Ab Ao nb cb no co 3 pool (exPl pool) w hp (by rw [ex_check]) rfl (by omega) hT (by rw [hl]; omega) (by
    rw [ex_sort]
    rcases ho with ⟨rfl, _⟩ | ⟨rfl, _⟩
    · exact ex_keeps1
    · exact ex_keeps0)
  rw [ex_sort, hl] at h
  rcases ho with ⟨rfl, rfl⟩ | ⟨rfl, rfl⟩
  · rw [ex_out1] at h; exact h
  · rw [ex_out0] at h; exact h
end Go.Proofs.YtppoiahhaclleaaDoor

/- The example as the program makes it; lives. -/
namespace Go.Proofs.YtppoiahhaclleaaDoor
open Go.RowKit

set_option maxHeartbeats 1600000 in
theorem op_is (o : LOp) (he : o.e = -1) (hc : o.c = -1) (hb : o.buf = 0) (w : World) : Calls Tryd.prog 45 #[.int .i64 o.kind, .int .i64 o.d, .int .i64 o.a, .int .i64 o.b, .int .u64 o.imm] w fun e w' => e = .returned (.agg (opRow o).toArray) ∧ Below w.heap.size w w' := by
  obtain ⟨kind, d, e, a, b, c, buf, imm⟩ := o
  simp only [] at he hc hb
  subst he hc hb
  obtain ⟨W, hW⟩ : ∃ q, q = w.alloc (.cells (opRow ⟨kind, d, -1, a, b, -1, 0, imm⟩).toArray 47) := ⟨_, rfl⟩
  have hb : Below w.heap.size w W := by rw [hW]; exact (Below.refl _ _).alloc (Nat.le_refl _) _
  have h1 : W.heap[w.heap.size]? = some (.cells (opRow ⟨kind, d, -1, a, b, -1, 0, imm⟩).toArray 47 (0, 0)) := by rw [hW]; exact heap_alloc_new w _
  have HB := Lib.hid hb
  have H1 := Lib.hid h1
  have HW := Lib.hid hW
  clear hW hb h1
  go_enter Tryd.func45, Tryd.ntmps45
  go_wp2
  refine bodyPost_ret (v := .agg (opRow ⟨kind, d, -1, a, b, -1, 0, imm⟩).toArray) (one_result rfl _ _ w.heap.size 47 _ (0, 0) _ rfl (heap_alloc_new w _) Tryd.underlying47 rfl (by kernel_rfl)) rfl ?_
  refine ⟨rfl, ?_⟩
  have := HB.out
  rw [HW.out] at this
  exact this
set_option maxRecDepth 100000 in
set_option maxHeartbeats 4000000 in
theorem example_is (w : World) : Calls Tryd.prog 22 #[] w fun e w' => ∃ go, e = .returned (.agg #[.int .i64 3, .slice none 0 0, .slice (some ⟨go, 0, none⟩) 4 4]) ∧ Below w.heap.size w w' ∧ w'.heap[go]? = some (.cells ((exP.ops.map opRow).flatten).toArray 47 (0, 0)) := by
  have H0 : ∀ W : World, Calls Tryd.prog 45 #[.int .i64 1, .int .i64 0, .int .i64 (-1), .int .i64 (-1), .int .u64 7] W fun e w' => e = .returned (.agg #[.int .i64 1, .int .i64 0, .int .i64 (-1), .int .i64 (-1), .int .i64 (-1), .int .i64 (-1), .int .i64 0, .int .u64 7]) ∧ Below W.heap.size W w' := fun W => op_is ⟨1, 0, -1, -1, -1, -1, 0, 7⟩ rfl rfl rfl W
  have H1 : ∀ W : World, Calls Tryd.prog 45 #[.int .i64 16, .int .i64 1, .int .i64 (-1), .int .i64 (-1), .int .u64 3] W fun e w' => e = .returned (.agg #[.int .i64 16, .int .i64 1, .int .i64 (-1), .int .i64 (-1), .int .i64 (-1), .int .i64 (-1), .int .i64 0, .int .u64 3]) ∧ Below W.heap.size W w' := fun W => op_is ⟨16, 1, -1, -1, -1, -1, 0, 3⟩ rfl rfl rfl W
  have H2 : ∀ W : World, Calls Tryd.prog 45 #[.int .i64 3, .int .i64 0, .int .i64 0, .int .i64 1, .int .u64 0] W fun e w' => e = .returned (.agg #[.int .i64 3, .int .i64 0, .int .i64 (-1), .int .i64 0, .int .i64 1, .int .i64 (-1), .int .i64 0, .int .u64 0]) ∧ Below W.heap.size W w' := fun W => op_is ⟨3, 0, -1, 0, 1, -1, 0, 0⟩ rfl rfl rfl W
  have H3 : ∀ W : World, Calls Tryd.prog 45 #[.int .i64 17, .int .i64 (-1), .int .i64 (-1), .int .i64 (-1), .int .u64 0] W fun e w' => e = .returned (.agg #[.int .i64 17, .int .i64 (-1), .int .i64 (-1), .int .i64 (-1), .int .i64 (-1), .int .i64 (-1), .int .i64 0, .int .u64 0]) ∧ Below W.heap.size W w' := fun W => op_is ⟨17, -1, -1, -1, -1, -1, 0, 0⟩ rfl rfl rfl W
  obtain ⟨W, hW⟩ : ∃ q, q = w.alloc (.cells #[.int .i64 0, .slice none 0 0, .slice none 0 0] 25) := ⟨_, rfl⟩
  have hb : Below w.heap.size w W := by rw [hW]; exact (Below.refl _ _).alloc (Nat.le_refl _) _
  have h1 : W.heap[w.heap.size]? = some (.cells #[.int .i64 0, .slice none 0 0, .slice none 0 0] 25 (0, 0)) := by rw [hW]; exact heap_alloc_new w _
  have HB := Lib.hid hb
  have HC := Lib.hid h1
  have HW := Lib.hid hW
  have K0 := Lib.hid H0
  have K1 := Lib.hid H1
  have K2 := Lib.hid H2
  have K3 := Lib.hid H3
  clear hW hb h1 H0 H1 H2 H3
  go_enter Tryd.func22, Tryd.ntmps22
  go_upto_region 1 with fail
  rw [← HW.out]
  go_wp2_with (first | ((with_reducible refine (K0.out _).mono ?_); rintro e w1 ⟨rfl, hb1⟩; have HB1 := Lib.hid hb1; clear hb1) | ((with_reducible refine (K1.out _).mono ?_); rintro e w2 ⟨rfl, hb1⟩; have HB2 := Lib.hid hb1; clear hb1) | ((with_reducible refine (K2.out _).mono ?_); rintro e w3 ⟨rfl, hb1⟩; have HB3 := Lib.hid hb1; clear hb1) | ((with_reducible refine (K3.out _).mono ?_); rintro e w4 ⟨rfl, hb1⟩; have HB4 := Lib.hid (HB1.out.trans ((HB2.out.trans ((HB3.out.trans (hb1.mono HB3.out.size)).mono HB2.out.size)).mono HB1.out.size)); clear hb1; have HC4 := Lib.hid ((HB4.out.block w.heap.size (lt_of_block HC.out)).trans HC.out); have HA := Lib.hid (fun x => (Below.heap_alloc w4 x _ (lt_of_block HC4.out)).trans HC4.out); have a0 := fun x => cell_row (row := [_, _, _]) (HA.out x) (k := 0) rfl; have a1 := fun x => cell_row (row := [_, _, _]) (HA.out x) (k := 1) rfl; have a2 := fun x => cell_row (row := [_, _, _]) (HA.out x) (k := 2) rfl; have a3 := fun x k => frozen_row (row := [_, _, _]) (HA.out x) k))
  have hset := setCell_row (setCell_row (setCell_row (row := [_, _, _]) (HA.out (.cells ((exP.ops.map opRow).flatten).toArray 47)) 0 (.int .i64 3)) 1 (.slice none 0 0)) 2 (.slice (some ⟨w4.heap.size, 0, none⟩) 4 4)
  refine bodyPost_ret (v := .agg #[.int .i64 3, .slice none 0 0, .slice (some ⟨w4.heap.size, 0, none⟩) 4 4]) (one_result rfl _ _ w.heap.size 25 #[.int .i64 3, .slice none 0 0, .slice (some ⟨w4.heap.size, 0, none⟩) 4 4] (0, 0) _ rfl hset Tryd.underlying25 rfl (by kernel_rfl)) rfl ?_
  have hz : w.heap.size < W.heap.size := lt_of_block HC.out
  have hz4 := HB4.out.size
  refine ⟨w4.heap.size, rfl, ?_, ?_⟩
  · exact ((((HB.out.trans (HB4.out.mono HB.out.size)).alloc (Nat.le_trans HB.out.size hz4) _).setCell (Nat.le_refl _) _).setCell (Nat.le_refl _) _).setCell (Nat.le_refl _) _
  · have hne : w4.heap.size ≠ w.heap.size := by omega
    exact (Below.heap_setCell _ _ _ _ hne).trans ((Below.heap_setCell _ _ _ _ hne).trans ((Below.heap_setCell _ _ _ _ hne).trans (heap_alloc_new w4 _)))
theorem ex_at {w : World} {go : Nat} (h : w.heap[go]? = some (.cells ((exP.ops.map opRow).flatten).toArray 47 (0, 0))) : ProgAt w (fun k => k < w.heap.size) [.int .i64 3, .slice none 0 0, .slice (some ⟨go, 0, none⟩) 4 4] exP := by
  have hown : w.ownsRow 0 47 8 (.slice (some ⟨go, 0, none⟩) 4 4) (exP.ops.map opRow).length ((exP.ops.map opRow).flatten) := ⟨rfl, .inr ⟨go, 4, _, rfl, Nat.zero_le _, h, by decide, by decide, rfl, rfl⟩⟩
  refine ⟨⟨_, _, rfl, ⟨none, 0, rfl, by simp [exP], by intro r hr; simp [exP] at hr, fun h => absurd rfl h⟩, (rows_own hown (by intro r hr; obtain ⟨x, _, rfl⟩ := List.mem_map.1 hr; rfl)).mono fun k hk => (own_lt hown k hk).1⟩, by decide, by decide, by decide, by decide⟩
end Go.Proofs.YtppoiahhaclleaaDoor


/- keysmithkit.Same of rows of two ints. -/
namespace Go.Proofs.YtppoiahhaclleaaDoor
open Go.RowKit

theorem eq_two (a b c d : Int) (w : World) : (Op.equalIn 10000 43 (.agg #[.int .i64 a, .int .i64 b]) (.agg #[.int .i64 c, .int .i64 d])).run Tryd.prog w = .ok (a == c && b == d) w := by
  obtain ⟨j0, hie, hy0, hy1, hy2⟩ := info_parts infoI
  rw [show (10000 : Nat) = 9999 + 1 from rfl, run_equalIn_array w 9999 _ _ Tryd.underlying43 hie, show List.range 2 = [0, 1] from rfl, show Tryd.prog.cellsOf 3 = 1 by kernel_rfl]
  have hp : ∀ (x y : Int) (w : World), (part 3 #[.int .i64 x, .int .i64 y] 0).run Tryd.prog w = .ok (.int .i64 x) w ∧ (part 3 #[.int .i64 x, .int .i64 y] 1).run Tryd.prog w = .ok (.int .i64 y) w := fun x y w => by
    constructor <;> (go_simp; try rfl)
  have he : ∀ (x y : Int) (w : World), (Op.equalIn 9999 3 (.int .i64 x) (.int .i64 y)).run Tryd.prog w = .ok (x == y) w := fun x y w => run_equalIn_int (P := Tryd.prog) w 9998 3 .i64 .i64 x y Tryd.underlying3
  cases hac : (a == c) <;> cases hbd : (b == d) <;> simp [Op.eqItems, Sem.run_bind, (hp a b w).1, (hp a b w).2, (hp c d w).1, (hp c d w).2, he, hac, hbd]
theorem rows2_at {w : World} {F : Nat → Prop} {A : Option Addr} {n c : Nat} {a : List (Int × Int)} (h : Rows w F 2 (.slice A n c) (a.map spanRow)) {k : Nat} {s : Int × Int} (hk : a[k]? = some s) :
    ∃ b off, A = some ⟨b, off, none⟩ ∧ F b ∧ w.cell? ⟨b, off + k * 2, none⟩ = some (.int .i64 s.1) ∧ w.cell? ⟨b, off + k * 2 + 1, none⟩ = some (.int .i64 s.2) := by
  obtain ⟨A', c', hv, _, _, hh⟩ := h
  cases hv
  obtain ⟨b, off, rfl, hF, hc⟩ := hh (by intro e; rw [List.map_eq_nil_iff] at e; rw [e] at hk; cases hk)
  have hr : (a.map spanRow)[k]? = some (spanRow s) := by rw [List.getElem?_map, hk]; rfl
  exact ⟨b, off, rfl, hF, by simpa using hc k 0 _ _ hr rfl, hc k 1 _ _ hr rfl⟩
theorem take_eq {T : Type} {a b : List T} {k : Nat} {x y : T} (h : a.take k = b.take k) (hx : a[k]? = some x) (hy : b[k]? = some y) : a.take (k + 1) = b.take (k + 1) ↔ x = y := by
  rw [List.take_add_one, List.take_add_one, hx, hy, h]
  simp
set_option maxRecDepth 100000 in
set_option maxHeartbeats 4000000 in
theorem Same2_any (v u : Value) (w : World) (F : Nat → Prop) (a b : List (Int × Int)) (hn : a.length ≤ 1000) (hm : b.length ≤ 1000) (ha : Rows w F 2 v (a.map spanRow)) (hb : Rows w F 2 u (b.map spanRow)) (hF : ∀ k, F k → k < w.heap.size) :
    Calls Tryd.prog 25 #[v, u] w fun e w' => e = .returned (.bool (decide (a = b))) ∧ Below w.heap.size w w' := by
  obtain ⟨A, c, rfl, _⟩ := rows_form ha
  obtain ⟨B, d, rfl, _⟩ := rows_form hb
  obtain ⟨n, hna⟩ : ∃ n, a.length = n := ⟨_, rfl⟩
  obtain ⟨m, hmb⟩ : ∃ n, b.length = n := ⟨_, rfl⟩
  rw [hna] at ha hn ⊢
  rw [hmb] at hb hm ⊢
  have HA := Lib.hid ha
  have HB := Lib.hid hb
  have HF := Lib.hid hF
  have HL := Lib.hid (And.intro hna hmb)
  clear ha hb hF hna hmb
  by_cases hnm : n = m
  · subst hnm
    have q0 : ((n : Int) != (n : Int)) = false := by simp
    go_enter Tryd.func25, Tryd.ntmps25
    go_wp2
    go_loopw [5] (fun j wr => ∃ k : Nat, k ≤ n ∧ j = .int .i64 k ∧ Below w.heap.size w wr ∧ Hid (a.take k = b.take k)) (fun j _ => n - (intOf j).toNat)
    case atStart => exact ⟨0, by omega, rfl, Below.refl _ _, rfl⟩
    case round =>
      obtain ⟨k, hk, rfl, hbl, HT⟩ := hrel
      have HBL := Lib.hid hbl
      clear hbl
      by_cases hlt : k < n
      · obtain ⟨s, hs⟩ : ∃ s, a[k]? = some s := ⟨_, List.getElem?_eq_getElem (by have := HL.out.1; omega)⟩
        obtain ⟨t, ht⟩ : ∃ s, b[k]? = some s := ⟨_, List.getElem?_eq_getElem (by have := HL.out.2; omega)⟩
        obtain ⟨ba, oa, rfl, hFa, p0, p1⟩ := rows2_at HA.out hs
        obtain ⟨bb, ob, rfl, hFb, r0, r1⟩ := rows2_at HB.out ht
        have HTE := Lib.hid (take_eq HT.out hs ht)
        obtain ⟨x0, x1⟩ := s
        obtain ⟨y0, y1⟩ := t
        simp only [] at p0 p1 r0 r1
        have HCC := Lib.hid (And.intro ((HBL.out.cell (p := ⟨ba, oa + k * 2, none⟩) (HF.out _ hFa)).trans p0) (And.intro ((HBL.out.cell (p := ⟨ba, oa + k * 2 + 1, none⟩) (HF.out _ hFa)).trans p1) (And.intro ((HBL.out.cell (p := ⟨bb, ob + k * 2, none⟩) (HF.out _ hFb)).trans r0) ((HBL.out.cell (p := ⟨bb, ob + k * 2 + 1, none⟩) (HF.out _ hFb)).trans r1))))
        have i0 : (0 : Int) ≤ (k : Int) := by omega
        have i1 : (k : Int) < (n : Int) := by omega
        have q1 : IntKind.i64.wrap (k : Int) = k := by rw [IntKind.wrap_i64]; omega
        clear hs ht p0 p1 r0 r1 hFa hFb
        cases d0 : (x0 == y0)
        · have HNE := Lib.hid (show ¬ ((x0, x1) = (y0, y1)) from fun e => by cases e; simp at d0)
          have heq := fun w => eq_two x0 x1 y0 y1 w
          rw [d0, Bool.false_and] at heq
          go_wp2
          (refine wp_region_lines (fun w_ => w_.cell? ⟨ba, oa + k * 2, none⟩ = some (.int .i64 x0) ∧ w_.cell? ⟨ba, oa + k * 2 + 1, none⟩ = some (.int .i64 x1) ∧ w_.cell? ⟨bb, ob + k * 2, none⟩ = some (.int .i64 y0) ∧ w_.cell? ⟨bb, ob + k * 2 + 1, none⟩ = some (.int .i64 y1)) (by kernel_rfl) (by kernel_rfl) HCC.out ?_)
          (try simp only [])
          repeat (first | (refine runL_no (by rfl) ?_; (try simp only [Act.put, List.setIfInBounds_toArray, List.set_cons_zero, List.set_cons_succ])) | (refine runL_val (v := ?_) (by rfl) ?_ ?_; rotate_left; (focus (intro w_ hw_; obtain ⟨f1_, f2_, f3_, f4_⟩ := hw_; go_simp; (try with_reducible rfl); done)); (try simp only [Act.put, List.setIfInBounds_toArray, List.set_cons_zero, List.set_cons_succ])))
          (refine runL_nil ?_)
          go_wp2
          go_ret
          exact ⟨ret_bool (by symm; exact decide_eq_false (fun e => HNE.out (HTE.out.1 (by rw [e])))), HBL.out.drew⟩
        · cases d1 : (x1 == y1)
          · have HNE := Lib.hid (show ¬ ((x0, x1) = (y0, y1)) from fun e => by cases e; simp at d1)
            have heq := fun w => eq_two x0 x1 y0 y1 w
            rw [d0, d1, Bool.and_false] at heq
            go_wp2
            (refine wp_region_lines (fun w_ => w_.cell? ⟨ba, oa + k * 2, none⟩ = some (.int .i64 x0) ∧ w_.cell? ⟨ba, oa + k * 2 + 1, none⟩ = some (.int .i64 x1) ∧ w_.cell? ⟨bb, ob + k * 2, none⟩ = some (.int .i64 y0) ∧ w_.cell? ⟨bb, ob + k * 2 + 1, none⟩ = some (.int .i64 y1)) (by kernel_rfl) (by kernel_rfl) HCC.out ?_)
            (try simp only [])
            repeat (first | (refine runL_no (by rfl) ?_; (try simp only [Act.put, List.setIfInBounds_toArray, List.set_cons_zero, List.set_cons_succ])) | (refine runL_val (v := ?_) (by rfl) ?_ ?_; rotate_left; (focus (intro w_ hw_; obtain ⟨f1_, f2_, f3_, f4_⟩ := hw_; go_simp; (try with_reducible rfl); done)); (try simp only [Act.put, List.setIfInBounds_toArray, List.set_cons_zero, List.set_cons_succ])))
            (refine runL_nil ?_)
            go_wp2
            go_ret
            exact ⟨ret_bool (by symm; exact decide_eq_false (fun e => HNE.out (HTE.out.1 (by rw [e])))), HBL.out.drew⟩
          · have HEQ := Lib.hid (show (x0, x1) = (y0, y1) by rw [eq_of_beq d0, eq_of_beq d1])
            have heq := fun w => eq_two x0 x1 y0 y1 w
            rw [d0, d1, Bool.and_true] at heq
            go_wp2
            (refine wp_region_lines (fun w_ => w_.cell? ⟨ba, oa + k * 2, none⟩ = some (.int .i64 x0) ∧ w_.cell? ⟨ba, oa + k * 2 + 1, none⟩ = some (.int .i64 x1) ∧ w_.cell? ⟨bb, ob + k * 2, none⟩ = some (.int .i64 y0) ∧ w_.cell? ⟨bb, ob + k * 2 + 1, none⟩ = some (.int .i64 y1)) (by kernel_rfl) (by kernel_rfl) HCC.out ?_)
            (try simp only [])
            repeat (first | (refine runL_no (by rfl) ?_; (try simp only [Act.put, List.setIfInBounds_toArray, List.set_cons_zero, List.set_cons_succ])) | (refine runL_val (v := ?_) (by rfl) ?_ ?_; rotate_left; (focus (intro w_ hw_; obtain ⟨f1_, f2_, f3_, f4_⟩ := hw_; go_simp; (try with_reducible rfl); done)); (try simp only [Act.put, List.setIfInBounds_toArray, List.set_cons_zero, List.set_cons_succ])))
            (refine runL_nil ?_)
            go_wp2
            go_roundw
            case rel => exact ⟨k + 1, by omega, by go_num, HBL.out.drew, HTE.out.2 HEQ.out⟩
            case measure => simp [intOf]; omega
      · have hkn : k = n := by omega
        subst hkn
        have hab : a = b := by
          have h := HT.out
          rw [List.take_of_length_le (by rw [HL.out.1]; exact Nat.le_refl _), List.take_of_length_le (by rw [HL.out.2]; exact Nat.le_refl _)] at h
          exact h
        have HAB := Lib.hid hab
        clear hab
        go_wp2
        go_ret
        exact ⟨ret_bool (by symm; exact decide_eq_true HAB.out), HBL.out⟩
  · have q0 : ((n : Int) != (m : Int)) = true := by simp; omega
    have HNM := Lib.hid (show ¬ a = b from fun e => hnm (by rw [← HL.out.1, ← HL.out.2, e]))
    clear hnm
    go_enter Tryd.func25, Tryd.ntmps25
    go_wp2
    go_ret
    exact ⟨ret_bool (by symm; exact decide_eq_false HNM.out), Below.refl _ _⟩
end Go.Proofs.YtppoiahhaclleaaDoor

/- lives: true. -/
namespace Go.Proofs.YtppoiahhaclleaaDoor
open Go.RowKit

theorem ex_p1 : placesF exP 1 [0, -1, 0] = 0 := by decide +kernel
theorem ex_p2 : placesF exP 2 [0, 0, 0] = 6 := by decide +kernel
theorem ex_same {A : Option Addr} {c : Nat} {F : Nat → Prop} (w : World) (hr : Rows w F 2 (.slice A 3 c) ((spansF exP).map spanRow)) (hF : ∀ k, F k → k < w.heap.size) :
    Calls Tryd.prog 25 #[.slice A 3 c, .slice (some ⟨w.heap.size, 0, none⟩) 3 3] (w.alloc (.cells #[.int .i64 0, .int .i64 3, .int .i64 1, .int .i64 3, .int .i64 (-1), .int .i64 (-1)] 43)) fun e w' => e = .returned (.bool true) ∧ Below w.heap.size w w' := by
  have hb : Below w.heap.size w (w.alloc (.cells #[.int .i64 0, .int .i64 3, .int .i64 1, .int .i64 3, .int .i64 (-1), .int .i64 (-1)] 43)) := (Below.refl _ _).alloc (Nat.le_refl _) _
  obtain ⟨W, hW⟩ : ∃ q, q = w.alloc (.cells #[.int .i64 0, .int .i64 3, .int .i64 1, .int .i64 3, .int .i64 (-1), .int .i64 (-1)] 43) := ⟨_, rfl⟩
  have h1 : W.heap[w.heap.size]? = some (.cells #[.int .i64 0, .int .i64 3, .int .i64 1, .int .i64 3, .int .i64 (-1), .int .i64 (-1)] 43 (0, 0)) := by rw [hW]; exact heap_alloc_new w _
  rw [← hW] at hb ⊢
  have hown : W.ownsRow 0 43 2 (.slice (some ⟨w.heap.size, 0, none⟩) 3 3) (([(0, 3), (1, 3), (-1, -1)] : List (Int × Int)).map spanRow).length ((([(0, 3), (1, 3), (-1, -1)] : List (Int × Int)).map spanRow).flatten) := ⟨rfl, .inr ⟨w.heap.size, 3, _, rfl, Nat.zero_le _, h1, by decide, by decide, rfl, rfl⟩⟩
  have h := Same2_any _ _ W (fun k => k < W.heap.size) (spansF exP) [(0, 3), (1, 3), (-1, -1)] (by rw [ex_spans]; decide) (by decide) ((Rows.keep hr (SameOn.of_below hb hF)).mono fun k hk => Nat.lt_of_lt_of_le (hF k hk) hb.size) ((rows_own hown (by intro r hr; obtain ⟨x, _, rfl⟩ := List.mem_map.1 hr; rfl)).mono fun k hk => (own_lt hown k hk).1) (fun _ h => h)
  rw [ex_spans] at h
  refine h.mono ?_
  rintro e w' ⟨rfl, hb'⟩
  exact ⟨rfl, hb.trans (hb'.mono hb.size)⟩
theorem ex_chk2 {go : Nat} (w : World) (hx : w.heap[go]? = some (.cells ((exP.ops.map opRow).flatten).toArray 47 (0, 0))) :
    Calls Tryd.prog 24 #[.agg #[.int .i64 3, .slice none 0 0, .slice (some ⟨go, 0, none⟩) 4 4], .int .i64 2, .slice (some ⟨w.heap.size, 0, none⟩) 3 3] (w.alloc (.cells #[.int .i64 0, .int .i64 0, .int .i64 0] 3)) fun e w' => e = .returned (.int .i64 6) ∧ Below w.heap.size w w' := by
  have hb : Below w.heap.size w (w.alloc (.cells #[.int .i64 0, .int .i64 0, .int .i64 0] 3)) := (Below.refl _ _).alloc (Nat.le_refl _) _
  obtain ⟨W, hW⟩ : ∃ q, q = w.alloc (.cells #[.int .i64 0, .int .i64 0, .int .i64 0] 3) := ⟨_, rfl⟩
  have h1 : W.heap[w.heap.size]? = some (.cells (intV [0, 0, 0]).toArray 3 (0, 0)) := by rw [hW]; exact heap_alloc_new w _
  rw [← hW] at hb ⊢
  have h := acheck_any exP none (some ⟨go, 0, none⟩) (some ⟨w.heap.size, 0, none⟩) 0 0 4 4 3 3 2 [0, 0, 0] W (ex_at ((hb.block go (lt_of_block hx)).trans hx)) ((nums_blk h1).mono fun k hk => by subst hk; exact lt_of_block h1)
  rw [ex_p2] at h
  refine h.mono ?_
  rintro e w' ⟨rfl, hb'⟩
  exact ⟨rfl, hb.trans (hb'.mono hb.size)⟩
theorem ex_chk1 {go gl : Nat} (w : World) (hx : w.heap[go]? = some (.cells ((exP.ops.map opRow).flatten).toArray 47 (0, 0))) (hl : EndsAt w gl [0, -1, 0]) :
    Calls Tryd.prog 24 #[.agg #[.int .i64 3, .slice none 0 0, .slice (some ⟨go, 0, none⟩) 4 4], .int .i64 1, .slice (some ⟨gl, 0, none⟩) 3 3] w fun e w' => e = .returned (.int .i64 0) ∧ Below w.heap.size w w' := by
  have h := acheck_any exP none (some ⟨go, 0, none⟩) (some ⟨gl, 0, none⟩) 0 0 4 4 3 3 1 [0, -1, 0] w (ex_at hx) ((nums_blk hl).mono fun k hk => by subst hk; exact lt_of_block hl)
  rw [ex_p1] at h
  exact h
set_option maxRecDepth 100000 in
set_option maxHeartbeats 8000000 in
theorem lives_is (w : World) (hT : TzAt w) : Calls Tryd.prog 7 #[] w fun e w' => e = .returned (.bool true) ∧ Below w.heap.size w w' := by
  have hw0 : 0 < w.heap.size := lt_cell (hT 0 (by decide))
  have HE := Lib.hid (example_is w)
  have HT := Lib.hid hT
  have HW0 := Lib.hid hw0
  clear hT hw0
  go_enter Tryd.func7, Tryd.ntmps7
  go_upto_region 2 with ((with_reducible refine (HE.out).mono ?_); rintro e w1 ⟨go, rfl, hb1, hops⟩; have H1 := Lib.hid (And.intro hb1 hops); clear hb1 hops)
  obtain ⟨W, hW⟩ : ∃ q, q = w1.alloc (.cells #[.int .i64 3, .slice none 0 0, .slice (some ⟨go, 0, none⟩) 4 4] 25) := ⟨_, rfl⟩
  rw [← hW]
  obtain ⟨gp, hgp⟩ : ∃ q, w1.heap.size = q := ⟨_, rfl⟩
  rw [hgp]
  have hbW : Below w1.heap.size w1 W := by rw [hW]; exact (Below.refl _ _).alloc (Nat.le_refl _) _
  have hp : W.heap[gp]? = some (.cells #[.int .i64 3, .slice none 0 0, .slice (some ⟨go, 0, none⟩) 4 4] 25 (0, 0)) := by rw [hW, ← hgp]; exact heap_alloc_new w1 _
  have HB := Lib.hid (show Below w.heap.size w W from H1.out.1.trans (hbW.mono H1.out.1.size))
  have HP := Lib.hid hp
  have HX := Lib.hid (show W.heap[go]? = some (.cells ((exP.ops.map opRow).flatten).toArray 47 (0, 0)) from (hbW.block go (lt_of_block H1.out.2)).trans H1.out.2)
  have HAT := Lib.hid (fun wr (hb : Below W.heap.size W wr) => ex_at ((hb.block go (lt_of_block HX.out)).trans HX.out))
  have HPR := Lib.hid (fun wr (hb : Below W.heap.size W wr) => (hb.block gp (lt_of_block HP.out)).trans HP.out)
  have HBU := Lib.hid (show Calls Tryd.prog 13 #[.agg #[.int .i64 3, .slice none 0 0, .slice (some ⟨go, 0, none⟩) 4 4], .int .i64 1] W _ from Build_ex none (some ⟨go, 0, none⟩) 0 0 4 4 1 [0, -1, 0] W (HAT.out W (Below.refl _ _)) (HT.out.next HB.out HW0.out) (.inl ⟨rfl, rfl⟩))
  have c0 : W.cell? ⟨gp, 0, none⟩ = some (.int .i64 3) := cell_row (row := [_, _, _]) HP.out rfl
  have c1 : W.cell? ⟨gp, 1, none⟩ = some (.slice none 0 0) := cell_row (row := [_, _, _]) HP.out rfl
  have c2 : W.cell? ⟨gp, 2, none⟩ = some (.slice (some ⟨go, 0, none⟩) 4 4) := cell_row (row := [_, _, _]) HP.out rfl
  clear hW hbW hp hgp
  go_upto_region 3 with ((with_reducible refine (HBU.out).mono ?_); rintro e w2 ⟨gl, rfl, hgl, hel, hb2⟩; have H2 := Lib.hid (And.intro hgl (And.intro hel hb2)); clear hgl hel hb2)
  clear c0 c1 c2
  have c0 : w2.cell? ⟨gp, 0, none⟩ = some (.int .i64 3) := cell_row (row := [_, _, _]) (HPR.out w2 H2.out.2.2) rfl
  have c1 : w2.cell? ⟨gp, 1, none⟩ = some (.slice none 0 0) := cell_row (row := [_, _, _]) (HPR.out w2 H2.out.2.2) rfl
  have c2 : w2.cell? ⟨gp, 2, none⟩ = some (.slice (some ⟨go, 0, none⟩) 4 4) := cell_row (row := [_, _, _]) (HPR.out w2 H2.out.2.2) rfl
  have HX2 := Lib.hid ((H2.out.2.2.block go (lt_of_block HX.out)).trans HX.out)
  have HLV := Lib.hid (show Calls Tryd.prog 20 #[.agg #[.int .i64 3, .slice none 0 0, .slice (some ⟨go, 0, none⟩) 4 4]] w2 _ from Live_ok exP none (some ⟨go, 0, none⟩) 0 0 4 4 3 w2 (HAT.out w2 H2.out.2.2) (by rw [ex_check]) rfl)
  go_wp2_with (first | ((with_reducible refine (HLV.out).mono ?_); rintro e w3 ⟨A3, c3, rfl, hb3, hr3⟩; have HL3 := Lib.hid (EndsAt.chg (P := fun _ => False) H2.out.2.1 (.of_below hb3) id); have HSM := Lib.hid (ex_same w3 hr3 (fun _ h => h.2)); have H3 := Lib.hid (H2.out.2.2.trans (hb3.mono H2.out.2.2.size)); clear hb3 hr3) | ((with_reducible refine (HSM.out).mono ?_); rintro e w4 ⟨rfl, hb4⟩; have H4 := Lib.hid (H3.out.trans (hb4.mono H3.out.size)); have HD4 := Lib.hid (H4.out.block gp (lt_of_block HP.out)); have d0 : w4.cell? ⟨gp, 0, none⟩ = some (.int .i64 3) := cell_row (row := [_, _, _]) (HPR.out w4 H4.out) rfl; have d1 : w4.cell? ⟨gp, 1, none⟩ = some (.slice none 0 0) := cell_row (row := [_, _, _]) (HPR.out w4 H4.out) rfl; have d2 : w4.cell? ⟨gp, 2, none⟩ = some (.slice (some ⟨go, 0, none⟩) 4 4) := cell_row (row := [_, _, _]) (HPR.out w4 H4.out) rfl; have HK1 := Lib.hid (ex_chk1 (go := go) (gl := gl) w4 ((H4.out.block go (lt_of_block HX.out)).trans HX.out) (EndsAt.chg (P := fun _ => False) HL3.out (.of_below hb4) id)); clear hb4) | ((with_reducible refine (HK1.out).mono ?_); rintro e w5 ⟨rfl, hb5⟩; have H5 := Lib.hid (H4.out.trans (hb5.mono H4.out.size)); have f0 : w5.cell? ⟨gp, 0, none⟩ = some (.int .i64 3) := cell_row (row := [_, _, _]) (HPR.out w5 H5.out) rfl; have f1 : w5.cell? ⟨gp, 1, none⟩ = some (.slice none 0 0) := cell_row (row := [_, _, _]) (HPR.out w5 H5.out) rfl; have f2 : w5.cell? ⟨gp, 2, none⟩ = some (.slice (some ⟨go, 0, none⟩) 4 4) := cell_row (row := [_, _, _]) (HPR.out w5 H5.out) rfl; have HK2 := Lib.hid (ex_chk2 (go := go) w5 ((H5.out.block go (lt_of_block HX.out)).trans HX.out)); clear hb5) | ((with_reducible refine (HK2.out).mono ?_); rintro e w6 ⟨rfl, hb6⟩; have H6 := Lib.hid (H5.out.trans (hb6.mono H5.out.size)); clear hb6))
  go_ret
  exact ⟨rfl, HB.out.trans (H6.out.mono HB.out.size)⟩
end Go.Proofs.YtppoiahhaclleaaDoor

/- What AllocLive asks of a span: plain. -/
namespace Go.Proofs.YtppoiahhaclleaaDoor
open Go.RowKit

theorem check_same (p : LP) : checkF p p.regs.toNat = checkF p 64 := by
  by_cases h : headF p = 0
  · have := head_ok h
    exact check_alike (by omega) (by omega)
  · unfold checkF
    rw [if_pos h, if_pos h]
/-- The first operation of so many that has a register. -/
def FirstIs (p : LP) (r : Int) (k : Nat) (f : Int) : Prop :=
  (f = -1 ∧ ∀ (j : Nat) (q : LOp), j < k → p.ops[j]? = some q → hasF q r = false) ∨
  (∃ (i : Nat) (o : LOp), f = i ∧ i < k ∧ p.ops[i]? = some o ∧ hasF o r = true ∧ ∀ (j : Nat) (q : LOp), j < i → p.ops[j]? = some q → hasF q r = false)
theorem first_zero (p : LP) (r : Int) : FirstIs p r 0 (-1) := .inl ⟨rfl, fun j q h => absurd h (by omega)⟩
theorem first_no {p : LP} {r f : Int} {k : Nat} {o : LOp} (h : FirstIs p r k f) (ho : p.ops[k]? = some o) (hh : hasF o r = false) : FirstIs p r (k + 1) f := by
  rcases h with ⟨h1, h2⟩ | ⟨i, o', h1, h2, h3⟩
  · refine .inl ⟨h1, fun j q hj hq => ?_⟩
    rcases Nat.lt_or_ge j k with h | h
    · exact h2 j q h hq
    · obtain rfl : j = k := by omega
      rw [ho] at hq; cases hq; exact hh
  · exact .inr ⟨i, o', h1, by omega, h3⟩
theorem first_more {p : LP} {r f : Int} {k : Nat} (h : FirstIs p r k f) (hf : ¬ f < 0) : FirstIs p r (k + 1) f := by
  rcases h with ⟨h1, h2⟩ | ⟨i, o', h1, h2, h3⟩
  · omega
  · exact .inr ⟨i, o', h1, by omega, h3⟩
theorem first_yes {p : LP} {r f : Int} {k : Nat} {o : LOp} (h : FirstIs p r k f) (hf : f < 0) (ho : p.ops[k]? = some o) (hh : hasF o r = true) : FirstIs p r (k + 1) k := by
  rcases h with ⟨h1, h2⟩ | ⟨i, o', h1, h2, h3⟩
  · exact .inr ⟨k, o, rfl, by omega, ho, hh, h2⟩
  · omega
theorem live_has {p : LP} {r k : Nat} {s : Int × Int} {o : LOp} (h : SpanIs p r s) (ho : p.ops[k]? = some o) (hh : hasF o r = true) : 0 ≤ s.1 ∧ s.1 ≤ k ∧ (k : Int) ≤ s.2 := by
  have hl := h.last k o ho hh
  rcases Int.lt_or_le s.1 0 with h0 | h0
  · have := (h.none_ h0).2.2 k o ho
    rw [hh] at this; cases this
  · refine ⟨h0, ?_, hl⟩
    obtain ⟨_, i, o', h1, h2, h3, h4⟩ := h.some_ h0
    rcases Nat.lt_or_ge k i with hk | hk
    · have := h4 k o hk ho
      rw [hh] at this; cases this
    · omega
theorem live_loop {p : LP} {r k : Nat} {s : Int × Int} {o : LOp} (h : SpanIs p r s) (ho : p.ops[k]? = some o) (hk : o.kind = 16) (h0 : 0 ≤ s.1) (h1 : s.1 < k) (h2 : (k : Int) < s.2) : ¬ s.2 < (endsF p.ops).getD k 0 := by
  have := h.lasts k o ho hk h0 h1 (by omega)
  omega
theorem live_end {p : LP} {r : Nat} {s : Int × Int} {f : Int} (h : SpanIs p r s) (hf : FirstIs p r p.ops.length f) : s.1 = f ∧ (s.2 < 0 ↔ f < 0) ∧ s.2 < max 1 (p.ops.length : Int) := by
  have hlt := h.lt
  refine ⟨?_, ?_, by omega⟩
  · rcases hf with ⟨h1, h2⟩ | ⟨i, o, h1, h2, h3, h4, h5⟩
    · rcases Int.lt_or_le s.1 0 with h0 | h0
      · rw [(h.none_ h0).1, h1]
      · obtain ⟨_, i, o, e1, e2, e3, _⟩ := h.some_ h0
        have := h2 i o (List.getElem?_eq_some_iff.1 e2).1 e2
        rw [e3] at this; cases this
    · have hh := live_has h h3 h4
      obtain ⟨_, j, q, e1, e2, e3, e4⟩ := h.some_ hh.1
      rcases Nat.lt_trichotomy i j with h' | h' | h'
      · have := e4 i o h' h3
        rw [h4] at this; cases this
      · omega
      · have := h5 j q h' e2
        rw [e3] at this; cases this
  · rcases hf with ⟨h1, h2⟩ | ⟨i, o, h1, h2, h3, h4, h5⟩
    · rcases Int.lt_or_le s.1 0 with h0 | h0
      · have := (h.none_ h0).2.1
        omega
      · obtain ⟨_, i, o, e1, e2, e3, _⟩ := h.some_ h0
        have := h2 i o (List.getElem?_eq_some_iff.1 e2).1 e2
        rw [e3] at this; cases this
    · have hh := live_has h h3 h4
      omega
end Go.Proofs.YtppoiahhaclleaaDoor

/- ref14.Live, whole. -/
namespace Go.Proofs.YtppoiahhaclleaaDoor
open Go.RowKit

theorem make_spans (n : Nat) (hn : n ≤ 65536) (w : World) : (Instr.makeSlice 39 (.int .i64 n) (.int .i64 n)).run Tryd.prog w = .ok (.slice (some ⟨w.heap.size, 0, none⟩) n n) (w.alloc (.cells (spV (List.replicate n (0, 0))).toArray 43)) := by
  obtain ⟨i0, hi, hz0, hz1, hz2⟩ := info_parts info2
  have h := run_make (P := Tryd.prog) w 39 43 i0 (.agg #[.int .i64 0, .int .i64 0]) Tryd.underlying39 hi hz0 .i64 .i64 n n (by omega) (by omega) (by rw [hz2]; omega) (by omega)
  rw [hz1] at h
  have e : (Value.agg #[.int .i64 0, .int .i64 0]).cells = #[.int .i64 0, .int .i64 0] := rfl
  have e2 : madeCells #[.int .i64 0, .int .i64 0] (n * 2) = (spV (List.replicate n (0, 0))).toArray := by
    refine Array.ext (by simp [size_madeCells, spV_len]) fun i h1 h2 => ?_
    have hi2 : i < n * 2 := by simpa [size_madeCells] using h1
    have hr : (List.replicate n ((0 : Int), (0 : Int)))[i / 2]? = some (0, 0) := by rw [List.getElem?_replicate, if_pos (by omega)]
    have hg := spV_get hr
    have hm : (spV (List.replicate n (0, 0)))[i]? = some (.int .i64 0) := by
      rcases Nat.mod_two_eq_zero_or_one i with h | h
      · rw [show i = i / 2 * 2 by omega]; exact hg.1
      · rw [show i = i / 2 * 2 + 1 by omega]; exact hg.2
    have h3 : (spV (List.replicate n (0, 0))).toArray[i] = .int .i64 0 := by rw [List.getElem_toArray]; exact (List.getElem?_eq_some_iff.1 hm).2
    rw [h3]
    simp only [madeCells, Array.getElem_map, Array.getElem_range]
    rcases Nat.mod_two_eq_zero_or_one i with h | h <;> simp [h]
  rw [e] at h
  simp only [Int.toNat_natCast, e2] at h
  exact h
/-- So far begun. -/
def begS (n r : Nat) : List (Int × Int) := List.replicate r (-1, -1) ++ List.replicate (n - r) (0, 0)
theorem begS_get {n r : Nat} (h : r < n) : (begS n r)[r]? = some (0, 0) := by
  unfold begS
  rw [List.getElem?_append_right (by simp), List.length_replicate, Nat.sub_self, List.getElem?_replicate, if_pos (by omega)]
theorem begS_next {n r : Nat} (h : r < n) : (begS n r).set r (-1, -1) = begS n (r + 1) := by
  unfold begS
  rw [List.set_append_right _ _ (by simp), List.length_replicate, Nat.sub_self, show n - r = (n - (r + 1)) + 1 by omega, List.replicate_succ, List.set_cons_zero, List.replicate_succ', List.append_assoc]
  rfl
theorem rnote_op {p : LP} {o : LOp} {E : List Int} {sp : List (Int × Int)} {k : Nat} {ext : List Int} (hf : fieldsF p o = true) (hsp : ∀ s ∈ sp, s.2 ≤ (k : Int)) (hext : regsOf p.ops E o k = [o.a, o.b, o.c, o.d, o.e] ++ ext) (h0 : ∀ r ∈ ext, 0 ≤ r) :
    (takesF o ++ makesF o ++ ext).foldl (fun sp r => rnoteL sp r k) sp = noteOp p.ops E sp o k := by
  obtain ⟨h1, h2⟩ := regs_same hf
  rw [rfold_eq hsp (fun r hr => by
    rcases List.mem_append.1 hr with h | h
    · exact (h2 r h).1
    · exact h0 r h)]
  unfold noteOp
  rw [hext]
  refine fold_mem (fun j => ?_) _ _
  have := h1 j
  constructor
  · intro h
    rcases List.mem_append.1 h with h | h
    · exact List.mem_append_left _ (this.1 h)
    · exact List.mem_append_right _ h
  · intro h
    rcases List.mem_append.1 h with h | h
    · exact List.mem_append_left _ (this.2 h)
    · exact List.mem_append_right _ h
theorem notes_le {p : LP} {E : List Int} {k : Nat} (hk : k ≤ p.ops.length) : ∀ s ∈ notesTo p E k, s.2 ≤ (k : Int) := fun s hs => by
  obtain ⟨r, hr⟩ := List.getElem?_of_mem hs
  have := (notes_inv p E k hk r s hr).lt
  omega

set_option pp.deepTerms true in
set_option pp.maxSteps 1000000 in
set_option maxRecDepth 100000 in
set_option maxHeartbeats 4000000 in
theorem RLive_bad (p : LP) (Ab Ao : Option Addr) (nb cb no co : Nat) (w : World) (hp : ProgAt w (fun k => k < w.heap.size) [.int .i64 p.regs, .slice Ab nb cb, .slice Ao no co] p) (h0 : (checkF p 64).2 ≠ 0) :
    Calls Tryd.prog 15 #[.agg #[.int .i64 p.regs, .slice Ab nb cb, .slice Ao no co]] w fun e w' => e = .returned (.slice none 0 0) ∧ Below w.heap.size w w' := by
  obtain ⟨W, hW, hbW, hzW, hl_, hr_⟩ := boxed w #[.int .i64 p.regs, .slice Ab nb cb, .slice Ao no co] 25
  have c0 : W.cell? ⟨w.heap.size, 0, none⟩ = some (.int .i64 p.regs) := by rw [hl_]; rfl
  have c1 : W.cell? ⟨w.heap.size, 1, none⟩ = some (.slice Ab nb cb) := by rw [hl_]; rfl
  have c2 : W.cell? ⟨w.heap.size, 2, none⟩ = some (.slice Ao no co) := by rw [hl_]; rfl
  have hlt : w.heap.size < W.heap.size := by omega
  have hp1 := prog_next hp hbW
  have HC := Lib.hid (Rcheck_any p Ab Ao nb cb no co W hp1)
  rw [check_same] at HC
  have HW := Lib.hid hW
  have HB := Lib.hid hbW
  obtain ⟨x, hx⟩ : ∃ x, (checkF p 64).1 = x := ⟨_, rfl⟩
  obtain ⟨y, hy⟩ : ∃ x, (checkF p 64).2 = x := ⟨_, rfl⟩
  rw [hx, hy] at HC
  rw [hy] at h0
  have d0 : (y != 0) = true := by simpa using h0
  clear hW hbW hzW hl_ hr_ hp hp1 hx hy h0 hlt
  go_enter Tryd.func15, Tryd.ntmps15
  go_upto_region 1 with fail
  rw [← HW.out]
  go_wp2_with ((with_reducible refine (HC.out).mono ?_); rintro e w1 ⟨rfl, hb1⟩)
  go_ret
  exact ⟨rfl, HB.out.trans (hb1.mono HB.out.size)⟩

set_option pp.deepTerms true in
set_option pp.maxSteps 1000000 in
set_option maxRecDepth 100000 in
set_option maxHeartbeats 16000000 in
theorem RLive_ok (p : LP) (Ab Ao : Option Addr) (nb cb no co n : Nat) (w : World) (hp : ProgAt w (fun k => k < w.heap.size) [.int .i64 p.regs, .slice Ab nb cb, .slice Ao no co] p) (h0 : (checkF p 64).2 = 0) (hn : p.regs = n) :
    Calls Tryd.prog 15 #[.agg #[.int .i64 p.regs, .slice Ab nb cb, .slice Ao no co]] w fun e w' => ∃ gs, e = .returned (.slice (some ⟨gs, 0, none⟩) n n) ∧ w.heap.size ≤ gs ∧ SpansR w' gs (spansF p) ∧ Below w.heap.size w w' := by
  obtain ⟨W, hW, hbW, hzW, hl_, hr_⟩ := boxed w #[.int .i64 p.regs, .slice Ab nb cb, .slice Ao no co] 25
  have c0 : W.cell? ⟨w.heap.size, 0, none⟩ = some (.int .i64 p.regs) := by rw [hl_]; rfl
  have c1 : W.cell? ⟨w.heap.size, 1, none⟩ = some (.slice Ab nb cb) := by rw [hl_]; rfl
  have c2 : W.cell? ⟨w.heap.size, 2, none⟩ = some (.slice Ao no co) := by rw [hl_]; rfl
  have hlt : w.heap.size < W.heap.size := by omega
  have hp1 := prog_next hp hbW
  have HC := Lib.hid (Rcheck_any p Ab Ao nb cb no co W hp1)
  rw [check_same] at HC
  have HW := Lib.hid hW
  have HB := Lib.hid hbW
  obtain ⟨x, hx⟩ : ∃ x, (checkF p 64).1 = x := ⟨_, rfl⟩
  rw [hx, h0] at HC
  have hOps : OpsAt w (fun k => k < w.heap.size) (.slice Ao no co) p.ops := by
    obtain ⟨vb, vo, h, h1, h2⟩ := hp.row
    simp only [List.cons.injEq] at h
    rw [h.2.2.1]; exact h2
  have hno : p.ops.length = no := by obtain ⟨A, c, hv, _⟩ := rows_form hOps; cases hv; rfl
  have hhd := head_ok (check_run h0).1
  have hno6 : no ≤ 65536 := by omega
  have hn64 : n ≤ 64 := by omega
  have HENDS : Hid (∀ wr, Below W.heap.size W wr → Calls Tryd.prog 21 #[.agg #[.int .i64 p.regs, .slice Ab nb cb, .slice Ao no co]] wr fun e w' => ∃ g, e = .returned (.slice (some ⟨g, 0, none⟩) no no) ∧ wr.heap.size ≤ g ∧ w'.heap[g]? = some (.cells (intV (endsF p.ops)).toArray 3 (0, 0)) ∧ Below wr.heap.size wr w') := Lib.hid (by
    intro wr hb
    have h := Rends_any p Ab Ao nb cb no co wr (prog_next hp1 hb) (by rw [check_same]; exact h0)
    rw [hno] at h
    exact h)
  have HOPS := Lib.hid hOps
  have HNO := Lib.hid hno
  have HBAL := Lib.hid (check_bal h0)
  have HN := Lib.hid hn
  have HCF := Lib.hid (fun (k : Nat) (o : LOp) (ho : p.ops[k]? = some o) => check_fields h0 ho)
  have HCS := Lib.hid (fun wr (hb : Below W.heap.size W wr) => And.intro ((hb.cell (p := ⟨w.heap.size, 0, none⟩) hlt).trans c0) (And.intro ((hb.cell (p := ⟨w.heap.size, 1, none⟩) hlt).trans c1) ((hb.cell (p := ⟨w.heap.size, 2, none⟩) hlt).trans c2)))
  have HLT := Lib.hid hlt
  clear hW hbW hzW hl_ hr_ hp hp1 hOps hno hhd h0 hx hlt
  rw [hn] at c0 HC HENDS HCS ⊢
  clear hn
  go_enter Tryd.func15, Tryd.ntmps15
  go_upto_region 1 with fail
  (first | rw [← HW.out] | rw [← HN.out, ← HW.out, HN.out])
  go_upto_region 4 with ((with_reducible refine (HC.out).mono ?_); rintro e w1 ⟨rfl, hb1⟩; have H1 := Lib.hid hb1; clear hb1)
  clear c0 c1 c2
  have HE := Lib.hid (HENDS.out w1 H1.out)
  have c0 : w1.cell? ⟨w.heap.size, 0, none⟩ = some (.int .i64 n) := (HCS.out w1 H1.out).1
  have c1 : w1.cell? ⟨w.heap.size, 1, none⟩ = some (.slice Ab nb cb) := (HCS.out w1 H1.out).2.1
  have c2 : w1.cell? ⟨w.heap.size, 2, none⟩ = some (.slice Ao no co) := (HCS.out w1 H1.out).2.2
  go_upto_region 5 with ((with_reducible refine (HE.out).mono ?_); rintro e w2 ⟨ge, rfl, hge, hge2, hb3⟩; have H2 := Lib.hid (And.intro (H1.out.trans (hb3.mono H1.out.size)) (And.intro hge hge2)); clear hge hge2 hb3)
  have HEL := Lib.hid (show (endsF p.ops).length = no by rw [ends_len HBAL.out, HNO.out])
  have c3 : w2.cell? ⟨w.heap.size, 0, none⟩ = some (.int .i64 n) := (HCS.out w2 H2.out.1).1
  have hmk := make_spans n (by omega) w2
  obtain ⟨W3, hW3⟩ : ∃ q, q = w2.alloc (.cells (spV (List.replicate n (0, 0))).toArray 43) := ⟨_, rfl⟩
  obtain ⟨gs, hgs⟩ : ∃ g, w2.heap.size = g := ⟨_, rfl⟩
  have hb3 : Below w2.heap.size w2 W3 := by rw [hW3]; exact (Below.refl _ _).alloc (Nat.le_refl _) _
  have h3 : SpansR W3 gs (begS n 0) := by rw [hW3, ← hgs]; exact heap_alloc_new w2 _
  rw [← hW3, hgs] at hmk
  have HBW3 := Lib.hid (show Below W.heap.size W W3 from H2.out.1.trans (hb3.mono H2.out.1.size))
  have HE3 := Lib.hid (show EndsAt W3 ge (endsF p.ops) from (hb3.block ge (lt_of_block H2.out.2.2)).trans H2.out.2.2)
  have HSP3 := Lib.hid h3
  have HLL := Lib.hid (show w.heap.size < W.heap.size ∧ W.heap.size ≤ ge ∧ ge < gs from ⟨HLT.out, by have := H2.out.2.1; have := H1.out.size; omega, by rw [← hgs]; exact lt_of_block H2.out.2.2⟩)
  clear c0 c1 c2 hW3 hgs hb3 h3
  go_upto_region 6 with fail
  clear hmk c3
  go_wp2
  go_loopw [7] (fun i wr => ∃ k : Nat, k ≤ n ∧ i = .int .i64 k ∧ Hid (Chg (fun k => k = gs) W3 wr ∧ SpansR wr gs (begS n k))) (fun i _ => n - (intOf i).toNat)
  case atStart => exact ⟨0, by omega, rfl, Lib.hid ⟨Chg.refl _ _, HSP3.out⟩⟩
  case round =>
    obtain ⟨k, hk, rfl, HJ⟩ := hrel
    have b0 : wr.cell? ⟨w.heap.size, 0, none⟩ = some (.int .i64 n) := (World.cell?_of_block (w := W3) (w' := wr) (a := ⟨w.heap.size, 0, none⟩) (HJ.out.1.block w.heap.size (by have := HLL.out; have := HBW3.out.size; omega) (by have := HLL.out; omega))).trans (HCS.out W3 HBW3.out).1
    have b2 : wr.cell? ⟨w.heap.size, 2, none⟩ = some (.slice Ao no co) := (World.cell?_of_block (w := W3) (w' := wr) (a := ⟨w.heap.size, 2, none⟩) (HJ.out.1.block w.heap.size (by have := HLL.out; have := HBW3.out.size; omega) (by have := HLL.out; omega))).trans (HCS.out W3 HBW3.out).2.2
    by_cases hlt : k < n
    · have i0 : (0 : Int) ≤ (k : Int) := by omega
      have i1 : (k : Int) < (n : Int) := by omega
      have hkd1 : decide (k < n) = true := decide_eq_true hlt
      have hr := begS_get hlt
      have hcc := HJ.out.2.cells hr
      have hc1 := hcc.1
      have hc2 := hcc.2
      have hff : ∀ j, wr.frozen? ⟨gs, j, none⟩ = false := fun j => frozen_row HJ.out.2 j
      have hf1 := hff (k * 2)
      have hS1 := setCell_row HJ.out.2 (k * 2) (.int .i64 (-1))
      have hS2 := setCell_row hS1 (k * 2 + 1) (.int .i64 (-1))
      have hc3 : (wr.setCell ⟨gs, k * 2, none⟩ (.int .i64 (-1))).cell? ⟨gs, k * 2 + 1, none⟩ = some (.int .i64 0) := cell_row hS1 (by rw [List.getElem?_set_ne (by omega)]; exact (spV_get hr).2)
      have hf2 : (wr.setCell ⟨gs, k * 2, none⟩ (.int .i64 (-1))).frozen? ⟨gs, k * 2 + 1, none⟩ = false := frozen_row hS1 _
      rw [spV_set hr (-1) (-1), begS_next hlt] at hS2
      have HS2 := Lib.hid hS2
      clear hr hcc hff hS1 hS2 b2
      go_wp2
      go_roundw
      case rel => exact ⟨k + 1, by omega, by go_num, Lib.hid ⟨((HJ.out.1).setCell (.inl rfl) _).setCell (.inl rfl) _, HS2.out⟩⟩
      case measure => simp [intOf]; omega
    · have HB0 := Lib.hid (show Below w.heap.size w wr from HB.out.trans ((below_chg HBW3.out HJ.out.1 (fun j hj => by have := HLL.out; omega)).mono HB.out.size))
      have HSN := Lib.hid (show SpansR wr gs (notesTo p (endsF p.ops) 0) by
        have h : notesTo p (endsF p.ops) 0 = begS n k := by
          show List.replicate p.regs.toNat (-1, -1) = _
          rw [HN.out, show k = n by omega]; unfold begS; simp
        rw [h]; exact HJ.out.2)
      have HEN := Lib.hid (show EndsAt wr ge (endsF p.ops) from (HJ.out.1.block ge (lt_of_block HE3.out) (by have := HLL.out; omega)).trans HE3.out)
      have hkd1 : decide (k < n) = false := decide_eq_false hlt
      have B2 := Lib.hid b2
      have B0 := Lib.hid b0
      obtain ⟨wz, hwz⟩ : ∃ q, q = wr := ⟨_, rfl⟩
      go_wp2
      clear b0 b2 hlt hkd1 hk
      rw [← hwz] at HJ HB0 HSN HEN B2 B0 ⊢
      clear hwz HJ
      go_loopw [8] (fun i wr => ∃ k : Nat, k ≤ no ∧ i = .int .i64 k ∧ Hid (Below w.heap.size w wr ∧ SpansR wr gs (notesTo p (endsF p.ops) k) ∧ EndsAt wr ge (endsF p.ops) ∧ wr.cell? ⟨w.heap.size, 2, none⟩ = some (.slice Ao no co) ∧ wr.cell? ⟨w.heap.size, 0, none⟩ = some (.int .i64 n))) (fun i _ => no - (intOf i).toNat)
      case atStart => exact ⟨0, by omega, rfl, Lib.hid ⟨HB0.out, HSN.out, HEN.out, B2.out, B0.out⟩⟩
      case round =>
        obtain ⟨k, hk, rfl, HJ⟩ := hrel
        have b2 := HJ.out.2.2.2.1
        by_cases hlt : k < no
        · have hkd1 : decide (k < no) = true := decide_eq_true hlt
          obtain ⟨o, ho⟩ : ∃ o, p.ops[k]? = some o := ⟨_, List.getElem?_eq_getElem (by rw [HNO.out]; omega)⟩
          obtain ⟨g, off, hA, hFg, x0, x1, x2, x3, x4, x5, x6, x7⟩ := HOPS.out.at_ ho
          subst hA
          have HX0 := Lib.hid x0
          have HNX := Lib.hid (notes_next (E := endsF p.ops) ho)
          have HO := Lib.hid ho
          have HRG := Lib.hid (regs_same (HCF.out k o ho))
          have HRI := Lib.hid (regs_is (HCF.out k o ho))
          have HGW := Lib.hid (show g < w.heap.size from hFg)
          have HGSL := Lib.hid (lt_of_block HJ.out.2.1)
          have HGEL := Lib.hid (lt_of_block HJ.out.2.2.1)
          have HNL := Lib.hid (show (notesTo p (endsF p.ops) k).length = n by rw [notes_len, HN.out]; rfl)
          have i0 : (0 : Int) ≤ (k : Int) := by omega
          have i1 : (k : Int) < (no : Int) := by omega
          clear x0 x1 x2 x3 x4 x5 x6 x7 hFg ho
          go_wp2
          refine wp_code (c := partR Tryd.f15 13) (by kernel_rfl) ?_
          refine rl_r13 (g := g) (off := off) (co := co) (no := no) (k := k) (o := o) (ops := p.ops) _ _ ((Rows.keep HOPS.out (SameOn.of_below HJ.out.1 fun _ h => h)).mono fun j hj => Nat.lt_of_lt_of_le hj HJ.out.1.size) HO.out HNO.out hno6 HJ.out.2.2.2.1 (by have := HLL.out; have := HGSL.out; omega) HRI.out.1 HRI.out.2.1 ?_
          intro v9 v10 v45 v46 v47 v48 v49 v50 v51 v52 v53 v54 v55 v56 w5 h5
          obtain ⟨At, ct, rfl, _⟩ := rows_form h5.2.1
          obtain ⟨Am, cm, rfl, _⟩ := rows_form h5.2.2
          have H5 := Lib.hid h5
          clear h5 b2
          have HTL := Lib.hid (show (takesF o).length ≤ 1000 ∧ (makesF o).length ≤ 1000 by
            constructor
            · unfold takesF; split <;> (try split) <;> (try split) <;> (try split) <;> (try split) <;> (try split) <;> simp
            · unfold makesF; split <;> (try split) <;> simp)
          have HR1 := Lib.hid (show ∀ r ∈ takesF o, 0 ≤ r ∧ r < (n : Int) from fun r hr => by have := HRG.out.2 r (List.mem_append_left _ hr); have := HN.out; omega)
          have HR2 := Lib.hid (show ∀ r ∈ makesF o, 0 ≤ r ∧ r < (n : Int) from fun r hr => by have := HRG.out.2 r (List.mem_append_right _ hr); have := HN.out; omega)
          go_wp2
          refine wp_code (c := partL Tryd.f15 4) (by kernel_rfl) ?_
          refine rl_l4 (gs := gs) (n := n) (i := (k : Int)) (sp := notesTo p (endsF p.ops) k) (l := takesF o) (G := New wr w5) _ _ (HJ.out.2.1.next H5.out.1) HNL.out H5.out.2.1 (fun j hj => ⟨by have h : wr.heap.size ≤ j := hj.1; have := HGSL.out; omega, hj.2⟩) (by simp) (by have := HTL.out.1; simpa using this) HR1.out ?_
          intro v11 v57 v58 v59 v60 v61 v62 v63 v64 v65 v66 v67 v68 v69 w6 h6
          have H6 := Lib.hid h6
          clear h6
          go_wp2
          refine wp_code (c := partL Tryd.f15 6) (by kernel_rfl) ?_
          refine rl_l6 (gs := gs) (n := n) (i := (k : Int)) (sp := (takesF o).foldl (fun sp r => rnoteL sp r k) (notesTo p (endsF p.ops) k)) (l := makesF o) (G := New wr w5) _ _ H6.out.2 (by rw [rfold_len]; exact HNL.out) (Rows.keep H5.out.2.2 (H6.out.1.same fun j hj => ⟨hj.2, by have h : wr.heap.size ≤ j := hj.1; have := HGSL.out; omega⟩)) (fun j hj => ⟨by have h : wr.heap.size ≤ j := hj.1; have := HGSL.out; omega, Nat.lt_of_lt_of_le hj.2 H6.out.1.size⟩) (by simp) (by have := HTL.out.2; simpa using this) HR2.out ?_
          intro v12 v70 v71 v72 v73 v74 v75 v76 v77 v78 v79 v80 v81 v82 w7 h7
          have H7 := Lib.hid h7
          clear h7
          have HCH := Lib.hid (show Chg (fun k => k = gs) wr w7 from ((Chg.of_below H5.out.1).trans H6.out.1).trans H7.out.1)
          have HBW7 := Lib.hid (below_chg HJ.out.1 HCH.out (fun j hj => by have := HLL.out; omega))
          have b7 : ∀ j, w7.cell? ⟨w.heap.size, j, none⟩ = wr.cell? ⟨w.heap.size, j, none⟩ := fun j => World.cell?_of_block (w := wr) (w' := w7) (a := ⟨w.heap.size, j, none⟩) (HCH.out.block w.heap.size (by have := HLL.out; have := HGSL.out; omega) (by have := HLL.out; omega))
          have d2 := (b7 2).trans HJ.out.2.2.2.1
          have D0 := Lib.hid ((b7 0).trans HJ.out.2.2.2.2)
          have D2 := Lib.hid d2
          have HE7 := Lib.hid (show EndsAt w7 ge (endsF p.ops) from (HCH.out.block ge HGEL.out (by have := HLL.out; omega)).trans HJ.out.2.2.1)
          obtain ⟨kd, hkd⟩ : ∃ q, o.kind = q := ⟨_, rfl⟩
          have HKD := Lib.hid hkd
          have y0 := (HBW7.out.cell (p := ⟨g, off + k * 8, none⟩) HGW.out).trans HX0.out
          rw [hkd] at y0
          have HS7 := Lib.hid (show SpansR w7 gs ((takesF o ++ makesF o).foldl (fun sp r => rnoteL sp r k) (notesTo p (endsF p.ops) k)) by rw [List.foldl_append]; exact H7.out.2)
          have HLE := Lib.hid (notes_le (p := p) (E := endsF p.ops) (k := k) (by rw [HNO.out]; omega))
          clear b7 hkd
          by_cases h17 : kd = 17
          · obtain ⟨m, q, hmk, hem, hq, hq16⟩ := ends_end HBAL.out HO.out (by rw [HKD.out]; exact h17)
            obtain ⟨g', off', hA', hFg', _, z1, _⟩ := HOPS.out.at_ hq
            cases hA'
            have hek : (endsF p.ops)[k]? = some (m : Int) := by
              have h1 : k < (endsF p.ops).length := by rw [HEL.out]; exact hlt
              rw [List.getD_eq_getElem?_getD, List.getElem?_eq_getElem h1] at hem
              rw [List.getElem?_eq_getElem h1]
              exact congrArg some hem
            have hqd : 0 ≤ q.d ∧ q.d < (n : Int) := by
              have h := (regs_same (HCF.out m q hq)).2 q.d (List.mem_append_right _ (by unfold makesF; rw [hq16]; simp))
              have := HN.out
              omega
            obtain ⟨qd, hqd2⟩ : ∃ x : Nat, q.d = x := ⟨q.d.toNat, by omega⟩
            have HRO := Lib.hid (show regsOf p.ops (endsF p.ops) o k = [o.a, o.b, o.c, o.d, o.e] ++ [(qd : Int)] by unfold regsOf; rw [if_pos (by rw [HKD.out]; exact h17), hem, Int.toNat_natCast, hq, ← hqd2]; rfl)
            have HOP := Lib.hid (rnote_op (p := p) (o := o) (E := endsF p.ops) (sp := notesTo p (endsF p.ops) k) (k := k) (HCF.out k o HO.out) HLE.out HRO.out (by simp))
            have hlen : ((takesF o ++ makesF o).foldl (fun sp r => rnoteL sp r k) (notesTo p (endsF p.ops) k)).length = n := by rw [rfold_len]; exact HNL.out
            obtain ⟨s, hs⟩ : ∃ s, ((takesF o ++ makesF o).foldl (fun sp r => rnoteL sp r k) (notesTo p (endsF p.ops) k))[qd]? = some s := ⟨_, List.getElem?_eq_getElem (by omega)⟩
            have HSS := Lib.hid (And.intro hs hlen)
            have HPOS := Lib.hid (rnoteL_pos (i := (k : Int)) hs)
            have z2 := (HBW7.out.cell (p := ⟨g, off + m * 8 + 1, none⟩) hFg').trans z1
            rw [hqd2] at z2
            have HZ := Lib.hid (And.intro (HE7.out.cell hek) z2)
            have HMK := Lib.hid hmk
            have e17 : (kd == 17) = true := by simpa using h17
            clear h17 hmk hem hq hq16 hFg' z1 hek hqd hqd2 hlen hs z2
            go_wp2
            refine wp_code (c := partR Tryd.f15 23) (by kernel_rfl) ?_
            refine rl_r23 (g := g) (off := off) (co := co) (no := no) (k := k) (m := m) (q := qd) (gs := gs) (ge := ge) (n := n) (s := s) _ _ HS7.out HSS.out.1 HSS.out.2 D2.out HZ.out.1 HZ.out.2 hlt (by have := HMK.out; omega) hno6 (by have := HLL.out; have := HGW.out; have := HBW7.out.size; have := HGSL.out; have := HCH.out.size; omega) ?_
            intro v90 v91 v92 v93 v94 v95 v96 v97 v98 v99 v100 v101 w8 h8
            have H8 := Lib.hid h8
            have HC8 := Lib.hid (HCH.out.trans h8.2)
            clear h8 d2 y0
            have b8 : ∀ j, w8.cell? ⟨w.heap.size, j, none⟩ = wr.cell? ⟨w.heap.size, j, none⟩ := fun j => World.cell?_of_block (w := wr) (w' := w8) (a := ⟨w.heap.size, j, none⟩) (HC8.out.block w.heap.size (by have := HLL.out; have := HGSL.out; omega) (by have := HLL.out; omega))
            have HB8 := Lib.hid b8
            clear b8
            go_wp2
            go_roundw
            case rel =>
              refine ⟨k + 1, by omega, by go_num, Lib.hid ⟨below_chg HJ.out.1 HC8.out (fun j hj => by have := HLL.out; omega), ?_, (HC8.out.block ge HGEL.out (by have := HLL.out; omega)).trans HJ.out.2.2.1, (HB8.out 2).trans HJ.out.2.2.2.1, (HB8.out 0).trans HJ.out.2.2.2.2⟩⟩
              rw [HNX.out]
              have h := HOP.out
              rw [List.foldl_append] at h
              have h9 := H8.out.1
              rw [← HPOS.out] at h9
              show SpansR w8 gs (noteOp p.ops (endsF p.ops) (notesTo p (endsF p.ops) k) o k)
              rw [← h]
              exact h9
            case measure => simp [intOf]; omega
          · have e17 : (kd == 17) = false := by simpa using h17
            have HRO := Lib.hid (show regsOf p.ops (endsF p.ops) o k = [o.a, o.b, o.c, o.d, o.e] ++ [] by unfold regsOf; rw [if_neg (by rw [HKD.out]; exact h17)])
            have HOP := Lib.hid (rnote_op (p := p) (o := o) (E := endsF p.ops) (sp := notesTo p (endsF p.ops) k) (k := k) (HCF.out k o HO.out) HLE.out HRO.out (by simp))
            clear h17
            go_wp2
            go_roundw
            case rel =>
              refine ⟨k + 1, by omega, by go_num, Lib.hid ⟨HBW7.out, ?_, HE7.out, D2.out, D0.out⟩⟩
              rw [HNX.out]
              have h := HOP.out
              rw [List.append_nil] at h
              show SpansR w7 gs (noteOp p.ops (endsF p.ops) (notesTo p (endsF p.ops) k) o k)
              rw [← h]
              exact HS7.out
            case measure => simp [intOf]; omega
        · have hkd1 : decide (k < no) = false := decide_eq_false hlt
          have hkno : k = p.ops.length := by rw [HNO.out]; omega
          have HSN2 := Lib.hid (show SpansR wr gs (notesTo p (endsF p.ops) p.ops.length) by rw [← hkno]; exact HJ.out.2.1)
          have HNL := Lib.hid (show (notesTo p (endsF p.ops) p.ops.length).length = n by rw [notes_len, HN.out]; rfl)
          have HEB := Lib.hid (show ∀ (k : Nat) (o : LOp), p.ops[k]? = some o → o.kind = 16 → (endsF p.ops).getD k 0 ≤ p.ops.length from fun k o ho hk => by obtain ⟨i, _, h1, h2⟩ := ends_loop HBAL.out ho hk; rw [h2]; omega)
          clear hkno
          go_wp2
          clear b2 hlt hkd1
          go_loopg [13] (leftF p.ops.length (notesTo p (endsF p.ops) p.ops.length) + 1) (fun gk bv wr => ∃ (b : Bool) (sp : List (Int × Int)), bv = .bool b ∧ Hid ((SpansR wr gs sp ∧ sp.length = n ∧ EndsAt wr ge (endsF p.ops) ∧ Below w.heap.size w wr) ∧ (wr.cell? ⟨w.heap.size, 2, none⟩ = some (.slice Ao no co) ∧ wr.cell? ⟨w.heap.size, 0, none⟩ = some (.int .i64 n)) ∧
            ((b = true → moreF p.ops (endsF p.ops) gk sp = spansF p ∧ leftF p.ops.length sp < gk) ∧ (b = false → sp = spansF p))))
          case atStart => exact ⟨true, _, rfl, Lib.hid ⟨⟨HSN2.out, HNL.out, HJ.out.2.2.1, HJ.out.1⟩, ⟨HJ.out.2.2.2.1, HJ.out.2.2.2.2⟩, ⟨fun _ => ⟨rfl, Nat.lt_succ_self _⟩, fun h => by cases h⟩⟩⟩
          case round =>
            obtain ⟨b, sp, rfl, HH⟩ := hrel
            cases b
            · have HY := Lib.hid (HH.out.2.2.2 rfl)
              go_wp2
              go_ret
              exact ⟨gs, rfl, by have := HLL.out; omega, by rw [← HY.out]; exact HH.out.1.1, HH.out.1.2.2.2⟩
            · have HY := Lib.hid (HH.out.2.2.1 rfl)
              obtain ⟨f, hf⟩ : ∃ f, gk = f + 1 := ⟨gk - 1, by have := HY.out.2; omega⟩
              have HFF := Lib.hid hf
              have HP := Lib.hid (pass_left (n := p.ops.length) HEB.out p.ops.length (sp := sp))
              have HGG := Lib.hid (lt_of_block HH.out.1.1)
              have HGE2 := Lib.hid (lt_of_block HH.out.1.2.2.1)
              clear hf
              go_wp2
              refine wp_code (c := partL Tryd.f15 10) (by kernel_rfl) ?_
              refine rl_l10 (gs := gs) (ge := ge) (n := n) (no := no) (sp := sp) (E := endsF p.ops) (ops := p.ops) (Ao := Ao) (co := co) _ _ HH.out.1.1 HH.out.1.2.1 HH.out.1.2.2.1 HEL.out (Rows.keep HOPS.out (SameOn.of_below HH.out.1.2.2.2 fun _ h => h)) HNO.out (fun j hj => by have h : j < w.heap.size := hj; have := HLL.out; have := HH.out.1.2.2.2.size; omega) (by have := HLL.out; omega) (by omega) hno6 HH.out.2.1.2 HH.out.2.1.1 (by have := HLL.out; have := HGG.out; omega) ?_
              intro v14 v15 v103 v104 v105 v106 v107 v108 v109 v110 v111 v112 v113 v114 v115 v116 v117 v118 v119 v120 v121 v122 v123 v124 v125 v126 v127 v128 v129 v130 v131 v132 v133 v134 v135 v136 v137 v138 v139 v140 v141 v142 v143 v144 v145 v146 v147 v148 v149 v150 v151 v152 v153 v154 v155 v156 v157 v158 v159 v160 v161 v162 v163 v164 v165 v166 v167 v168 w9 h9
              have H9 := Lib.hid h9
              have b9 : ∀ j, w9.cell? ⟨w.heap.size, j, none⟩ = wr.cell? ⟨w.heap.size, j, none⟩ := fun j => World.cell?_of_block (w := wr) (w' := w9) (a := ⟨w.heap.size, j, none⟩) (h9.1.block w.heap.size (by have := HLL.out; have := HGG.out; omega) (by have := HLL.out; omega))
              have HB9 := Lib.hid b9
              have HE9 := Lib.hid (show EndsAt w9 ge (endsF p.ops) from (h9.1.block ge HGE2.out (by have := HLL.out; omega)).trans HH.out.1.2.2.1)
              have HM := Lib.hid (show moreF p.ops (endsF p.ops) (f + 1) sp = spansF p by rw [← HFF.out]; exact HY.out.1)
              have HLE := Lib.hid (show leftF p.ops.length sp < f + 1 by rw [← HFF.out]; exact HY.out.2)
              have HL9 := Lib.hid (show (passF p.ops (endsF p.ops) sp).1.length = n by unfold passF; rw [pass_len]; exact HH.out.1.2.1)
              obtain ⟨bb, hbb⟩ : ∃ x, (passF p.ops (endsF p.ops) sp).2 = x := ⟨_, rfl⟩
              rw [hbb]
              have HBB := Lib.hid hbb
              clear h9 b9 hbb
              go_wp2
              go_roundg f
              case measure => have := HFF.out; omega
              case rel =>
                refine ⟨bb, (passF p.ops (endsF p.ops) sp).1, rfl, Lib.hid ⟨⟨H9.out.2, HL9.out, HE9.out, below_chg HH.out.1.2.2.2 H9.out.1 (fun j hj => by have := HLL.out; omega)⟩, ⟨(HB9.out 2).trans HH.out.2.1.1, (HB9.out 0).trans HH.out.2.1.2⟩, ⟨fun h => ?_, fun h => ?_⟩⟩⟩
                · have h1 := HM.out
                  simp only [moreF] at h1
                  rw [if_pos (by rw [HBB.out]; exact h)] at h1
                  have h2 := HP.out.2 (show (passTo p.ops (endsF p.ops) sp p.ops.length).2 = true by have := HBB.out; unfold passF at this; rw [this]; exact h)
                  have h3 := HLE.out
                  exact ⟨h1, by unfold passF; omega⟩
                · have h1 := HM.out
                  simp only [moreF] at h1
                  rwa [if_neg (by rw [HBB.out, h]; decide)] at h1
end Go.Proofs.YtppoiahhaclleaaDoor

/- ref14.Check. -/
namespace Go.Proofs.YtppoiahhaclleaaDoor
open Go.RowKit


set_option pp.deepTerms true in
set_option pp.maxSteps 1000000 in
set_option maxRecDepth 100000 in
set_option maxHeartbeats 4000000 in
theorem rc_r18 {b0 o0 gs n cp r k : Nat} {x y c d a b : Int} {bl : Bool} (w : World) (Q : Exit → Act → World → Prop) {u0 u1 u3 u4 u5 u6 u7 u8 u10 u13 u14 u15 u16 u17 u18 u19 u20 u21 u22 u23 u24 u25 u26 u27 u28 u29 u30 u31 u32 u33 u34 u35 u36 u37 u38 u39 u40 u41 u42 u43 u44 u45 u46 u47 u48 u49 u50 u51 u52 u53 u54 u55 u56 u57 u58 u59 u60 u61 u62 u63 u64 u65 u66 u67 u68 u69 u70 u71 u72 u73 u74 u75 u76 u77 u78 u79 u80 u81 u82 u83 u84 u85 u86 u87 u88 u89 u90 u91 u92 u93 u94 u95 u96 u97 u98 u99 u100 u101 u102 u103 u104 u105 u106 u107 u108 u109 u110 u111 u112 u113 u114 u115 u116 u117 u118 u119 u120 u121 u122 u123 u124 : Value} (hx : w.cell? ⟨gs, r * 2, none⟩ = some (.int .i64 x)) (hy : w.cell? ⟨gs, r * 2 + 1, none⟩ = some (.int .i64 y)) (hc : w.cell? ⟨gs, k * 2, none⟩ = some (.int .i64 c)) (hd : w.cell? ⟨gs, k * 2 + 1, none⟩ = some (.int .i64 d)) (ha : w.cell? ⟨b0, o0 + r, none⟩ = some (.int .i64 a)) (hb : w.cell? ⟨b0, o0 + k, none⟩ = some (.int .i64 b)) (hr : r < n) (hk : k < n) (hn : n ≤ 65536) (hL : clashP (x, y) (c, d) a b = bl) 
    (kk : ∀ (v74 v75 v76 v77 v78 v79 v80 v81 v82 v83 v84 v85 v86 v87 v88 v89 v90 v91 v92 v93 v94 v95 v96 v97 v98 v99 v100 v101 v102 v103 v104 v105 v106 v107 v108 v109 v110 v111 v112 v113 v114 v115 v116 v117 v118 v119 v120 v121 v122 v123 : Value) (w' : World), w' = w.drew → Q .normal ⟨#[u0, u1, .slice (some ⟨b0, o0, none⟩) n cp, u3, u4, u5, u6, u7, u8, .slice (some ⟨gs, 0, none⟩) n n, u10, .int .i64 (r : Nat), .int .i64 (k : Nat), u13, u14, u15, u16, u17, u18, u19, u20, u21, u22, u23, u24, u25, u26, u27, u28, u29, u30, u31, u32, u33, u34, u35, u36, u37, u38, u39, u40, u41, u42, u43, u44, u45, u46, u47, u48, u49, u50, u51, u52, u53, u54, u55, u56, u57, u58, u59, u60, u61, u62, u63, u64, u65, u66, u67, u68, u69, u70, u71, u72, u73, v74, v75, v76, v77, v78, v79, v80, v81, v82, v83, v84, v85, v86, v87, v88, v89, v90, v91, v92, v93, v94, v95, v96, v97, v98, v99, v100, v101, v102, v103, v104, v105, v106, v107, v108, v109, v110, v111, v112, v113, v114, v115, v116, v117, v118, v119, v120, v121, v122, v123, .bool bl], []⟩ w') : (partR Tryd.f14 18).wp Tryd.prog Q ⟨#[u0, u1, .slice (some ⟨b0, o0, none⟩) n cp, u3, u4, u5, u6, u7, u8, .slice (some ⟨gs, 0, none⟩) n n, u10, .int .i64 (r : Nat), .int .i64 (k : Nat), u13, u14, u15, u16, u17, u18, u19, u20, u21, u22, u23, u24, u25, u26, u27, u28, u29, u30, u31, u32, u33, u34, u35, u36, u37, u38, u39, u40, u41, u42, u43, u44, u45, u46, u47, u48, u49, u50, u51, u52, u53, u54, u55, u56, u57, u58, u59, u60, u61, u62, u63, u64, u65, u66, u67, u68, u69, u70, u71, u72, u73, u74, u75, u76, u77, u78, u79, u80, u81, u82, u83, u84, u85, u86, u87, u88, u89, u90, u91, u92, u93, u94, u95, u96, u97, u98, u99, u100, u101, u102, u103, u104, u105, u106, u107, u108, u109, u110, u111, u112, u113, u114, u115, u116, u117, u118, u119, u120, u121, u122, u123, u124], []⟩ w := by
  have HC := Lib.hid (And.intro (And.intro hx hy) (And.intro (And.intro hc hd) (And.intro ha hb)))
  have i0 : (0 : Int) ≤ (r : Int) := by omega
  have i1 : (r : Int) < (n : Int) := by omega
  have i2 : (0 : Int) ≤ (k : Int) := by omega
  have i3 : (k : Int) < (n : Int) := by omega
  have q1 : IntKind.i64.wrap (r : Int) = r := by rw [IntKind.wrap_i64]; omega
  have q2 : IntKind.i64.wrap (k : Int) = k := by rw [IntKind.wrap_i64]; omega
  have HK := Lib.hid kk
  have HL := Lib.hid hL
  clear kk hx hy hc hd ha hb hr hk hL
  conv => arg 2; whnf
  go_wp2
  cases e0 : decide ((0 : Int) ≤ x)
  · skip
    cases e4 : (a == b)
    · skip
      obtain rfl : bl = false := by rw [← HL.out]; unfold clashP meetsF; simp only [e0, e4]; rfl
      (refine wp_region_lines (fun w_ => (w_.cell? ⟨gs, r * 2, none⟩ = some (.int .i64 x) ∧ w_.cell? ⟨gs, r * 2 + 1, none⟩ = some (.int .i64 y)) ∧ (w_.cell? ⟨gs, k * 2, none⟩ = some (.int .i64 c) ∧ w_.cell? ⟨gs, k * 2 + 1, none⟩ = some (.int .i64 d)) ∧ w_.cell? ⟨b0, o0 + r, none⟩ = some (.int .i64 a) ∧ w_.cell? ⟨b0, o0 + k, none⟩ = some (.int .i64 b)) (by kernel_rfl) (by kernel_rfl) HC.out ?_)
      (try simp only [])
      repeat (first | (refine runL_no (by rfl) ?_; (try simp only [Act.put, List.setIfInBounds_toArray, List.set_cons_zero, List.set_cons_succ])) | (refine runL_val (v := ?_) (by rfl) ?_ ?_; rotate_left; (focus (intro w_ hw_; obtain ⟨⟨f1_, f2_⟩, ⟨f3_, f4_⟩, f5_, f6_⟩ := hw_; go_simp; (try with_reducible rfl); done)); (try simp only [Act.put, List.setIfInBounds_toArray, List.set_cons_zero, List.set_cons_succ])))
      (refine runL_nil ?_)
      exact HK.out _ _ _ _ _ _ _ _ _ _ _ _ _ _ _ _ _ _ _ _ _ _ _ _ _ _ _ _ _ _ _ _ _ _ _ _ _ _ _ _ _ _ _ _ _ _ _ _ _ _ _ rfl
    · skip
      obtain rfl : bl = false := by rw [← HL.out]; unfold clashP meetsF; simp only [e0, e4]; rfl
      (refine wp_region_lines (fun w_ => (w_.cell? ⟨gs, r * 2, none⟩ = some (.int .i64 x) ∧ w_.cell? ⟨gs, r * 2 + 1, none⟩ = some (.int .i64 y)) ∧ (w_.cell? ⟨gs, k * 2, none⟩ = some (.int .i64 c) ∧ w_.cell? ⟨gs, k * 2 + 1, none⟩ = some (.int .i64 d)) ∧ w_.cell? ⟨b0, o0 + r, none⟩ = some (.int .i64 a) ∧ w_.cell? ⟨b0, o0 + k, none⟩ = some (.int .i64 b)) (by kernel_rfl) (by kernel_rfl) HC.out ?_)
      (try simp only [])
      repeat (first | (refine runL_no (by rfl) ?_; (try simp only [Act.put, List.setIfInBounds_toArray, List.set_cons_zero, List.set_cons_succ])) | (refine runL_val (v := ?_) (by rfl) ?_ ?_; rotate_left; (focus (intro w_ hw_; obtain ⟨⟨f1_, f2_⟩, ⟨f3_, f4_⟩, f5_, f6_⟩ := hw_; go_simp; (try with_reducible rfl); done)); (try simp only [Act.put, List.setIfInBounds_toArray, List.set_cons_zero, List.set_cons_succ])))
      (refine runL_nil ?_)
      exact HK.out _ _ _ _ _ _ _ _ _ _ _ _ _ _ _ _ _ _ _ _ _ _ _ _ _ _ _ _ _ _ _ _ _ _ _ _ _ _ _ _ _ _ _ _ _ _ _ _ _ _ _ rfl
  cases e1 : decide ((0 : Int) ≤ c)
  · skip
    cases e4 : (a == b)
    · skip
      obtain rfl : bl = false := by rw [← HL.out]; unfold clashP meetsF; simp only [e0, e1, e4]; rfl
      (refine wp_region_lines (fun w_ => (w_.cell? ⟨gs, r * 2, none⟩ = some (.int .i64 x) ∧ w_.cell? ⟨gs, r * 2 + 1, none⟩ = some (.int .i64 y)) ∧ (w_.cell? ⟨gs, k * 2, none⟩ = some (.int .i64 c) ∧ w_.cell? ⟨gs, k * 2 + 1, none⟩ = some (.int .i64 d)) ∧ w_.cell? ⟨b0, o0 + r, none⟩ = some (.int .i64 a) ∧ w_.cell? ⟨b0, o0 + k, none⟩ = some (.int .i64 b)) (by kernel_rfl) (by kernel_rfl) HC.out ?_)
      (try simp only [])
      repeat (first | (refine runL_no (by rfl) ?_; (try simp only [Act.put, List.setIfInBounds_toArray, List.set_cons_zero, List.set_cons_succ])) | (refine runL_val (v := ?_) (by rfl) ?_ ?_; rotate_left; (focus (intro w_ hw_; obtain ⟨⟨f1_, f2_⟩, ⟨f3_, f4_⟩, f5_, f6_⟩ := hw_; go_simp; (try with_reducible rfl); done)); (try simp only [Act.put, List.setIfInBounds_toArray, List.set_cons_zero, List.set_cons_succ])))
      (refine runL_nil ?_)
      exact HK.out _ _ _ _ _ _ _ _ _ _ _ _ _ _ _ _ _ _ _ _ _ _ _ _ _ _ _ _ _ _ _ _ _ _ _ _ _ _ _ _ _ _ _ _ _ _ _ _ _ _ _ rfl
    · skip
      obtain rfl : bl = false := by rw [← HL.out]; unfold clashP meetsF; simp only [e0, e1, e4]; rfl
      (refine wp_region_lines (fun w_ => (w_.cell? ⟨gs, r * 2, none⟩ = some (.int .i64 x) ∧ w_.cell? ⟨gs, r * 2 + 1, none⟩ = some (.int .i64 y)) ∧ (w_.cell? ⟨gs, k * 2, none⟩ = some (.int .i64 c) ∧ w_.cell? ⟨gs, k * 2 + 1, none⟩ = some (.int .i64 d)) ∧ w_.cell? ⟨b0, o0 + r, none⟩ = some (.int .i64 a) ∧ w_.cell? ⟨b0, o0 + k, none⟩ = some (.int .i64 b)) (by kernel_rfl) (by kernel_rfl) HC.out ?_)
      (try simp only [])
      repeat (first | (refine runL_no (by rfl) ?_; (try simp only [Act.put, List.setIfInBounds_toArray, List.set_cons_zero, List.set_cons_succ])) | (refine runL_val (v := ?_) (by rfl) ?_ ?_; rotate_left; (focus (intro w_ hw_; obtain ⟨⟨f1_, f2_⟩, ⟨f3_, f4_⟩, f5_, f6_⟩ := hw_; go_simp; (try with_reducible rfl); done)); (try simp only [Act.put, List.setIfInBounds_toArray, List.set_cons_zero, List.set_cons_succ])))
      (refine runL_nil ?_)
      exact HK.out _ _ _ _ _ _ _ _ _ _ _ _ _ _ _ _ _ _ _ _ _ _ _ _ _ _ _ _ _ _ _ _ _ _ _ _ _ _ _ _ _ _ _ _ _ _ _ _ _ _ _ rfl
  cases e2 : decide (x ≤ d)
  · skip
    cases e4 : (a == b)
    · skip
      obtain rfl : bl = false := by rw [← HL.out]; unfold clashP meetsF; simp only [e0, e1, e2, e4]; rfl
      (refine wp_region_lines (fun w_ => (w_.cell? ⟨gs, r * 2, none⟩ = some (.int .i64 x) ∧ w_.cell? ⟨gs, r * 2 + 1, none⟩ = some (.int .i64 y)) ∧ (w_.cell? ⟨gs, k * 2, none⟩ = some (.int .i64 c) ∧ w_.cell? ⟨gs, k * 2 + 1, none⟩ = some (.int .i64 d)) ∧ w_.cell? ⟨b0, o0 + r, none⟩ = some (.int .i64 a) ∧ w_.cell? ⟨b0, o0 + k, none⟩ = some (.int .i64 b)) (by kernel_rfl) (by kernel_rfl) HC.out ?_)
      (try simp only [])
      repeat (first | (refine runL_no (by rfl) ?_; (try simp only [Act.put, List.setIfInBounds_toArray, List.set_cons_zero, List.set_cons_succ])) | (refine runL_val (v := ?_) (by rfl) ?_ ?_; rotate_left; (focus (intro w_ hw_; obtain ⟨⟨f1_, f2_⟩, ⟨f3_, f4_⟩, f5_, f6_⟩ := hw_; go_simp; (try with_reducible rfl); done)); (try simp only [Act.put, List.setIfInBounds_toArray, List.set_cons_zero, List.set_cons_succ])))
      (refine runL_nil ?_)
      exact HK.out _ _ _ _ _ _ _ _ _ _ _ _ _ _ _ _ _ _ _ _ _ _ _ _ _ _ _ _ _ _ _ _ _ _ _ _ _ _ _ _ _ _ _ _ _ _ _ _ _ _ _ rfl
    · skip
      obtain rfl : bl = false := by rw [← HL.out]; unfold clashP meetsF; simp only [e0, e1, e2, e4]; rfl
      (refine wp_region_lines (fun w_ => (w_.cell? ⟨gs, r * 2, none⟩ = some (.int .i64 x) ∧ w_.cell? ⟨gs, r * 2 + 1, none⟩ = some (.int .i64 y)) ∧ (w_.cell? ⟨gs, k * 2, none⟩ = some (.int .i64 c) ∧ w_.cell? ⟨gs, k * 2 + 1, none⟩ = some (.int .i64 d)) ∧ w_.cell? ⟨b0, o0 + r, none⟩ = some (.int .i64 a) ∧ w_.cell? ⟨b0, o0 + k, none⟩ = some (.int .i64 b)) (by kernel_rfl) (by kernel_rfl) HC.out ?_)
      (try simp only [])
      repeat (first | (refine runL_no (by rfl) ?_; (try simp only [Act.put, List.setIfInBounds_toArray, List.set_cons_zero, List.set_cons_succ])) | (refine runL_val (v := ?_) (by rfl) ?_ ?_; rotate_left; (focus (intro w_ hw_; obtain ⟨⟨f1_, f2_⟩, ⟨f3_, f4_⟩, f5_, f6_⟩ := hw_; go_simp; (try with_reducible rfl); done)); (try simp only [Act.put, List.setIfInBounds_toArray, List.set_cons_zero, List.set_cons_succ])))
      (refine runL_nil ?_)
      exact HK.out _ _ _ _ _ _ _ _ _ _ _ _ _ _ _ _ _ _ _ _ _ _ _ _ _ _ _ _ _ _ _ _ _ _ _ _ _ _ _ _ _ _ _ _ _ _ _ _ _ _ _ rfl
  cases e3 : decide (c ≤ y)
  · skip
    cases e4 : (a == b)
    · skip
      obtain rfl : bl = false := by rw [← HL.out]; unfold clashP meetsF; simp only [e0, e1, e2, e3, e4]; rfl
      (refine wp_region_lines (fun w_ => (w_.cell? ⟨gs, r * 2, none⟩ = some (.int .i64 x) ∧ w_.cell? ⟨gs, r * 2 + 1, none⟩ = some (.int .i64 y)) ∧ (w_.cell? ⟨gs, k * 2, none⟩ = some (.int .i64 c) ∧ w_.cell? ⟨gs, k * 2 + 1, none⟩ = some (.int .i64 d)) ∧ w_.cell? ⟨b0, o0 + r, none⟩ = some (.int .i64 a) ∧ w_.cell? ⟨b0, o0 + k, none⟩ = some (.int .i64 b)) (by kernel_rfl) (by kernel_rfl) HC.out ?_)
      (try simp only [])
      repeat (first | (refine runL_no (by rfl) ?_; (try simp only [Act.put, List.setIfInBounds_toArray, List.set_cons_zero, List.set_cons_succ])) | (refine runL_val (v := ?_) (by rfl) ?_ ?_; rotate_left; (focus (intro w_ hw_; obtain ⟨⟨f1_, f2_⟩, ⟨f3_, f4_⟩, f5_, f6_⟩ := hw_; go_simp; (try with_reducible rfl); done)); (try simp only [Act.put, List.setIfInBounds_toArray, List.set_cons_zero, List.set_cons_succ])))
      (refine runL_nil ?_)
      exact HK.out _ _ _ _ _ _ _ _ _ _ _ _ _ _ _ _ _ _ _ _ _ _ _ _ _ _ _ _ _ _ _ _ _ _ _ _ _ _ _ _ _ _ _ _ _ _ _ _ _ _ _ rfl
    · skip
      obtain rfl : bl = false := by rw [← HL.out]; unfold clashP meetsF; simp only [e0, e1, e2, e3, e4]; rfl
      (refine wp_region_lines (fun w_ => (w_.cell? ⟨gs, r * 2, none⟩ = some (.int .i64 x) ∧ w_.cell? ⟨gs, r * 2 + 1, none⟩ = some (.int .i64 y)) ∧ (w_.cell? ⟨gs, k * 2, none⟩ = some (.int .i64 c) ∧ w_.cell? ⟨gs, k * 2 + 1, none⟩ = some (.int .i64 d)) ∧ w_.cell? ⟨b0, o0 + r, none⟩ = some (.int .i64 a) ∧ w_.cell? ⟨b0, o0 + k, none⟩ = some (.int .i64 b)) (by kernel_rfl) (by kernel_rfl) HC.out ?_)
      (try simp only [])
      repeat (first | (refine runL_no (by rfl) ?_; (try simp only [Act.put, List.setIfInBounds_toArray, List.set_cons_zero, List.set_cons_succ])) | (refine runL_val (v := ?_) (by rfl) ?_ ?_; rotate_left; (focus (intro w_ hw_; obtain ⟨⟨f1_, f2_⟩, ⟨f3_, f4_⟩, f5_, f6_⟩ := hw_; go_simp; (try with_reducible rfl); done)); (try simp only [Act.put, List.setIfInBounds_toArray, List.set_cons_zero, List.set_cons_succ])))
      (refine runL_nil ?_)
      exact HK.out _ _ _ _ _ _ _ _ _ _ _ _ _ _ _ _ _ _ _ _ _ _ _ _ _ _ _ _ _ _ _ _ _ _ _ _ _ _ _ _ _ _ _ _ _ _ _ _ _ _ _ rfl
  cases e4 : (a == b)
  · skip
    obtain rfl : bl = false := by rw [← HL.out]; unfold clashP meetsF; simp only [e0, e1, e2, e3, e4]; rfl
    (refine wp_region_lines (fun w_ => (w_.cell? ⟨gs, r * 2, none⟩ = some (.int .i64 x) ∧ w_.cell? ⟨gs, r * 2 + 1, none⟩ = some (.int .i64 y)) ∧ (w_.cell? ⟨gs, k * 2, none⟩ = some (.int .i64 c) ∧ w_.cell? ⟨gs, k * 2 + 1, none⟩ = some (.int .i64 d)) ∧ w_.cell? ⟨b0, o0 + r, none⟩ = some (.int .i64 a) ∧ w_.cell? ⟨b0, o0 + k, none⟩ = some (.int .i64 b)) (by kernel_rfl) (by kernel_rfl) HC.out ?_)
    (try simp only [])
    repeat (first | (refine runL_no (by rfl) ?_; (try simp only [Act.put, List.setIfInBounds_toArray, List.set_cons_zero, List.set_cons_succ])) | (refine runL_val (v := ?_) (by rfl) ?_ ?_; rotate_left; (focus (intro w_ hw_; obtain ⟨⟨f1_, f2_⟩, ⟨f3_, f4_⟩, f5_, f6_⟩ := hw_; go_simp; (try with_reducible rfl); done)); (try simp only [Act.put, List.setIfInBounds_toArray, List.set_cons_zero, List.set_cons_succ])))
    (refine runL_nil ?_)
    exact HK.out _ _ _ _ _ _ _ _ _ _ _ _ _ _ _ _ _ _ _ _ _ _ _ _ _ _ _ _ _ _ _ _ _ _ _ _ _ _ _ _ _ _ _ _ _ _ _ _ _ _ _ rfl
  obtain rfl : bl = true := by rw [← HL.out]; unfold clashP meetsF; simp only [e0, e1, e2, e3, e4]; rfl
  (refine wp_region_lines (fun w_ => (w_.cell? ⟨gs, r * 2, none⟩ = some (.int .i64 x) ∧ w_.cell? ⟨gs, r * 2 + 1, none⟩ = some (.int .i64 y)) ∧ (w_.cell? ⟨gs, k * 2, none⟩ = some (.int .i64 c) ∧ w_.cell? ⟨gs, k * 2 + 1, none⟩ = some (.int .i64 d)) ∧ w_.cell? ⟨b0, o0 + r, none⟩ = some (.int .i64 a) ∧ w_.cell? ⟨b0, o0 + k, none⟩ = some (.int .i64 b)) (by kernel_rfl) (by kernel_rfl) HC.out ?_)
  (try simp only [])
  repeat (first | (refine runL_no (by rfl) ?_; (try simp only [Act.put, List.setIfInBounds_toArray, List.set_cons_zero, List.set_cons_succ])) | (refine runL_val (v := ?_) (by rfl) ?_ ?_; rotate_left; (focus (intro w_ hw_; obtain ⟨⟨f1_, f2_⟩, ⟨f3_, f4_⟩, f5_, f6_⟩ := hw_; go_simp; (try with_reducible rfl); done)); (try simp only [Act.put, List.setIfInBounds_toArray, List.set_cons_zero, List.set_cons_succ])))
  (refine runL_nil ?_)
  exact HK.out _ _ _ _ _ _ _ _ _ _ _ _ _ _ _ _ _ _ _ _ _ _ _ _ _ _ _ _ _ _ _ _ _ _ _ _ _ _ _ _ _ _ _ _ _ _ _ _ _ _ _ rfl

set_option pp.deepTerms true in
set_option pp.maxSteps 1000000 in
set_option maxRecDepth 100000 in
set_option maxHeartbeats 4000000 in
theorem rc_l0 {Ap : Option Addr} {bp cp gs n : Nat} {pool : Int} {sp : List (Int × Int)} {pl : List Int} {G : Nat → Prop} (w : World) (Q : Exit → Act → World → Prop) {u0 u4 u5 u6 u7 u8 u11 u12 u13 u14 u15 u16 u17 u18 u19 u20 u21 u22 u23 u24 u25 u26 u27 u28 u29 u30 u31 u32 u33 u34 u35 u36 u37 u38 u39 u40 u41 u42 u43 u44 u45 u46 u47 u48 u49 u50 u51 u52 u53 u54 u55 u56 u57 u58 u59 u60 u61 u62 u63 u64 u65 u66 u67 u68 u69 u70 u71 u72 u73 u74 u75 u76 u77 u78 u79 u80 u81 u82 u83 u84 u85 u86 u87 u88 u89 u90 u91 u92 u93 u94 u95 u96 u97 u98 u99 u100 u101 u102 u103 u104 u105 u106 u107 u108 u109 u110 u111 u112 u113 u114 u115 u116 u117 u118 u119 u120 u121 u122 u123 u124 : Value} (hg : SpansR w gs sp) (hn : sp.length = n ∧ pl.length = n) (hp : NumsAt w G (.slice Ap n cp) pl) (hb0 : w.cell? ⟨bp, 0, none⟩ = some (.int .i64 (n : Nat))) (hn3 : n ≤ 1000)
    (k1 : (∀ (k : Nat) (s : Int × Int) (a : Int), sp[k]? = some s → pl[k]? = some a → badP pool s a = false) → ∀ (v6 v10 v36 v37 v38 v39 v40 v41 v42 v43 v44 v45 v46 v47 v48 v49 v50 v51 v52 v53 v54 v55 v56 v57 v58 v59 v60 v61 v62 : Value), Q (.exit 0) ⟨#[u0, .int .i64 pool, .slice Ap n cp, .pointer (some ⟨bp, 0, none⟩), u4, u5, v6, u7, u8, .slice (some ⟨gs, 0, none⟩) n n, v10, u11, u12, u13, u14, u15, u16, u17, u18, u19, u20, u21, u22, u23, u24, u25, u26, u27, u28, u29, u30, u31, u32, u33, u34, u35, v36, v37, v38, v39, v40, v41, v42, v43, v44, v45, v46, v47, v48, v49, v50, v51, v52, v53, v54, v55, v56, v57, v58, v59, v60, v61, v62, u63, u64, u65, u66, u67, u68, u69, u70, u71, u72, u73, u74, u75, u76, u77, u78, u79, u80, u81, u82, u83, u84, u85, u86, u87, u88, u89, u90, u91, u92, u93, u94, u95, u96, u97, u98, u99, u100, u101, u102, u103, u104, u105, u106, u107, u108, u109, u110, u111, u112, u113, u114, u115, u116, u117, u118, u119, u120, u121, u122, u123, u124], []⟩ w) (k2 : (∃ (k : Nat) (s : Int × Int) (a : Int), sp[k]? = some s ∧ pl[k]? = some a ∧ badP pool s a = true) → ∀ (v10 v36 v37 v38 v39 v40 v41 v42 v43 v44 v45 v46 v47 v48 v49 v50 v51 v52 v53 v54 v55 v56 v57 v58 v59 v60 v61 v62 : Value), Q (.ret) ⟨#[u0, .int .i64 pool, .slice Ap n cp, .pointer (some ⟨bp, 0, none⟩), u4, u5, .int .i64 2, u7, u8, .slice (some ⟨gs, 0, none⟩) n n, v10, u11, u12, u13, u14, u15, u16, u17, u18, u19, u20, u21, u22, u23, u24, u25, u26, u27, u28, u29, u30, u31, u32, u33, u34, u35, v36, v37, v38, v39, v40, v41, v42, v43, v44, v45, v46, v47, v48, v49, v50, v51, v52, v53, v54, v55, v56, v57, v58, v59, v60, v61, v62, u63, u64, u65, u66, u67, u68, u69, u70, u71, u72, u73, u74, u75, u76, u77, u78, u79, u80, u81, u82, u83, u84, u85, u86, u87, u88, u89, u90, u91, u92, u93, u94, u95, u96, u97, u98, u99, u100, u101, u102, u103, u104, u105, u106, u107, u108, u109, u110, u111, u112, u113, u114, u115, u116, u117, u118, u119, u120, u121, u122, u123, u124], []⟩ w) : (partL Tryd.f14 0).wp Tryd.prog Q ⟨#[u0, .int .i64 pool, .slice Ap n cp, .pointer (some ⟨bp, 0, none⟩), u4, u5, u6, u7, u8, .slice (some ⟨gs, 0, none⟩) n n, .int .i64 0, u11, u12, u13, u14, u15, u16, u17, u18, u19, u20, u21, u22, u23, u24, u25, u26, u27, u28, u29, u30, u31, u32, u33, u34, u35, u36, u37, u38, u39, u40, u41, u42, u43, u44, u45, u46, u47, u48, u49, u50, u51, u52, u53, u54, u55, u56, u57, u58, u59, u60, u61, u62, u63, u64, u65, u66, u67, u68, u69, u70, u71, u72, u73, u74, u75, u76, u77, u78, u79, u80, u81, u82, u83, u84, u85, u86, u87, u88, u89, u90, u91, u92, u93, u94, u95, u96, u97, u98, u99, u100, u101, u102, u103, u104, u105, u106, u107, u108, u109, u110, u111, u112, u113, u114, u115, u116, u117, u118, u119, u120, u121, u122, u123, u124], []⟩ w := by
  have HG := Lib.hid hg
  have HN := Lib.hid hn
  have HPL := Lib.hid hp
  have HB0 := Lib.hid hb0
  have K1 := Lib.hid k1
  have K2 := Lib.hid k2
  clear hg hn hp k1 k2
  conv => arg 2; whnf
  go_wp2
  go_loopw [10] (fun j wr => ∃ r : Nat, r ≤ n ∧ j = .int .i64 r ∧ wr = w ∧ Hid (∀ (k : Nat) (s : Int × Int) (a : Int), k < r → sp[k]? = some s → pl[k]? = some a → badP pool s a = false)) (fun j _ => n - (intOf j).toNat)
  case atStart => exact ⟨0, by omega, rfl, by trivial, Lib.hid (fun k s a h => absurd h (by omega))⟩
  case round =>
    obtain ⟨r, hr, rfl, rfl, HT⟩ := hrel
    by_cases hlt : r < n
    · obtain ⟨s, hs⟩ : ∃ s, sp[r]? = some s := ⟨_, List.getElem?_eq_getElem (by have := HN.out.1; omega)⟩
      obtain ⟨a, ha⟩ : ∃ s, pl[r]? = some s := ⟨_, List.getElem?_eq_getElem (by have := HN.out.2; omega)⟩
      obtain ⟨b, o, hA, hGb, hc⟩ := HPL.out.at_ ha
      subst hA
      have hsp := HG.out.cells hs
      have HS := Lib.hid hs
      have HA := Lib.hid ha
      obtain ⟨x, hx⟩ : ∃ x, s.1 = x := ⟨_, rfl⟩
      rw [hx] at hsp
      have HX := Lib.hid hx
      have hs0 := hsp.1
      have i0 : (0 : Int) ≤ (r : Int) := by omega
      have i1 : (r : Int) < (n : Int) := by omega
      have hkd1 : decide (r < n) = true := decide_eq_true hlt
      clear hs ha hx hsp hGb
      cases d0 : decide ((0 : Int) ≤ x)
      · have HN2 := Lib.hid (show badP pool s a = false by unfold badP; rw [HX.out, d0]; rfl)
        go_wp2
        go_roundw
        case rel => exact ⟨r + 1, by omega, by go_num, by trivial, Lib.hid (fun k s' a' hk h1 h2 => by
          by_cases e : k = r
          · subst e; rw [HS.out] at h1; rw [HA.out] at h2; cases h1; cases h2; exact HN2.out
          · exact HT.out k s' a' (by omega) h1 h2)⟩
        case measure => simp [intOf]; omega
      · cases d1 : decide (pool ≤ a)
        · cases d2 : decide (a < (-64 : Int))
          · have HN2 := Lib.hid (show badP pool s a = false by unfold badP; rw [HX.out, d0, d1, d2]; rfl)
            go_wp2
            go_roundw
            case rel => exact ⟨r + 1, by omega, by go_num, by trivial, Lib.hid (fun k s' a' hk h1 h2 => by
              by_cases e : k = r
              · subst e; rw [HS.out] at h1; rw [HA.out] at h2; cases h1; cases h2; exact HN2.out
              · exact HT.out k s' a' (by omega) h1 h2)⟩
            case measure => simp [intOf]; omega
          · have HN2 := Lib.hid (show badP pool s a = true by unfold badP; rw [HX.out, d0, d1, d2]; rfl)
            go_wp2
            exact K2.out ⟨r, s, a, HS.out, HA.out, HN2.out⟩ _ _ _ _ _ _ _ _ _ _ _ _ _ _ _ _ _ _ _ _ _ _ _ _ _ _ _ _
        · have HN2 := Lib.hid (show badP pool s a = true by unfold badP; rw [HX.out, d0, d1]; rfl)
          go_wp2
          exact K2.out ⟨r, s, a, HS.out, HA.out, HN2.out⟩ _ _ _ _ _ _ _ _ _ _ _ _ _ _ _ _ _ _ _ _ _ _ _ _ _ _ _ _
    · have HN2 := Lib.hid (show ∀ (k : Nat) (s : Int × Int) (a : Int), sp[k]? = some s → pl[k]? = some a → badP pool s a = false from fun k s a h1 h2 => HT.out k s a (by have := (List.getElem?_eq_some_iff.1 h1).1; have := HN.out.1; omega) h1 h2)
      have hkd1 : decide (r < n) = false := decide_eq_false hlt
      go_wp2
      exact K1.out HN2.out _ _ _ _ _ _ _ _ _ _ _ _ _ _ _ _ _ _ _ _ _ _ _ _ _ _ _ _ _

set_option pp.deepTerms true in
set_option pp.maxSteps 1000000 in
set_option maxRecDepth 100000 in
set_option maxHeartbeats 4000000 in
theorem rc_l4 {Ap : Option Addr} {cp gs n r : Nat} {a : Int} {s : Int × Int} {sp : List (Int × Int)} {pl : List Int} {G : Nat → Prop} (w : World) (Q : Exit → Act → World → Prop) {u0 u1 u3 u4 u5 u6 u7 u8 u10 u13 u14 u15 u16 u17 u18 u19 u20 u21 u22 u23 u24 u25 u26 u27 u28 u29 u30 u31 u32 u33 u34 u35 u36 u37 u38 u39 u40 u41 u42 u43 u44 u45 u46 u47 u48 u49 u50 u51 u52 u53 u54 u55 u56 u57 u58 u59 u60 u61 u62 u63 u64 u65 u66 u67 u68 u69 u70 u71 u72 u73 u74 u75 u76 u77 u78 u79 u80 u81 u82 u83 u84 u85 u86 u87 u88 u89 u90 u91 u92 u93 u94 u95 u96 u97 u98 u99 u100 u101 u102 u103 u104 u105 u106 u107 u108 u109 u110 u111 u112 u113 u114 u115 u116 u117 u118 u119 u120 u121 u122 u123 u124 : Value} (hg : SpansR w gs sp) (hn : sp.length = n ∧ pl.length = n) (hp : NumsAt w G (.slice Ap n cp) pl) (hr : r < n) (hs : sp[r]? = some s) (ha : pl[r]? = some a) (hn3 : n ≤ 1000)
    (k1 : (∀ (i : Nat) (t : Int × Int) (b : Int), i < r → sp[i]? = some t → pl[i]? = some b → clashP s t a b = false) → ∀ (v6 v12 v69 v70 v71 v72 v73 v74 v75 v76 v77 v78 v79 v80 v81 v82 v83 v84 v85 v86 v87 v88 v89 v90 v91 v92 v93 v94 v95 v96 v97 v98 v99 v100 v101 v102 v103 v104 v105 v106 v107 v108 v109 v110 v111 v112 v113 v114 v115 v116 v117 v118 v119 v120 v121 v122 v123 v124 : Value) (w' : World), Below w.heap.size w w' ∧ w'.heap = w.heap → Q (.exit 4) ⟨#[u0, u1, .slice Ap n cp, u3, u4, u5, v6, u7, u8, .slice (some ⟨gs, 0, none⟩) n n, u10, .int .i64 (r : Nat), v12, u13, u14, u15, u16, u17, u18, u19, u20, u21, u22, u23, u24, u25, u26, u27, u28, u29, u30, u31, u32, u33, u34, u35, u36, u37, u38, u39, u40, u41, u42, u43, u44, u45, u46, u47, u48, u49, u50, u51, u52, u53, u54, u55, u56, u57, u58, u59, u60, u61, u62, u63, u64, u65, u66, u67, u68, v69, v70, v71, v72, v73, v74, v75, v76, v77, v78, v79, v80, v81, v82, v83, v84, v85, v86, v87, v88, v89, v90, v91, v92, v93, v94, v95, v96, v97, v98, v99, v100, v101, v102, v103, v104, v105, v106, v107, v108, v109, v110, v111, v112, v113, v114, v115, v116, v117, v118, v119, v120, v121, v122, v123, v124], []⟩ w') (k2 : (∃ (i : Nat) (t : Int × Int) (b : Int), i < r ∧ sp[i]? = some t ∧ pl[i]? = some b ∧ clashP s t a b = true) → ∀ (v12 v69 v70 v71 v72 v73 v74 v75 v76 v77 v78 v79 v80 v81 v82 v83 v84 v85 v86 v87 v88 v89 v90 v91 v92 v93 v94 v95 v96 v97 v98 v99 v100 v101 v102 v103 v104 v105 v106 v107 v108 v109 v110 v111 v112 v113 v114 v115 v116 v117 v118 v119 v120 v121 v122 v123 v124 : Value) (w' : World), Below w.heap.size w w' ∧ w'.heap = w.heap → Q (.ret) ⟨#[u0, u1, .slice Ap n cp, u3, u4, u5, .int .i64 6, u7, u8, .slice (some ⟨gs, 0, none⟩) n n, u10, .int .i64 (r : Nat), v12, u13, u14, u15, u16, u17, u18, u19, u20, u21, u22, u23, u24, u25, u26, u27, u28, u29, u30, u31, u32, u33, u34, u35, u36, u37, u38, u39, u40, u41, u42, u43, u44, u45, u46, u47, u48, u49, u50, u51, u52, u53, u54, u55, u56, u57, u58, u59, u60, u61, u62, u63, u64, u65, u66, u67, u68, v69, v70, v71, v72, v73, v74, v75, v76, v77, v78, v79, v80, v81, v82, v83, v84, v85, v86, v87, v88, v89, v90, v91, v92, v93, v94, v95, v96, v97, v98, v99, v100, v101, v102, v103, v104, v105, v106, v107, v108, v109, v110, v111, v112, v113, v114, v115, v116, v117, v118, v119, v120, v121, v122, v123, v124], []⟩ w') : (partL Tryd.f14 4).wp Tryd.prog Q ⟨#[u0, u1, .slice Ap n cp, u3, u4, u5, u6, u7, u8, .slice (some ⟨gs, 0, none⟩) n n, u10, .int .i64 (r : Nat), .int .i64 0, u13, u14, u15, u16, u17, u18, u19, u20, u21, u22, u23, u24, u25, u26, u27, u28, u29, u30, u31, u32, u33, u34, u35, u36, u37, u38, u39, u40, u41, u42, u43, u44, u45, u46, u47, u48, u49, u50, u51, u52, u53, u54, u55, u56, u57, u58, u59, u60, u61, u62, u63, u64, u65, u66, u67, u68, u69, u70, u71, u72, u73, u74, u75, u76, u77, u78, u79, u80, u81, u82, u83, u84, u85, u86, u87, u88, u89, u90, u91, u92, u93, u94, u95, u96, u97, u98, u99, u100, u101, u102, u103, u104, u105, u106, u107, u108, u109, u110, u111, u112, u113, u114, u115, u116, u117, u118, u119, u120, u121, u122, u123, u124], []⟩ w := by
  have HG := Lib.hid hg
  have HN := Lib.hid hn
  have HPL := Lib.hid hp
  have HSA := Lib.hid (And.intro hs ha)
  have K1 := Lib.hid k1
  have K2 := Lib.hid k2
  obtain ⟨b0, o0, hA, _, hcR⟩ := hp.at_ ha
  subst hA
  have HCR := Lib.hid hcR
  clear hg hn hp hs ha k1 k2 hcR
  conv => arg 2; whnf
  go_wp2
  go_loopw [12] (fun j wr => ∃ k : Nat, k ≤ r ∧ j = .int .i64 k ∧ Hid (Below w.heap.size w wr ∧ wr.heap = w.heap ∧ (∀ (i : Nat) (t : Int × Int) (b : Int), i < k → sp[i]? = some t → pl[i]? = some b → clashP s t a b = false))) (fun j _ => r - (intOf j).toNat)
  case atStart => exact ⟨0, by omega, rfl, Lib.hid ⟨Below.refl _ _, rfl, fun k s a h => absurd h (by omega)⟩⟩
  case round =>
    obtain ⟨k, hk, rfl, HJ⟩ := hrel
    by_cases hlt : k < r
    · obtain ⟨t, ht⟩ : ∃ s, sp[k]? = some s := ⟨_, List.getElem?_eq_getElem (by have := HN.out.1; omega)⟩
      obtain ⟨b, hb⟩ : ∃ s, pl[k]? = some s := ⟨_, List.getElem?_eq_getElem (by have := HN.out.2; omega)⟩
      obtain ⟨b', o', hA', _, hc⟩ := HPL.out.at_ hb
      cases hA'
      have hE : ∀ q, wr.cell? q = w.cell? q := fun q => by simp only [World.cell?]; rw [HJ.out.2.1]
      have HSR := Lib.hid (HG.out.cells HSA.out.1)
      have HSK := Lib.hid (HG.out.cells ht)
      have HCK := Lib.hid hc
      have HEE := Lib.hid hE
      have HS := Lib.hid ht
      have HA := Lib.hid hb
      have hkd1 : decide (k < r) = true := decide_eq_true hlt
      obtain ⟨m, hm⟩ : ∃ m, clashP s t a b = m := ⟨_, rfl⟩
      have HM := Lib.hid hm
      clear ht hb hc hE hm
      go_wp2
      refine wp_code (c := partR Tryd.f14 18) (by kernel_rfl) ?_
      refine rc_r18 (b0 := b0) (o0 := o0) (gs := gs) (n := n) (cp := cp) (r := r) (k := k) (x := s.1) (y := s.2) (c := t.1) (d := t.2) (a := a) (b := b) (bl := m) _ _ ((HEE.out _).trans HSR.out.1) ((HEE.out _).trans HSR.out.2) ((HEE.out _).trans HSK.out.1) ((HEE.out _).trans HSK.out.2) ((HEE.out _).trans HCR.out) ((HEE.out _).trans HCK.out) hr (by omega) (by omega) HM.out ?_
      intro v74 v75 v76 v77 v78 v79 v80 v81 v82 v83 v84 v85 v86 v87 v88 v89 v90 v91 v92 v93 v94 v95 v96 v97 v98 v99 v100 v101 v102 v103 v104 v105 v106 v107 v108 v109 v110 v111 v112 v113 v114 v115 v116 v117 v118 v119 v120 v121 v122 v123 w5 h5
      have H5 := Lib.hid (show Below w.heap.size w w5 ∧ w5.heap = w.heap from ⟨by rw [h5]; exact HJ.out.1.drew, by rw [h5]; exact HJ.out.2.1⟩)
      clear h5
      cases m
      · go_wp2
        go_roundw
        case rel => exact ⟨k + 1, by omega, by go_num, Lib.hid ⟨H5.out.1, H5.out.2, fun i t' b' hk h1 h2 => by
          by_cases e : i = k
          · subst e; rw [HS.out] at h1; rw [HA.out] at h2; cases h1; cases h2; exact HM.out
          · exact HJ.out.2.2 i t' b' (by omega) h1 h2⟩⟩
        case measure => simp [intOf]; omega
      · go_wp2
        exact K2.out ⟨k, t, b, hlt, HS.out, HA.out, HM.out⟩ _ _ _ _ _ _ _ _ _ _ _ _ _ _ _ _ _ _ _ _ _ _ _ _ _ _ _ _ _ _ _ _ _ _ _ _ _ _ _ _ _ _ _ _ _ _ _ _ _ _ _ _ _ _ _ _ _ _ H5.out
    · have hkd1 : decide (k < r) = false := decide_eq_false hlt
      have HN2 := Lib.hid (show ∀ (i : Nat) (t : Int × Int) (b : Int), i < r → sp[i]? = some t → pl[i]? = some b → clashP s t a b = false from fun i t b h h1 h2 => HJ.out.2.2 i t b (by omega) h1 h2)
      go_wp2
      exact K1.out HN2.out _ _ _ _ _ _ _ _ _ _ _ _ _ _ _ _ _ _ _ _ _ _ _ _ _ _ _ _ _ _ _ _ _ _ _ _ _ _ _ _ _ _ _ _ _ _ _ _ _ _ _ _ _ _ _ _ _ _ _ ⟨HJ.out.1, HJ.out.2.1⟩

set_option pp.deepTerms true in
set_option pp.maxSteps 1000000 in
set_option maxRecDepth 100000 in
set_option maxHeartbeats 4000000 in
theorem rc_l2 {Ap : Option Addr} {bp cp gs n : Nat} {sp : List (Int × Int)} {pl : List Int} {G : Nat → Prop} (w : World) (Q : Exit → Act → World → Prop) {u0 u1 u4 u5 u6 u7 u8 u10 u12 u13 u14 u15 u16 u17 u18 u19 u20 u21 u22 u23 u24 u25 u26 u27 u28 u29 u30 u31 u32 u33 u34 u35 u36 u37 u38 u39 u40 u41 u42 u43 u44 u45 u46 u47 u48 u49 u50 u51 u52 u53 u54 u55 u56 u57 u58 u59 u60 u61 u62 u63 u64 u65 u66 u67 u68 u69 u70 u71 u72 u73 u74 u75 u76 u77 u78 u79 u80 u81 u82 u83 u84 u85 u86 u87 u88 u89 u90 u91 u92 u93 u94 u95 u96 u97 u98 u99 u100 u101 u102 u103 u104 u105 u106 u107 u108 u109 u110 u111 u112 u113 u114 u115 u116 u117 u118 u119 u120 u121 u122 u123 u124 : Value} (hg : SpansR w gs sp) (hn : sp.length = n ∧ pl.length = n) (hp : NumsAt w G (.slice Ap n cp) pl) (hb0 : w.cell? ⟨bp, 0, none⟩ = some (.int .i64 (n : Nat))) (hn3 : n ≤ 1000)
    (k1 : (∀ (r i : Nat) (s t : Int × Int) (a b : Int), i < r → sp[r]? = some s → pl[r]? = some a → sp[i]? = some t → pl[i]? = some b → clashP s t a b = false) → ∀ (v6 v11 v12 v63 v64 v65 v66 v67 v68 v69 v70 v71 v72 v73 v74 v75 v76 v77 v78 v79 v80 v81 v82 v83 v84 v85 v86 v87 v88 v89 v90 v91 v92 v93 v94 v95 v96 v97 v98 v99 v100 v101 v102 v103 v104 v105 v106 v107 v108 v109 v110 v111 v112 v113 v114 v115 v116 v117 v118 v119 v120 v121 v122 v123 v124 : Value) (w' : World), Below w.heap.size w w' ∧ w'.heap = w.heap → Q (.exit 2) ⟨#[u0, u1, .slice Ap n cp, .pointer (some ⟨bp, 0, none⟩), u4, u5, v6, u7, u8, .slice (some ⟨gs, 0, none⟩) n n, u10, v11, v12, u13, u14, u15, u16, u17, u18, u19, u20, u21, u22, u23, u24, u25, u26, u27, u28, u29, u30, u31, u32, u33, u34, u35, u36, u37, u38, u39, u40, u41, u42, u43, u44, u45, u46, u47, u48, u49, u50, u51, u52, u53, u54, u55, u56, u57, u58, u59, u60, u61, u62, v63, v64, v65, v66, v67, v68, v69, v70, v71, v72, v73, v74, v75, v76, v77, v78, v79, v80, v81, v82, v83, v84, v85, v86, v87, v88, v89, v90, v91, v92, v93, v94, v95, v96, v97, v98, v99, v100, v101, v102, v103, v104, v105, v106, v107, v108, v109, v110, v111, v112, v113, v114, v115, v116, v117, v118, v119, v120, v121, v122, v123, v124], []⟩ w') (k2 : (∃ (r i : Nat) (s t : Int × Int) (a b : Int), i < r ∧ sp[r]? = some s ∧ pl[r]? = some a ∧ sp[i]? = some t ∧ pl[i]? = some b ∧ clashP s t a b = true) → ∀ (v11 v12 v63 v64 v65 v66 v67 v68 v69 v70 v71 v72 v73 v74 v75 v76 v77 v78 v79 v80 v81 v82 v83 v84 v85 v86 v87 v88 v89 v90 v91 v92 v93 v94 v95 v96 v97 v98 v99 v100 v101 v102 v103 v104 v105 v106 v107 v108 v109 v110 v111 v112 v113 v114 v115 v116 v117 v118 v119 v120 v121 v122 v123 v124 : Value) (w' : World), Below w.heap.size w w' ∧ w'.heap = w.heap → Q (.ret) ⟨#[u0, u1, .slice Ap n cp, .pointer (some ⟨bp, 0, none⟩), u4, u5, .int .i64 6, u7, u8, .slice (some ⟨gs, 0, none⟩) n n, u10, v11, v12, u13, u14, u15, u16, u17, u18, u19, u20, u21, u22, u23, u24, u25, u26, u27, u28, u29, u30, u31, u32, u33, u34, u35, u36, u37, u38, u39, u40, u41, u42, u43, u44, u45, u46, u47, u48, u49, u50, u51, u52, u53, u54, u55, u56, u57, u58, u59, u60, u61, u62, v63, v64, v65, v66, v67, v68, v69, v70, v71, v72, v73, v74, v75, v76, v77, v78, v79, v80, v81, v82, v83, v84, v85, v86, v87, v88, v89, v90, v91, v92, v93, v94, v95, v96, v97, v98, v99, v100, v101, v102, v103, v104, v105, v106, v107, v108, v109, v110, v111, v112, v113, v114, v115, v116, v117, v118, v119, v120, v121, v122, v123, v124], []⟩ w') : (partL Tryd.f14 2).wp Tryd.prog Q ⟨#[u0, u1, .slice Ap n cp, .pointer (some ⟨bp, 0, none⟩), u4, u5, u6, u7, u8, .slice (some ⟨gs, 0, none⟩) n n, u10, .int .i64 0, u12, u13, u14, u15, u16, u17, u18, u19, u20, u21, u22, u23, u24, u25, u26, u27, u28, u29, u30, u31, u32, u33, u34, u35, u36, u37, u38, u39, u40, u41, u42, u43, u44, u45, u46, u47, u48, u49, u50, u51, u52, u53, u54, u55, u56, u57, u58, u59, u60, u61, u62, u63, u64, u65, u66, u67, u68, u69, u70, u71, u72, u73, u74, u75, u76, u77, u78, u79, u80, u81, u82, u83, u84, u85, u86, u87, u88, u89, u90, u91, u92, u93, u94, u95, u96, u97, u98, u99, u100, u101, u102, u103, u104, u105, u106, u107, u108, u109, u110, u111, u112, u113, u114, u115, u116, u117, u118, u119, u120, u121, u122, u123, u124], []⟩ w := by
  have HG := Lib.hid hg
  have HN := Lib.hid hn
  have HPL := Lib.hid hp
  have HB0 := Lib.hid hb0
  have K1 := Lib.hid k1
  have K2 := Lib.hid k2
  clear hg hn hp hb0 k1 k2
  conv => arg 2; whnf
  go_wp2
  go_loopw [11] (fun j wr => ∃ r : Nat, r ≤ n ∧ j = .int .i64 r ∧ Hid (Below w.heap.size w wr ∧ wr.heap = w.heap ∧ (∀ (r' i : Nat) (s t : Int × Int) (a b : Int), r' < r → i < r' → sp[r']? = some s → pl[r']? = some a → sp[i]? = some t → pl[i]? = some b → clashP s t a b = false))) (fun j _ => n - (intOf j).toNat)
  case atStart => exact ⟨0, by omega, rfl, Lib.hid ⟨Below.refl _ _, rfl, fun k _ s _ a _ h => absurd h (by omega)⟩⟩
  case round =>
    obtain ⟨r, hr, rfl, HJ⟩ := hrel
    have hb0 : wr.cell? ⟨bp, 0, none⟩ = some (.int .i64 (n : Nat)) := by simp only [World.cell?]; rw [HJ.out.2.1]; exact HB0.out
    by_cases hlt : r < n
    · obtain ⟨s, hs⟩ : ∃ s, sp[r]? = some s := ⟨_, List.getElem?_eq_getElem (by have := HN.out.1; omega)⟩
      obtain ⟨a, ha⟩ : ∃ s, pl[r]? = some s := ⟨_, List.getElem?_eq_getElem (by have := HN.out.2; omega)⟩
      have HS := Lib.hid hs
      have HA := Lib.hid ha
      have hkd1 : decide (r < n) = true := decide_eq_true hlt
      clear hs ha
      go_wp2
      refine wp_code (c := partL Tryd.f14 4) (by kernel_rfl) ?_
      refine rc_l4 (gs := gs) (r := r) (s := s) (a := a) (sp := sp) (pl := pl) (G := G) _ _ (show wr.heap[gs]? = _ by rw [HJ.out.2.1]; exact HG.out) HN.out (Rows.keep HPL.out (fun k _ => by rw [HJ.out.2.1])) hlt HS.out HA.out hn3 ?_ ?_
      rotate_left
      · rintro ⟨i, t, b, hi, h1, h2, h3⟩ v12 v69 v70 v71 v72 v73 v74 v75 v76 v77 v78 v79 v80 v81 v82 v83 v84 v85 v86 v87 v88 v89 v90 v91 v92 v93 v94 v95 v96 v97 v98 v99 v100 v101 v102 v103 v104 v105 v106 v107 v108 v109 v110 v111 v112 v113 v114 v115 v116 v117 v118 v119 v120 v121 v122 v123 v124 w7 hb7
        exact K2.out ⟨r, i, s, t, a, b, hi, HS.out, HA.out, h1, h2, h3⟩ _ _ _ _ _ _ _ _ _ _ _ _ _ _ _ _ _ _ _ _ _ _ _ _ _ _ _ _ _ _ _ _ _ _ _ _ _ _ _ _ _ _ _ _ _ _ _ _ _ _ _ _ _ _ _ _ _ _ _ _ _ _ _ _ _ ⟨HJ.out.1.trans (hb7.1.mono HJ.out.1.size), hb7.2.trans HJ.out.2.1⟩
      · intro hno v6 v12 v69 v70 v71 v72 v73 v74 v75 v76 v77 v78 v79 v80 v81 v82 v83 v84 v85 v86 v87 v88 v89 v90 v91 v92 v93 v94 v95 v96 v97 v98 v99 v100 v101 v102 v103 v104 v105 v106 v107 v108 v109 v110 v111 v112 v113 v114 v115 v116 v117 v118 v119 v120 v121 v122 v123 v124 w7 hb7
        have HNO := Lib.hid hno
        have HB7 := Lib.hid (show Below w.heap.size w w7 ∧ w7.heap = w.heap from ⟨HJ.out.1.trans (hb7.1.mono HJ.out.1.size), hb7.2.trans HJ.out.2.1⟩)
        clear hno hb7 hb0
        go_wp2
        go_roundw
        case rel => exact ⟨r + 1, by omega, by go_num, Lib.hid ⟨HB7.out.1, HB7.out.2, fun r' i s' t' a' b' h1 h2 h3 h4 h5 h6 => by
          by_cases e : r' = r
          · subst e; rw [HS.out] at h3; rw [HA.out] at h4; cases h3; cases h4; exact HNO.out i t' b' h2 h5 h6
          · exact HJ.out.2.2 r' i s' t' a' b' (by omega) h2 h3 h4 h5 h6⟩⟩
        case measure => simp [intOf]; omega
    · have hkd1 : decide (r < n) = false := decide_eq_false hlt
      have HN2 := Lib.hid (show ∀ (r' i : Nat) (s t : Int × Int) (a b : Int), i < r' → sp[r']? = some s → pl[r']? = some a → sp[i]? = some t → pl[i]? = some b → clashP s t a b = false from fun r' i s t a b h2 h3 h4 h5 h6 => HJ.out.2.2 r' i s t a b (by have := (List.getElem?_eq_some_iff.1 h3).1; have := HN.out.1; omega) h2 h3 h4 h5 h6)
      go_wp2
      exact K1.out HN2.out _ _ _ _ _ _ _ _ _ _ _ _ _ _ _ _ _ _ _ _ _ _ _ _ _ _ _ _ _ _ _ _ _ _ _ _ _ _ _ _ _ _ _ _ _ _ _ _ _ _ _ _ _ _ _ _ _ _ _ _ _ _ _ _ _ _ ⟨HJ.out.1, HJ.out.2.1⟩

set_option pp.deepTerms true in
set_option pp.maxSteps 1000000 in
set_option maxRecDepth 100000 in
set_option maxHeartbeats 8000000 in
theorem Pcheck_any (p : LP) (Ab Ao Ap : Option Addr) (nb cb no co n0 cp : Nat) (pool : Int) (pl : List Int) (w : World) (hp : ProgAt w (fun k => k < w.heap.size) [.int .i64 p.regs, .slice Ab nb cb, .slice Ao no co] p) (hpl : NumsAt w (fun k => k < w.heap.size) (.slice Ap n0 cp) pl) :
    Calls Tryd.prog 14 #[.agg #[.int .i64 p.regs, .slice Ab nb cb, .slice Ao no co], .int .i64 pool, .slice Ap n0 cp] w fun e w' => e = .returned (.int .i64 (placesF p pool pl)) ∧ Below w.heap.size w w' := by
  obtain ⟨W, hW, hbW, hzW, hl_, hr_⟩ := boxed w #[.int .i64 p.regs, .slice Ab nb cb, .slice Ao no co] 25
  have c0 : W.cell? ⟨w.heap.size, 0, none⟩ = some (.int .i64 p.regs) := by rw [hl_]; rfl
  have c1 : W.cell? ⟨w.heap.size, 1, none⟩ = some (.slice Ab nb cb) := by rw [hl_]; rfl
  have c2 : W.cell? ⟨w.heap.size, 2, none⟩ = some (.slice Ao no co) := by rw [hl_]; rfl
  have hp1 := prog_next hp hbW
  have HC := Lib.hid (Rcheck_any p Ab Ao nb cb no co W hp1)
  rw [check_same] at HC
  have hl0 : pl.length = n0 := by obtain ⟨A, c, hv, _⟩ := rows_form hpl; cases hv; rfl
  have HPL := Lib.hid hpl
  have HP1 := Lib.hid hp1
  have HW := Lib.hid hW
  have HB := Lib.hid hbW
  have hlt : w.heap.size < W.heap.size := by omega
  obtain ⟨x, hx⟩ : ∃ x, (checkF p 64).1 = x := ⟨_, rfl⟩
  obtain ⟨y, hy⟩ : ∃ x, (checkF p 64).2 = x := ⟨_, rfl⟩
  obtain ⟨res, hres⟩ : ∃ x, placesF p pool pl = x := ⟨_, rfl⟩
  have hv := hres
  unfold placesF at hv
  rw [hy, hl0] at hv
  have HV := Lib.hid hv
  rw [hx, hy] at HC
  rw [hres]
  have HY := Lib.hid hy
  have HL0 := Lib.hid hl0
  clear hW hbW hzW hl_ hr_ hp hp1 hpl hx hy hres hv hl0
  by_cases h0 : y = 0
  rotate_left
  · have d0 : (y != 0) = true := by simpa using h0
    have HV := Lib.hid (HV.out.symm.trans (if_pos h0))
    clear h0 hlt
    go_enter Tryd.func14, Tryd.ntmps14
    go_upto_region 1 with fail
    rw [← HW.out]
    go_wp2_with ((with_reducible refine (HC.out).mono ?_); rintro e w1 ⟨rfl, hb1⟩)
    go_ret
    exact ⟨by rw [HV.out]; rfl, HB.out.trans (hb1.mono HB.out.size)⟩
  subst h0
  have HV := Lib.hid (HV.out.symm.trans (if_neg (by decide)))
  go_enter Tryd.func14, Tryd.ntmps14
  go_upto_region 1 with fail
  rw [← HW.out]
  go_upto_region 4 with ((with_reducible refine (HC.out).mono ?_); rintro e w1 ⟨rfl, hb1⟩)
  have e0 := (hb1.cell (p := ⟨w.heap.size, 0, none⟩) hlt).trans c0
  have e1 := (hb1.cell (p := ⟨w.heap.size, 1, none⟩) hlt).trans c1
  have e2 := (hb1.cell (p := ⟨w.heap.size, 2, none⟩) hlt).trans c2
  have HB1 := Lib.hid (HB.out.trans (hb1.mono HB.out.size))
  have HPW := Lib.hid (prog_next HP1.out hb1)
  have HL1 := Lib.hid (Nat.lt_of_lt_of_le hlt hb1.size)
  clear c0 c1 c2 hb1 hlt
  by_cases m1 : pool < 0
  · have d1 : decide (pool < (0 : Int)) = true := decide_eq_true m1
    have HV := Lib.hid (HV.out.trans (if_pos (.inl m1)))
    clear m1
    go_wp2
    go_ret
    exact ⟨by rw [HV.out]; rfl, HB1.out⟩
  have d1 : decide (pool < (0 : Int)) = false := decide_eq_false m1
  by_cases m2 : 16 < pool
  · have d2 : decide ((16 : Int) < pool) = true := decide_eq_true m2
    have HV := Lib.hid (HV.out.trans (if_pos (.inr (.inl m2))))
    clear m1 m2
    go_wp2
    go_ret
    exact ⟨by rw [HV.out]; rfl, HB1.out⟩
  have d2 : decide ((16 : Int) < pool) = false := decide_eq_false m2
  by_cases m3 : (n0 : Int) = p.regs
  rotate_left
  · have d3 : ((n0 : Int) != p.regs) = true := by simpa using m3
    have HV := Lib.hid (HV.out.trans (if_pos (.inr (.inr m3))))
    clear m1 m2 m3
    go_wp2
    go_ret
    exact ⟨by rw [HV.out]; rfl, HB1.out⟩
  have d3 : ((n0 : Int) != p.regs) = false := by simpa using m3
  have HV := Lib.hid (HV.out.trans (if_neg (by rw [not_or, not_or]; exact ⟨m1, m2, fun h => h m3⟩)))
  have HSP := Lib.hid (RLive_ok p Ab Ao nb cb no co n0 w1 HPW.out HY.out m3.symm)
  have HM3 := Lib.hid m3
  have HSL := Lib.hid (show (spansF p).length = n0 by rw [spans_len, ← m3]; rfl)
  have hn64 : n0 ≤ 1000 := by have := (head_ok (check_run HY.out).1).1; omega
  clear m1 m2 m3
  go_upto_region 7 with ((with_reducible refine (HSP.out).mono ?_); rintro e w2 ⟨gs, rfl, hgs, hsp, hb2⟩)
  have HS := Lib.hid hsp
  have HB2 := Lib.hid (HB1.out.trans (hb2.mono HB1.out.size))
  have HPL2 := Lib.hid (show NumsAt w2 (fun k => k < w.heap.size) (.slice Ap n0 cp) pl from Rows.keep HPL.out (SameOn.of_below HB2.out fun _ h => h))
  have HF0 := Lib.hid (show w2.cell? ⟨w.heap.size, 0, none⟩ = some (.int .i64 (n0 : Nat)) from (hb2.cell (p := ⟨w.heap.size, 0, none⟩) (by have := HL1.out; exact this)).trans (by rw [HM3.out]; exact e0))
  clear e0 e1 e2 d1 d2 d3 hgs hsp hb2
  go_wp2
  refine wp_code (c := partL Tryd.f14 0) (by kernel_rfl) ?_
  refine rc_l0 (gs := gs) (sp := spansF p) (pl := pl) _ _ HS.out ⟨HSL.out, HL0.out⟩ HPL2.out HF0.out hn64 ?_ ?_
  rotate_left
  · intro hbad v10 v36 v37 v38 v39 v40 v41 v42 v43 v44 v45 v46 v47 v48 v49 v50 v51 v52 v53 v54 v55 v56 v57 v58 v59 v60 v61 v62
    have HV := Lib.hid (HV.out.trans (if_pos (bad_yes hbad)))
    have HB3 := HB2
    clear hbad
    go_wp2
    go_ret
    exact ⟨by rw [HV.out]; rfl, HB3.out⟩
  intro hno v6 v10 v36 v37 v38 v39 v40 v41 v42 v43 v44 v45 v46 v47 v48 v49 v50 v51 v52 v53 v54 v55 v56 v57 v58 v59 v60 v61 v62
  have HV := Lib.hid (HV.out.trans (if_neg (by rw [bad_no (by rw [HL0.out, HSL.out]) hno]; decide)))
  have HB3 := HB2
  have HS3 := HS
  clear hno
  go_wp2
  refine wp_code (c := partL Tryd.f14 2) (by kernel_rfl) ?_
  refine rc_l2 (gs := gs) (sp := spansF p) (pl := pl) _ _ HS3.out ⟨HSL.out, HL0.out⟩ HPL2.out HF0.out hn64 ?_ ?_
  rotate_left
  · intro hcl v11 v12 v63 v64 v65 v66 v67 v68 v69 v70 v71 v72 v73 v74 v75 v76 v77 v78 v79 v80 v81 v82 v83 v84 v85 v86 v87 v88 v89 v90 v91 v92 v93 v94 v95 v96 v97 v98 v99 v100 v101 v102 v103 v104 v105 v106 v107 v108 v109 v110 v111 v112 v113 v114 v115 v116 v117 v118 v119 v120 v121 v122 v123 v124 w4 hb4
    have HV := Lib.hid (HV.out.trans (if_pos (clash_yes hcl)))
    have HB4 := Lib.hid (HB3.out.trans (hb4.1.mono HB3.out.size))
    clear hcl hb4
    go_wp2
    go_ret
    exact ⟨by rw [HV.out]; rfl, HB4.out⟩
  intro hno v6 v11 v12 v63 v64 v65 v66 v67 v68 v69 v70 v71 v72 v73 v74 v75 v76 v77 v78 v79 v80 v81 v82 v83 v84 v85 v86 v87 v88 v89 v90 v91 v92 v93 v94 v95 v96 v97 v98 v99 v100 v101 v102 v103 v104 v105 v106 v107 v108 v109 v110 v111 v112 v113 v114 v115 v116 v117 v118 v119 v120 v121 v122 v123 v124 w4 hb4
  have HV := Lib.hid (HV.out.trans (if_neg (by rw [clash_no (by rw [HL0.out, HSL.out]) hno]; decide)))
  have HB4 := Lib.hid (HB3.out.trans (hb4.1.mono HB3.out.size))
  clear hno hb4
  go_wp2
  go_ret
  exact ⟨by rw [HV.out]; rfl, HB4.out⟩

end Go.Proofs.YtppoiahhaclleaaDoor
