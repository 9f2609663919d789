
/- alloc: live, note; spans' inner loops. -/
import Derived.Test.YtppoiahhaclleaaDoorRLimbJ
namespace Go.Proofs.YtppoiahhaclleaaDoor
open Go.RowKit

def spV (sp : List (Int × Int)) : List Value := (sp.map fun s => [Value.int .i64 s.1, Value.int .i64 s.2]).flatten
theorem spV_len (sp : List (Int × Int)) : (spV sp).length = sp.length * 2 := by
  unfold spV
  induction sp with
  | nil => rfl
  | cons s sp ih => simp only [List.map_cons, List.flatten_cons, List.length_append, ih, List.length_cons, List.length_nil]; omega
theorem spV_cons (s : Int × Int) (sp : List (Int × Int)) : spV (s :: sp) = Value.int .i64 s.1 :: Value.int .i64 s.2 :: spV sp := rfl
theorem spV_get {sp : List (Int × Int)} {r : Nat} {s : Int × Int} (h : sp[r]? = some s) : (spV sp)[r * 2]? = some (.int .i64 s.1) ∧ (spV sp)[r * 2 + 1]? = some (.int .i64 s.2) := by
  induction sp generalizing r with
  | nil => cases h
  | cons t sp ih =>
    rw [spV_cons]
    cases r with
    | zero => simp at h; subst h; exact ⟨rfl, rfl⟩
    | succ r =>
      have := ih (by simpa using h)
      rw [show (r + 1) * 2 = r * 2 + 1 + 1 by omega]
      exact this
theorem spV_set {sp : List (Int × Int)} {r : Nat} {s : Int × Int} (h : sp[r]? = some s) (a b : Int) : ((spV sp).set (r * 2) (.int .i64 a)).set (r * 2 + 1) (.int .i64 b) = spV (sp.set r (a, b)) := by
  induction sp generalizing r with
  | nil => cases h
  | cons t sp ih =>
    cases r with
    | zero => rfl
    | succ r =>
      have := ih (r := r) (by simpa using h)
      rw [spV_cons, show (r + 1) * 2 = r * 2 + 1 + 1 by omega, show (r * 2 + 1 + 1 + 1) = (r * 2 + 1) + 1 + 1 from rfl]
      simp only [List.set_cons_succ, spV_cons]
      rw [this]
theorem spV_set2 {sp : List (Int × Int)} {r : Nat} {s : Int × Int} (h : sp[r]? = some s) (b : Int) : (spV sp).set (r * 2 + 1) (.int .i64 b) = spV (sp.set r (s.1, b)) := by
  rw [← spV_set h s.1 b]
  congr 1
  obtain ⟨h1, h2⟩ := List.getElem?_eq_some_iff.1 (spV_get h).1
  conv => lhs; rw [← List.set_getElem_self h1]
  rw [h2]
/-- Spans in a block of their own, that may be written. -/
def SpansAt (w : World) (g : Nat) (sp : List (Int × Int)) : Prop := w.heap[g]? = some (.cells (spV sp).toArray 68 (0, 0))
theorem SpansAt.cells {w : World} {g : Nat} {sp : List (Int × Int)} (h : SpansAt w g sp) {r : Nat} {s : Int × Int} (hr : sp[r]? = some s) : w.cell? ⟨g, r * 2, none⟩ = some (.int .i64 s.1) ∧ w.cell? ⟨g, r * 2 + 1, none⟩ = some (.int .i64 s.2) :=
  ⟨cell_row h (spV_get hr).1, cell_row h (spV_get hr).2⟩
theorem SpansAt.next {w w' : World} {g : Nat} {sp : List (Int × Int)} (h : SpansAt w g sp) (hb : Below w.heap.size w w') : SpansAt w' g sp := (hb.block g (lt_of_block h)).trans h

set_option maxHeartbeats 800000 in
theorem live_any (s : Int × Int) (w : World) : Calls Tryd.prog 33 #[.agg #[.int .i64 s.1, .int .i64 s.2]] w fun e w' => e = .returned (.bool (decide (0 ≤ s.1))) ∧ Below w.heap.size w w' := by
  obtain ⟨a, ha⟩ : ∃ a, s.1 = a := ⟨_, rfl⟩
  obtain ⟨b, hb⟩ : ∃ a, s.2 = a := ⟨_, rfl⟩
  rw [ha, hb]
  clear ha hb
  go_enter Tryd.func33, Tryd.ntmps33
  go_wp2
  go_ret
  exact ⟨rfl, (Below.refl _ _).alloc (Nat.le_refl _) _⟩
set_option maxRecDepth 100000 in
set_option maxHeartbeats 1600000 in
theorem note_any (g r : Nat) (sp : List (Int × Int)) (s : Int × Int) (i : Int) (w : World) (hg : SpansAt w g sp) (hr : sp[r]? = some s) :
    Calls Tryd.prog 52 #[.pointer (some ⟨g, r * 2, none⟩), .int .i64 i] w fun e w' => e = .returned (.tuple #[]) ∧ Chg (fun k => k = g) w w' ∧ SpansAt w' g (sp.set r (noteF s i)) := by
  have hc := hg.cells hr
  have hf : ∀ k, w.frozen? ⟨g, k, none⟩ = false := fun k => frozen_row hg k
  obtain ⟨a, ha⟩ : ∃ a, s.1 = a := ⟨_, rfl⟩
  obtain ⟨b, hb⟩ : ∃ a, s.2 = a := ⟨_, rfl⟩
  have hn : noteF s i = (if a < 0 then i else a, max b i) := by unfold noteF; rw [ha, hb]
  rw [ha, hb] at hc
  have HN := Lib.hid hn
  have HG := Lib.hid hg
  have HR := Lib.hid hr
  have HA := Lib.hid (And.intro ha hb)
  obtain ⟨k, hk⟩ : ∃ k, r * 2 = k := ⟨_, rfl⟩
  rw [hk] at hc ⊢
  have HK := Lib.hid hk
  obtain ⟨m, hm⟩ : ∃ m, max b i = m := ⟨_, rfl⟩
  have HM := Lib.hid hm
  have hc0 := hc.1
  have hc1 := hc.2
  have hf0 := hf k
  have hf1 := hf (k + 1)
  clear hg hr ha hb hn hc hf hk
  by_cases h0 : a < 0
  · have d0 : decide (a < (0 : Int)) = true := decide_eq_true h0
    have hn2 : noteF s i = (i, m) := by rw [HN.out, if_pos h0, hm]
    have hS1 := setCell_row HG.out k (.int .i64 i)
    have hS2 := setCell_row hS1 (k + 1) (.int .i64 m)
    rw [← HK.out, spV_set HR.out i m, HK.out, ← hn2] at hS2
    have HS2 := Lib.hid hS2
    have hc2 : (w.setCell ⟨g, k, none⟩ (.int .i64 i)).cell? ⟨g, k + 1, none⟩ = some (.int .i64 b) := cell_row hS1 (by rw [List.getElem?_set_ne (by omega), ← HK.out, ← HA.out.2]; exact (spV_get HR.out).2)
    have hf2 : (w.setCell ⟨g, k, none⟩ (.int .i64 i)).frozen? ⟨g, k + 1, none⟩ = false := frozen_row hS1 _
    have HC2 := Lib.hid (And.intro hc2 hf2)
    obtain ⟨W, hW⟩ : ∃ q, q = w.setCell ⟨g, k, none⟩ (.int .i64 i) := ⟨_, rfl⟩
    rw [← hW] at hS2 hc2 hf2 HS2 HC2
    have HCH := Lib.hid (show Chg (fun k => k = g) w W by rw [hW]; exact (Chg.refl (fun k => k = g) w).setCell (.inl rfl) _)
    have HW := Lib.hid hW
    clear h0 hn2 hS1 hS2 hW hc2 hf2
    go_enter Tryd.func52, Tryd.ntmps52
    go_upto_region 2 with fail
    rw [← HW.out]
    (refine wp_region_lines (fun w_ => w_.cell? ⟨g, k + 1, none⟩ = some (.int .i64 b)) (by kernel_rfl) (by kernel_rfl) HC2.out.1 ?_)
    (try simp only [])
    repeat (first | (refine runL_no (by rfl) ?_; (try simp only [Act.put, List.setIfInBounds_toArray, List.set_cons_zero, List.set_cons_succ])) | (refine runL_val (v := ?_) (by rfl) ?_ ?_; rotate_left; (focus (intro w_ hw_; have hk1_ := hw_; go_simp; (try with_reducible rfl); done)); (try simp only [Act.put, List.setIfInBounds_toArray, List.set_cons_zero, List.set_cons_succ])) | (refine runL_skip (w1 := W.drew.setCell ⟨g, k + 1, none⟩ (.int .i64 m)) (by rfl) (by rfl) (exec_store1 3 _ _ rfl g (k + 1) _ rfl rfl (by kernel_rfl) (by show (World.cell? W _).isSome = true; rw [HC2.out.1]; rfl) HC2.out.2 rfl) (.inl ⟨rfl, by kernel_rfl⟩) ?_; (try simp only [Act.put])))
    (refine runL_nil ?_)
    refine bodyPost_end (v := .tuple #[]) (results_none rfl _ _ _) rfl ?_
    refine ⟨rfl, HCH.out.drew.setCell (.inl rfl) _, HS2.out⟩
  · have d0 : decide (a < (0 : Int)) = false := decide_eq_false h0
    have hn2 : noteF s i = (a, m) := by rw [HN.out, if_neg h0, hm]
    have hS2 := setCell_row HG.out (k + 1) (.int .i64 m)
    rw [← HK.out, spV_set2 HR.out, HK.out, HA.out.1, ← hn2] at hS2
    have HS2 := Lib.hid hS2
    have HC2 := Lib.hid (And.intro hc1 hf1)
    clear h0 hn2 hS2
    go_enter Tryd.func52, Tryd.ntmps52
    go_upto_region 2 with fail
    (refine wp_region_lines (fun w_ => w_.cell? ⟨g, k + 1, none⟩ = some (.int .i64 b)) (by kernel_rfl) (by kernel_rfl) HC2.out.1 ?_)
    (try simp only [])
    repeat (first | (refine runL_no (by rfl) ?_; (try simp only [Act.put, List.setIfInBounds_toArray, List.set_cons_zero, List.set_cons_succ])) | (refine runL_val (v := ?_) (by rfl) ?_ ?_; rotate_left; (focus (intro w_ hw_; have hk1_ := hw_; go_simp; (try with_reducible rfl); done)); (try simp only [Act.put, List.setIfInBounds_toArray, List.set_cons_zero, List.set_cons_succ])) | (refine runL_skip (w1 := w.drew.setCell ⟨g, k + 1, none⟩ (.int .i64 m)) (by rfl) (by rfl) (exec_store1 3 _ _ rfl g (k + 1) _ rfl rfl (by kernel_rfl) (by show (World.cell? w _).isSome = true; rw [HC2.out.1]; rfl) HC2.out.2 rfl) (.inl ⟨rfl, by kernel_rfl⟩) ?_; (try simp only [Act.put])))
    (refine runL_nil ?_)
    refine bodyPost_end (v := .tuple #[]) (results_none rfl _ _ _) rfl ?_
    refine ⟨rfl, ((Chg.refl (fun k => k = g) w).drew).setCell (.inl rfl) _, HS2.out⟩

theorem noteR_neg {sp : List (Int × Int)} {r i : Int} (h : ¬ 0 ≤ r) : noteR sp r i = sp := by unfold noteR; rw [if_neg h]
theorem noteR_pos {sp : List (Int × Int)} {q : Nat} {i : Int} {s : Int × Int} (h : sp[q]? = some s) : noteR sp (q : Int) i = sp.set q (noteF s i) := by
  unfold noteR
  rw [if_pos (by omega), Int.toNat_natCast]
  refine List.ext_getElem? fun j => ?_
  rw [List.getElem?_modify, List.getElem?_set]
  by_cases e : q = j
  · subst e
    rw [if_pos rfl, h]
    simp [(List.getElem?_eq_some_iff.1 h).1]
  · rw [if_neg e]
    cases sp[j]? <;> simp [e]
theorem notes_take {l : List Int} {k : Nat} {r : Int} (h : l[k]? = some r) (sp : List (Int × Int)) (i : Int) : (l.take (k + 1)).foldl (fun sp r => noteR sp r i) sp = noteR ((l.take k).foldl (fun sp r => noteR sp r i) sp) r i := by
  rw [List.take_add_one, h, List.foldl_append]
  rfl

set_option maxRecDepth 100000 in
set_option maxHeartbeats 4000000 in
theorem spans_l2 {Al : Option Addr} {gs n nl cl : Nat} {i : Int} {sp : List (Int × Int)} {l : List Int} {G : Nat → Prop} (w : World) (Q : Exit → Act → World → Prop) {u0 u1 u2 u4 u6 u7 u8 u9 u10 u11 u12 u13 u14 u15 u16 u17 u18 u19 u20 u21 u22 u23 u24 u25 u26 u27 u28 u29 u30 u31 u32 u33 u34 u35 u36 u37 u38 u39 u40 u41 u42 u43 u44 u45 u46 u47 u48 u49 u50 u51 u52 u53 u54 u55 u59 u60 u61 u62 u63 u64 u65 u66 u67 u68 u69 u70 u71 u72 u73 u74 u75 u76 u77 u78 u79 u80 u81 u82 u83 u84 u85 u86 u87 u88 u89 u90 u91 u92 u93 u94 u95 u96 u97 u98 u99 u100 u101 u102 u103 u104 u105 u106 u107 u108 u109 u110 u111 u112 u113 u114 u115 u116 u117 u118 u119 u120 u121 u122 u123 u124 u125 u126 u127 u128 u129 u130 u131 : Value} (hg : SpansAt w gs sp) (hn : sp.length = n) (hl : NumsAt w G (.slice Al nl cl) l) (hG : ∀ k, G k → k ≠ gs ∧ k < w.heap.size) (hnl : l.length = nl) (hn3 : nl ≤ 1000) (hr : ∀ r ∈ l, r < n)
    (k1 : ∀ (v9 v58 v59 v60 v61 v62 v63 v64 v65 v66 v67 v68 v69 : Value) (w' : World), Chg (fun k => k = gs) w w' → SpansAt w' gs (l.foldl (fun sp r => noteR sp r i) sp) → Q (.exit 2) ⟨#[u0, u1, u2, .slice (some ⟨gs, 0, none⟩) n n, u4, .int .i64 i, u6, u7, u8, v9, u10, u11, u12, u13, u14, u15, u16, u17, u18, u19, u20, u21, u22, u23, u24, u25, u26, u27, u28, u29, u30, u31, u32, u33, u34, u35, u36, u37, u38, u39, u40, u41, u42, u43, u44, u45, u46, u47, u48, u49, u50, u51, u52, u53, u54, u55, .slice Al nl cl, .int .i64 (nl : Nat), v58, v59, v60, v61, v62, v63, v64, v65, v66, v67, v68, v69, u70, u71, u72, u73, u74, u75, u76, u77, u78, u79, u80, u81, u82, u83, u84, u85, u86, u87, u88, u89, u90, u91, u92, u93, u94, u95, u96, u97, u98, u99, u100, u101, u102, u103, u104, u105, u106, u107, u108, u109, u110, u111, u112, u113, u114, u115, u116, u117, u118, u119, u120, u121, u122, u123, u124, u125, u126, u127, u128, u129, u130, u131], []⟩ w') : (partL Tryd.f32 2).wp Tryd.prog Q ⟨#[u0, u1, u2, .slice (some ⟨gs, 0, none⟩) n n, u4, .int .i64 i, u6, u7, u8, u9, u10, u11, u12, u13, u14, u15, u16, u17, u18, u19, u20, u21, u22, u23, u24, u25, u26, u27, u28, u29, u30, u31, u32, u33, u34, u35, u36, u37, u38, u39, u40, u41, u42, u43, u44, u45, u46, u47, u48, u49, u50, u51, u52, u53, u54, u55, .slice Al nl cl, .int .i64 (nl : Nat), .int .i64 0, u59, u60, u61, u62, u63, u64, u65, u66, u67, u68, u69, u70, u71, u72, u73, u74, u75, u76, u77, u78, u79, u80, u81, u82, u83, u84, u85, u86, u87, u88, u89, u90, u91, u92, u93, u94, u95, u96, u97, u98, u99, u100, u101, u102, u103, u104, u105, u106, u107, u108, u109, u110, u111, u112, u113, u114, u115, u116, u117, u118, u119, u120, u121, u122, u123, u124, u125, u126, u127, u128, u129, u130, u131], []⟩ w := by
  have HG := Lib.hid hg
  have HGG := Lib.hid hG
  have HN := Lib.hid hn
  have HL := Lib.hid hl
  have HNL := Lib.hid hnl
  have HR := Lib.hid hr
  have K1 := Lib.hid k1
  clear hg hG hn hl hnl hr k1
  conv => arg 2; whnf
  go_wp2
  go_loopw [58] (fun j wr => ∃ k : Nat, k ≤ nl ∧ j = .int .i64 k ∧ Chg (fun k => k = gs) w wr ∧ SpansAt wr gs ((l.take k).foldl (fun sp r => noteR sp r i) sp)) (fun j _ => nl - (intOf j).toNat)
  case atStart => exact ⟨0, by omega, rfl, Chg.refl _ _, by simpa using HG.out⟩
  case round =>
    obtain ⟨k, hk, rfl, hch, hca⟩ := hrel
    have HCH := Lib.hid hch
    have HCA := Lib.hid hca
    clear hch hca
    by_cases hlt : k < nl
    · obtain ⟨x, hx⟩ : ∃ x, l[k]? = some x := ⟨_, List.getElem?_eq_getElem (by have := HNL.out; omega)⟩
      obtain ⟨b, o, rfl, hb, hc⟩ := HL.out.at_ hx
      have hc2 := (World.cell?_of_block (w := w) (w' := wr) (a := ⟨b, o + k, none⟩) (HCH.out.block b (HGG.out b hb).2 (HGG.out b hb).1)).trans hc
      have hx2 := HR.out x (List.mem_of_getElem? hx)
      have HT := Lib.hid (notes_take hx sp i)
      have i0 : (0 : Int) ≤ (k : Int) := by omega
      have i1 : (k : Int) < (nl : Int) := by omega
      clear hc hb
      by_cases x0 : 0 ≤ x
      · have d0 : decide ((0 : Int) ≤ x) = true := decide_eq_true x0
        obtain ⟨q, rfl⟩ : ∃ q : Nat, x = q := ⟨x.toNat, by omega⟩
        have hlen : ((l.take k).foldl (fun sp r => noteR sp r i) sp).length = n := by rw [notes_fold_len]; exact HN.out
        obtain ⟨s, hs⟩ : ∃ s, ((l.take k).foldl (fun sp r => noteR sp r i) sp)[q]? = some s := ⟨_, List.getElem?_eq_getElem (by omega)⟩
        have HNT := Lib.hid (note_any gs q _ s i wr HCA.out hs)
        have HP := Lib.hid (noteR_pos (i := i) hs)
        have q0 : (0 : Int) ≤ (q : Int) := by omega
        have q1 : (q : Int) < (n : Int) := by omega
        clear hx hx2 hlen hs x0
        go_wp2_with ((with_reducible refine (HNT.out).mono ?_); rintro e w1 ⟨rfl, hch1, hsp1⟩; have HC1 := Lib.hid hch1; have HS1 := Lib.hid hsp1; clear hch1 hsp1)
        go_roundw
        case rel => exact ⟨k + 1, by omega, by go_num, HCH.out.trans HC1.out, by rw [HT.out, HP.out]; exact HS1.out⟩
        case measure => simp [intOf]; omega
      · have d0 : decide ((0 : Int) ≤ x) = false := decide_eq_false x0
        have HP := Lib.hid (noteR_neg (sp := (l.take k).foldl (fun sp r => noteR sp r i) sp) (i := i) x0)
        clear hx hx2 x0
        go_wp2
        go_roundw
        case rel => exact ⟨k + 1, by omega, by go_num, HCH.out, by rw [HT.out, HP.out]; exact HCA.out⟩
        case measure => simp [intOf]; omega
    · have HZ := Lib.hid (show SpansAt wr gs (l.foldl (fun sp r => noteR sp r i) sp) by have := HCA.out; rwa [List.take_of_length_le (by have := HNL.out; omega)] at this)
      go_wp2
      exact K1.out _ _ _ _ _ _ _ _ _ _ _ _ _ _ HCH.out HZ.out

def EndsAt (w : World) (g : Nat) (E : List Int) : Prop := w.heap[g]? = some (.cells (intV E).toArray 3 (0, 0))
theorem EndsAt.cell {w : World} {g : Nat} {E : List Int} (h : EndsAt w g E) {k : Nat} {e : Int} (hk : E[k]? = some e) : w.cell? ⟨g, k, none⟩ = some (.int .i64 e) := cell_row h (intV_get hk)
theorem EndsAt.next {w w' : World} {g : Nat} {E : List Int} (h : EndsAt w g E) (hb : Below w.heap.size w w') : EndsAt w' g E := (hb.block g (lt_of_block h)).trans h
/-- So far through. -/
def midS (i e : Int) (sp : List (Int × Int)) (r : Nat) : List (Int × Int) := (sp.take r).map (lastF i e) ++ sp.drop r
theorem midS_get {i e : Int} {sp : List (Int × Int)} {r : Nat} {s : Int × Int} (h : sp[r]? = some s) : (midS i e sp r)[r]? = some s := by
  have hr := (List.getElem?_eq_some_iff.1 h).1
  unfold midS
  rw [List.getElem?_append_right (by simp; omega)]
  simp [Nat.min_eq_left (Nat.le_of_lt hr), h]
theorem midS_next {i e : Int} {sp : List (Int × Int)} {r : Nat} {s : Int × Int} (h : sp[r]? = some s) : midS i e sp (r + 1) = (midS i e sp r).set r (lastF i e s) := by
  have hr := (List.getElem?_eq_some_iff.1 h).1
  unfold midS
  rw [List.set_append_right _ _ (by simp; omega), List.take_add_one, h]
  have hd : sp.drop r = s :: sp.drop (r + 1) := by rw [List.drop_eq_getElem_cons hr, (List.getElem?_eq_some_iff.1 h).2]
  rw [hd]
  simp [Nat.min_eq_left (Nat.le_of_lt hr)]
theorem midS_same {i e : Int} {sp : List (Int × Int)} {r : Nat} {s : Int × Int} (h : sp[r]? = some s) (hl : lasts i e s = false) : midS i e sp (r + 1) = midS i e sp r := by
  rw [midS_next h, last_same hl]
  have h1 := midS_get (i := i) (e := e) h
  obtain ⟨h2, h3⟩ := List.getElem?_eq_some_iff.1 h1
  rw [← h3, List.set_getElem_self]
theorem any_step {i e : Int} {sp : List (Int × Int)} {r : Nat} {s : Int × Int} (h : sp[r]? = some s) (b : Bool) : (b || (sp.take (r + 1)).any (lasts i e)) = ((b || (sp.take r).any (lasts i e)) || lasts i e s) := by
  rw [List.take_add_one, h, List.any_append]
  simp [Bool.or_assoc]

set_option maxRecDepth 100000 in
set_option maxHeartbeats 4000000 in
theorem spans_l8 {gs ge n ne k : Nat} {e : Int} {b : Bool} {sp : List (Int × Int)} {E : List Int} (w : World) (Q : Exit → Act → World → Prop) {u0 u1 u2 u5 u6 u7 u8 u9 u12 u13 u14 u15 u16 u17 u18 u19 u20 u21 u22 u23 u24 u25 u26 u27 u28 u29 u30 u31 u32 u33 u34 u35 u36 u37 u38 u39 u40 u41 u42 u43 u44 u45 u46 u47 u48 u49 u50 u51 u52 u53 u54 u55 u56 u57 u58 u59 u60 u61 u62 u63 u64 u65 u66 u67 u68 u69 u70 u71 u72 u73 u74 u75 u76 u77 u78 u79 u80 u81 u82 u83 u86 u87 u88 u89 u90 u91 u92 u93 u94 u95 u96 u97 u98 u99 u100 u101 u102 u103 u104 u105 u106 u107 u108 u109 u110 u111 u112 u113 u114 u115 u116 u117 u118 u119 u120 u121 u122 u123 u124 u125 u126 u127 u128 u129 u130 u131 : Value} (hg : SpansAt w gs sp) (hn : sp.length = n) (hE : EndsAt w ge E) (hk : E[k]? = some e) (hne : k < ne) (hgg : gs ≠ ge) (hn3 : n ≤ 1000)
    (k1 : ∀ (v13 v14 v85 v86 v87 v88 v89 v90 v91 v92 v93 v94 v95 v96 v97 v98 v99 v100 v101 v102 v103 v104 v105 v106 v107 v108 v109 v110 v111 v112 v113 v114 v115 v116 v117 v118 v119 v120 v121 v122 v123 v124 v125 v126 v127 v128 v129 : Value) (w' : World), Chg (fun k => k = gs) w w' → SpansAt w' gs (sp.map (lastF k e)) → Q (.exit 8) ⟨#[u0, u1, u2, .slice (some ⟨gs, 0, none⟩) n n, .slice (some ⟨ge, 0, none⟩) ne ne, u5, u6, u7, u8, u9, .bool (b || sp.any (lasts k e)), .int .i64 (k : Nat), u12, v13, v14, u15, u16, u17, u18, u19, u20, u21, u22, u23, u24, u25, u26, u27, u28, u29, u30, u31, u32, u33, u34, u35, u36, u37, u38, u39, u40, u41, u42, u43, u44, u45, u46, u47, u48, u49, u50, u51, u52, u53, u54, u55, u56, u57, u58, u59, u60, u61, u62, u63, u64, u65, u66, u67, u68, u69, u70, u71, u72, u73, u74, u75, u76, u77, u78, u79, u80, u81, u82, u83, .int .i64 (n : Nat), v85, v86, v87, v88, v89, v90, v91, v92, v93, v94, v95, v96, v97, v98, v99, v100, v101, v102, v103, v104, v105, v106, v107, v108, v109, v110, v111, v112, v113, v114, v115, v116, v117, v118, v119, v120, v121, v122, v123, v124, v125, v126, v127, v128, v129, u130, u131], []⟩ w') : (partL Tryd.f32 8).wp Tryd.prog Q ⟨#[u0, u1, u2, .slice (some ⟨gs, 0, none⟩) n n, .slice (some ⟨ge, 0, none⟩) ne ne, u5, u6, u7, u8, u9, .bool b, .int .i64 (k : Nat), u12, u13, u14, u15, u16, u17, u18, u19, u20, u21, u22, u23, u24, u25, u26, u27, u28, u29, u30, u31, u32, u33, u34, u35, u36, u37, u38, u39, u40, u41, u42, u43, u44, u45, u46, u47, u48, u49, u50, u51, u52, u53, u54, u55, u56, u57, u58, u59, u60, u61, u62, u63, u64, u65, u66, u67, u68, u69, u70, u71, u72, u73, u74, u75, u76, u77, u78, u79, u80, u81, u82, u83, .int .i64 (n : Nat), .int .i64 0, u86, u87, u88, u89, u90, u91, u92, u93, u94, u95, u96, u97, u98, u99, u100, u101, u102, u103, u104, u105, u106, u107, u108, u109, u110, u111, u112, u113, u114, u115, u116, u117, u118, u119, u120, u121, u122, u123, u124, u125, u126, u127, u128, u129, u130, u131], []⟩ w := by
  have HG := Lib.hid hg
  have HN := Lib.hid hn
  have HE0 := Lib.hid hE
  have HE := Lib.hid hk
  have HGG := Lib.hid (And.intro hgg (lt_of_block hE))
  have K1 := Lib.hid k1
  have j0 : (0 : Int) ≤ (k : Int) := by omega
  have j1 : (k : Int) < (ne : Int) := by omega
  clear hg hn hE hk hgg k1
  conv => arg 2; whnf
  go_wp2
  go_loopw [10, 85] (fun bv j wr => ∃ r : Nat, r ≤ n ∧ j = .int .i64 r ∧ bv = .bool (b || (sp.take r).any (lasts k e)) ∧ Chg (fun k => k = gs) w wr ∧ SpansAt wr gs (midS k e sp r)) (fun _ j _ => n - (intOf j).toNat)
  case atStart => exact ⟨0, by omega, rfl, by simp, Chg.refl _ _, by simpa [midS] using HG.out⟩
  case round =>
    obtain ⟨r, hr, rfl, rfl, hch, hca⟩ := hrel
    have HCH := Lib.hid hch
    have HCA := Lib.hid hca
    have HEW := Lib.hid (show EndsAt wr ge E from (hch.block ge HGG.out.2 (fun e => HGG.out.1 e.symm)).trans HE0.out)
    clear hch hca
    by_cases hlt : r < n
    · obtain ⟨s, hs⟩ : ∃ s, sp[r]? = some s := ⟨_, List.getElem?_eq_getElem (by have := HN.out; omega)⟩
      have HSR := Lib.hid hs
      have HMG := Lib.hid (midS_get (i := k) (e := e) hs)
      obtain ⟨a, ha⟩ : ∃ a, s.1 = a := ⟨_, rfl⟩
      obtain ⟨q, hq⟩ : ∃ a, s.2 = a := ⟨_, rfl⟩
      have HAB := Lib.hid (And.intro ha hq)
      have hlv := live_any s wr.drew
      rw [ha, hq] at hlv
      have HLV := Lib.hid hlv
      clear hlv
      obtain ⟨bb, hbb⟩ : ∃ x, (b || (sp.take r).any (lasts k e)) = x := ⟨_, rfl⟩
      have HBB := Lib.hid hbb
      rw [hbb]
      have i0 : (0 : Int) ≤ (r : Int) := by omega
      have i1 : (r : Int) < (n : Int) := by omega
      clear hs ha hq hbb
      go_upto_region 27 with fail
      cases d0 : decide ((0 : Int) ≤ a)
      · have HL := Lib.hid (show lasts k e s = false by unfold lasts; rw [HAB.out.1, HAB.out.2, d0]; rfl)
        (refine wp_region_lines (fun w_ => SpansAt w_ gs (midS k e sp r) ∧ EndsAt w_ ge E) (by kernel_rfl) (by kernel_rfl) ⟨HCA.out, HEW.out⟩ ?_)
        (try simp only [])
        repeat (first | (refine runL_no (by rfl) ?_; (try simp only [Act.put, List.setIfInBounds_toArray, List.set_cons_zero, List.set_cons_succ])) | (refine runL_val (v := ?_) (by rfl) ?_ ?_; rotate_left; (focus (intro w_ hw_; have c0_ := (hw_.1.cells HMG.out).1; have c1_ := (hw_.1.cells HMG.out).2; have ce_ := hw_.2.cell HE.out; rw [HAB.out.1] at c0_; rw [HAB.out.2] at c1_; go_simp; (try with_reducible rfl); done)); (try simp only [Act.put, List.setIfInBounds_toArray, List.set_cons_zero, List.set_cons_succ])) | (refine runL_call (f := ?_) (args := ?_) (w1 := ?_) (by rfl) (by rfl) ?_ ?_; rotate_left 3; (focus (go_simp; refine ⟨⟨?_, ?_⟩, ?_⟩ <;> with_reducible rfl)); (with_reducible refine (HLV.out).mono ?_); rintro e w1 ⟨rfl, hb⟩; rw [d0]; have HB := Lib.hid ((Below.refl wr.heap.size wr).drew.trans hb); clear hb; refine ⟨_, rfl, .inr (by exact ⟨HCA.out.next HB.out, HEW.out.next HB.out⟩), ?_⟩; (try simp only [Act.put, List.setIfInBounds_toArray, List.set_cons_zero, List.set_cons_succ])))
        (refine runL_nil ?_)
        clear d0
        go_wp2
        go_roundw
        case rel => exact ⟨r + 1, by omega, by go_num, by rw [any_step HSR.out, HL.out, Bool.or_false, HBB.out], HCH.out.trans (Chg.of_below HB.out), by rw [midS_same HSR.out HL.out]; exact HCA.out.next HB.out⟩
        case measure => simp [intOf]; omega
      cases d1 : decide (a < (k : Int))
      · have HL := Lib.hid (show lasts k e s = false by unfold lasts; rw [HAB.out.1, HAB.out.2, d0, d1]; rfl)
        (refine wp_region_lines (fun w_ => SpansAt w_ gs (midS k e sp r) ∧ EndsAt w_ ge E) (by kernel_rfl) (by kernel_rfl) ⟨HCA.out, HEW.out⟩ ?_)
        (try simp only [])
        repeat (first | (refine runL_no (by rfl) ?_; (try simp only [Act.put, List.setIfInBounds_toArray, List.set_cons_zero, List.set_cons_succ])) | (refine runL_val (v := ?_) (by rfl) ?_ ?_; rotate_left; (focus (intro w_ hw_; have c0_ := (hw_.1.cells HMG.out).1; have c1_ := (hw_.1.cells HMG.out).2; have ce_ := hw_.2.cell HE.out; rw [HAB.out.1] at c0_; rw [HAB.out.2] at c1_; go_simp; (try with_reducible rfl); done)); (try simp only [Act.put, List.setIfInBounds_toArray, List.set_cons_zero, List.set_cons_succ])) | (refine runL_call (f := ?_) (args := ?_) (w1 := ?_) (by rfl) (by rfl) ?_ ?_; rotate_left 3; (focus (go_simp; refine ⟨⟨?_, ?_⟩, ?_⟩ <;> with_reducible rfl)); (with_reducible refine (HLV.out).mono ?_); rintro e w1 ⟨rfl, hb⟩; rw [d0]; have HB := Lib.hid ((Below.refl wr.heap.size wr).drew.trans hb); clear hb; refine ⟨_, rfl, .inr (by exact ⟨HCA.out.next HB.out, HEW.out.next HB.out⟩), ?_⟩; (try simp only [Act.put, List.setIfInBounds_toArray, List.set_cons_zero, List.set_cons_succ])))
        (refine runL_nil ?_)
        clear d0 d1
        go_wp2
        go_roundw
        case rel => exact ⟨r + 1, by omega, by go_num, by rw [any_step HSR.out, HL.out, Bool.or_false, HBB.out], HCH.out.trans (Chg.of_below HB.out), by rw [midS_same HSR.out HL.out]; exact HCA.out.next HB.out⟩
        case measure => simp [intOf]; omega
      cases d2 : decide ((k : Int) ≤ q)
      · have HL := Lib.hid (show lasts k e s = false by unfold lasts; rw [HAB.out.1, HAB.out.2, d0, d1, d2]; rfl)
        (refine wp_region_lines (fun w_ => SpansAt w_ gs (midS k e sp r) ∧ EndsAt w_ ge E) (by kernel_rfl) (by kernel_rfl) ⟨HCA.out, HEW.out⟩ ?_)
        (try simp only [])
        repeat (first | (refine runL_no (by rfl) ?_; (try simp only [Act.put, List.setIfInBounds_toArray, List.set_cons_zero, List.set_cons_succ])) | (refine runL_val (v := ?_) (by rfl) ?_ ?_; rotate_left; (focus (intro w_ hw_; have c0_ := (hw_.1.cells HMG.out).1; have c1_ := (hw_.1.cells HMG.out).2; have ce_ := hw_.2.cell HE.out; rw [HAB.out.1] at c0_; rw [HAB.out.2] at c1_; go_simp; (try with_reducible rfl); done)); (try simp only [Act.put, List.setIfInBounds_toArray, List.set_cons_zero, List.set_cons_succ])) | (refine runL_call (f := ?_) (args := ?_) (w1 := ?_) (by rfl) (by rfl) ?_ ?_; rotate_left 3; (focus (go_simp; refine ⟨⟨?_, ?_⟩, ?_⟩ <;> with_reducible rfl)); (with_reducible refine (HLV.out).mono ?_); rintro e w1 ⟨rfl, hb⟩; rw [d0]; have HB := Lib.hid ((Below.refl wr.heap.size wr).drew.trans hb); clear hb; refine ⟨_, rfl, .inr (by exact ⟨HCA.out.next HB.out, HEW.out.next HB.out⟩), ?_⟩; (try simp only [Act.put, List.setIfInBounds_toArray, List.set_cons_zero, List.set_cons_succ])))
        (refine runL_nil ?_)
        clear d0 d1 d2
        go_wp2
        go_roundw
        case rel => exact ⟨r + 1, by omega, by go_num, by rw [any_step HSR.out, HL.out, Bool.or_false, HBB.out], HCH.out.trans (Chg.of_below HB.out), by rw [midS_same HSR.out HL.out]; exact HCA.out.next HB.out⟩
        case measure => simp [intOf]; omega
      cases d3 : decide (q < e)
      · have HL := Lib.hid (show lasts k e s = false by unfold lasts; rw [HAB.out.1, HAB.out.2, d0, d1, d2, d3]; rfl)
        (refine wp_region_lines (fun w_ => SpansAt w_ gs (midS k e sp r) ∧ EndsAt w_ ge E) (by kernel_rfl) (by kernel_rfl) ⟨HCA.out, HEW.out⟩ ?_)
        (try simp only [])
        repeat (first | (refine runL_no (by rfl) ?_; (try simp only [Act.put, List.setIfInBounds_toArray, List.set_cons_zero, List.set_cons_succ])) | (refine runL_val (v := ?_) (by rfl) ?_ ?_; rotate_left; (focus (intro w_ hw_; have c0_ := (hw_.1.cells HMG.out).1; have c1_ := (hw_.1.cells HMG.out).2; have ce_ := hw_.2.cell HE.out; rw [HAB.out.1] at c0_; rw [HAB.out.2] at c1_; go_simp; (try with_reducible rfl); done)); (try simp only [Act.put, List.setIfInBounds_toArray, List.set_cons_zero, List.set_cons_succ])) | (refine runL_call (f := ?_) (args := ?_) (w1 := ?_) (by rfl) (by rfl) ?_ ?_; rotate_left 3; (focus (go_simp; refine ⟨⟨?_, ?_⟩, ?_⟩ <;> with_reducible rfl)); (with_reducible refine (HLV.out).mono ?_); rintro e w1 ⟨rfl, hb⟩; rw [d0]; have HB := Lib.hid ((Below.refl wr.heap.size wr).drew.trans hb); clear hb; refine ⟨_, rfl, .inr (by exact ⟨HCA.out.next HB.out, HEW.out.next HB.out⟩), ?_⟩; (try simp only [Act.put, List.setIfInBounds_toArray, List.set_cons_zero, List.set_cons_succ])))
        (refine runL_nil ?_)
        clear d0 d1 d2 d3
        go_wp2
        go_roundw
        case rel => exact ⟨r + 1, by omega, by go_num, by rw [any_step HSR.out, HL.out, Bool.or_false, HBB.out], HCH.out.trans (Chg.of_below HB.out), by rw [midS_same HSR.out HL.out]; exact HCA.out.next HB.out⟩
        case measure => simp [intOf]; omega
      have HL := Lib.hid (show lasts k e s = true by unfold lasts; rw [HAB.out.1, HAB.out.2, d0, d1, d2, d3]; rfl)
      (refine wp_region_lines (fun w_ => SpansAt w_ gs (midS k e sp r) ∧ EndsAt w_ ge E) (by kernel_rfl) (by kernel_rfl) ⟨HCA.out, HEW.out⟩ ?_)
      (try simp only [])
      repeat (first | (refine runL_no (by rfl) ?_; (try simp only [Act.put, List.setIfInBounds_toArray, List.set_cons_zero, List.set_cons_succ])) | (refine runL_val (v := ?_) (by rfl) ?_ ?_; rotate_left; (focus (intro w_ hw_; have c0_ := (hw_.1.cells HMG.out).1; have c1_ := (hw_.1.cells HMG.out).2; have ce_ := hw_.2.cell HE.out; rw [HAB.out.1] at c0_; rw [HAB.out.2] at c1_; go_simp; (try with_reducible rfl); done)); (try simp only [Act.put, List.setIfInBounds_toArray, List.set_cons_zero, List.set_cons_succ])) | (refine runL_call (f := ?_) (args := ?_) (w1 := ?_) (by rfl) (by rfl) ?_ ?_; rotate_left 3; (focus (go_simp; refine ⟨⟨?_, ?_⟩, ?_⟩ <;> with_reducible rfl)); (with_reducible refine (HLV.out).mono ?_); rintro e w1 ⟨rfl, hb⟩; rw [d0]; have HB := Lib.hid ((Below.refl wr.heap.size wr).drew.trans hb); clear hb; refine ⟨_, rfl, .inr (by exact ⟨HCA.out.next HB.out, HEW.out.next HB.out⟩), ?_⟩; (try simp only [Act.put, List.setIfInBounds_toArray, List.set_cons_zero, List.set_cons_succ])))
      (refine runL_nil ?_)
      clear d0 d1 d2 d3
      have HCA2 := Lib.hid (HCA.out.next HB.out)
      have HEW2 := Lib.hid (HEW.out.next HB.out)
      have hS := setCell_row HCA2.out (r * 2 + 1) (.int .i64 e)
      rw [spV_set2 HMG.out, show (s.1, e) = lastF k e s by unfold lastF; rw [HL.out]; rfl, ← midS_next HSR.out] at hS
      have HS := Lib.hid hS
      have HC2 := Lib.hid (HCA2.out.cells HMG.out).2
      have HF2 := Lib.hid (frozen_row HCA2.out (r * 2 + 1))
      clear hS
      go_upto_region 28 with fail
      (refine wp_region_lines (fun w_ => EndsAt w_ ge E) (by kernel_rfl) (by kernel_rfl) HEW2.out ?_)
      (try simp only [])
      repeat (first | (refine runL_no (by rfl) ?_; (try simp only [Act.put, List.setIfInBounds_toArray, List.set_cons_zero, List.set_cons_succ])) | (refine runL_val (v := ?_) (by rfl) ?_ ?_; rotate_left; (focus (intro w_ hw_; have ce_ := hw_.cell HE.out; go_simp; (try with_reducible rfl); done)); (try simp only [Act.put, List.setIfInBounds_toArray, List.set_cons_zero, List.set_cons_succ])) | (refine runL_skip (w1 := w1.drew.setCell ⟨gs, r * 2 + 1, none⟩ (.int .i64 e)) (by rfl) (by rfl) (exec_store1 3 _ _ rfl gs (r * 2 + 1) _ rfl rfl (by kernel_rfl) (by show (World.cell? w1 _).isSome = true; rw [HC2.out]; rfl) HF2.out rfl) (.inr (by exact (show (w1.setCell ⟨gs, r * 2 + 1, none⟩ (.int .i64 e)).heap[ge]? = _ from (Below.heap_setCell _ _ _ _ (fun e => HGG.out.1 e.symm)).trans HEW2.out))) ?_; (try simp only [Act.put])))
      (refine runL_nil ?_)
      go_wp2
      go_roundw
      case rel => exact ⟨r + 1, by omega, by go_num, by rw [any_step HSR.out, HL.out, Bool.or_true], (HCH.out.trans (Chg.of_below HB.out)).drew.setCell (.inl rfl) _, HS.out⟩
      case measure => simp [intOf]; omega
    · have hrn : r = n := by omega
      have HZ := Lib.hid (show SpansAt wr gs (sp.map (lastF k e)) by have := HCA.out; unfold midS at this; rwa [List.take_of_length_le (by have := HN.out; omega), List.drop_of_length_le (by have := HN.out; omega), List.append_nil] at this)
      have HY := Lib.hid (show (b || (sp.take r).any (lasts k e)) = (b || sp.any (lasts k e)) by rw [List.take_of_length_le (by have := HN.out; omega)])
      rw [HY.out]
      clear hrn
      go_wp2
      exact K1.out _ _ _ _ _ _ _ _ _ _ _ _ _ _ _ _ _ _ _ _ _ _ _ _ _ _ _ _ _ _ _ _ _ _ _ _ _ _ _ _ _ _ _ _ _ _ _ _ HCH.out HZ.out

end Go.Proofs.YtppoiahhaclleaaDoor
