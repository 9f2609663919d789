/- alloc.spans: each register's span. -/
import Derived.Test.YtppoiahhaclleaaDoorAllocB
import Derived.Deep.LoopGhost
namespace Go.Proofs.YtppoiahhaclleaaDoor
open Go.RowKit

theorem check_fields {p : LP} {n k : Nat} {o : LOp} (h : (checkF p n).2 = 0) (ho : p.ops[k]? = some o) : fieldsF p o = true := by
  obtain ⟨_, h2, _⟩ := check_run h
  have hk := (List.getElem?_eq_some_iff.1 ho).1
  have h0 := run_err (Nat.le_of_lt hk) h2
  have h1 := run_err (Nat.succ_le_of_lt hk) h2
  rw [run_next h0 ho] at h1
  cases hf : fieldsF p o
  · rw [if_pos (by unfold opF; rw [if_pos hf]; show (2 : Int) ≠ 0; decide)] at h1
    have : (opF p o (runTo p n k).2.2).1 = 2 := by unfold opF; rw [if_pos hf]
    rw [this] at h1
    cases h1
  · rfl
theorem spV_rep (n : Nat) : repV [.int .i64 (-1), .int .i64 (-1)] n = spV (List.replicate n (-1, -1)) := by
  unfold repV spV
  rw [List.map_replicate]
theorem notes_next {p : LP} {E : List Int} {k : Nat} {o : LOp} (h : p.ops[k]? = some o) : notesTo p E (k + 1) = (regsOf p.ops E o k).foldl (fun sp r => noteR sp r k) (notesTo p E k) := by
  simp only [notesTo, h, noteOp]
theorem after_append {W1 w2 : World} {bp ge g off no co k m gl : Nat} {d : Int} (h : W1.cell? ⟨bp, 2, none⟩ = some (.slice (some ⟨g, off, none⟩) no co) ∧ W1.cell? ⟨ge, k, none⟩ = some (.int .i64 (m : Nat)) ∧ W1.cell? ⟨g, off + m * 8 + 1, none⟩ = some (.int .i64 d))
    (hg : W1.grownBy w2 (Value.slice (some ⟨gl, 0, none⟩) 5 5).ownBlock) (hlt : g < W1.heap.size ∧ ge < W1.heap.size ∧ bp < W1.heap.size) (hne : bp ≠ gl ∧ ge ≠ gl ∧ g ≠ gl) :
    w2.cell? ⟨bp, 2, none⟩ = some (.slice (some ⟨g, off, none⟩) no co) ∧ w2.cell? ⟨ge, k, none⟩ = some (.int .i64 (m : Nat)) ∧ w2.cell? ⟨g, off + m * 8 + 1, none⟩ = some (.int .i64 d) :=
  ⟨(World.cell?_of_block (w := W1) (a := ⟨bp, 2, none⟩) (hg.block bp hlt.2.2 (fun e => hne.1 (Option.some.inj e)))).trans h.1, (World.cell?_of_block (w := W1) (a := ⟨ge, k, none⟩) (hg.block ge hlt.2.1 (fun e => hne.2.1 (Option.some.inj e)))).trans h.2.1,
    (World.cell?_of_block (w := W1) (a := ⟨g, off + m * 8 + 1, none⟩) (hg.block g hlt.1 (fun e => hne.2.2 (Option.some.inj e)))).trans h.2.2⟩
theorem regs_lt {p : LP} {o : LOp} (h : fieldsF p o = true) : ∀ r ∈ [o.a, o.b, o.c, o.d, o.e], r < p.regs ∨ r = -1 := by
  obtain ⟨_, _, hr⟩ := regs_is h
  obtain ⟨hd, he, ha, hb, hc⟩ := hr
  intro r hm
  simp only [List.mem_cons, List.not_mem_nil, or_false] at hm
  rcases hm with rfl | rfl | rfl | rfl | rfl
  · split at ha
    · rcases ha with ha | ha
      · exact .inl ha.2
      · exact .inr ha.2
    · exact .inr ha
  · split at hb; exact .inl hb.2; exact .inr hb
  · split at hc; exact .inl hc.2; exact .inr hc
  · split at hd; exact .inl hd.2; exact .inr hd
  · split at he; exact .inl he.2; exact .inr he

set_option maxRecDepth 100000 in
set_option maxHeartbeats 4000000 in
theorem spans_r8 {bp ge gl no co k m g off : Nat} {d : Int} {l : List Int} (w : World) (Q : Exit → Act → World → Prop) {u0 u2 u3 u6 u8 u9 u10 u11 u12 u13 u14 u15 u16 u17 u18 u19 u20 u21 u22 u23 u24 u25 u26 u27 u28 u29 u30 u31 u32 u33 u34 u35 u36 u37 u38 u39 u40 u41 u42 u43 u44 u45 u46 u47 u48 u49 u50 u51 u52 u53 u54 u55 u56 u57 u58 u59 u60 u61 u62 u63 u64 u65 u66 u67 u68 u69 u70 u71 u72 u73 u74 u75 u76 u77 u78 u79 u80 u81 u82 u83 u84 u85 u86 u87 u88 u89 u90 u91 u92 u93 u94 u95 u96 u97 u98 u99 u100 u101 u102 u103 u104 u105 u106 u107 u108 u109 u110 u111 u112 u113 u114 u115 u116 u117 u118 u119 u120 u121 u122 u123 u124 u125 u126 u127 u128 u129 u130 u131 : Value} (c2 : w.cell? ⟨bp, 2, none⟩ = some (.slice (some ⟨g, off, none⟩) no co)) (ce : w.cell? ⟨ge, k, none⟩ = some (.int .i64 (m : Nat))) (cd : w.cell? ⟨g, off + m * 8 + 1, none⟩ = some (.int .i64 d)) (hk : k < no) (hm : m < no) (hg : g < w.heap.size) (hge : ge < w.heap.size) (hbp : bp < w.heap.size) (hl : w.heap[gl]? = some (.cells (intV l).toArray 3 (0, 0))) (hl5 : l.length = 5) (hno : no ≤ 65536) (hne : bp ≠ gl ∧ ge ≠ gl ∧ g ≠ gl)
    (k1 : ∀ (A' : Option Addr) (c' : Nat), ∀ (v44 v45 v46 v47 v48 v49 v50 v51 v52 v53 v54 v55 : Value) (w' : World), Chg (fun j => j = gl) w w' → NumsAt w' (fun j => j = gl ∨ (w.heap.size ≤ j ∧ j < w'.heap.size)) (.slice A' 6 c') (l ++ [d]) → Q (.normal) ⟨#[u0, .pointer (some ⟨bp, 0, none⟩), u2, u3, .slice (some ⟨ge, 0, none⟩) no no, .int .i64 (k : Nat), u6, .slice A' 6 c', u8, u9, u10, u11, u12, u13, u14, u15, u16, u17, u18, u19, u20, u21, u22, u23, u24, u25, u26, u27, u28, u29, u30, u31, u32, u33, u34, u35, u36, u37, u38, u39, u40, u41, u42, u43, v44, v45, v46, v47, v48, v49, v50, v51, v52, v53, v54, v55, u56, u57, u58, u59, u60, u61, u62, u63, u64, u65, u66, u67, u68, u69, u70, u71, u72, u73, u74, u75, u76, u77, u78, u79, u80, u81, u82, u83, u84, u85, u86, u87, u88, u89, u90, u91, u92, u93, u94, u95, u96, u97, u98, u99, u100, u101, u102, u103, u104, u105, u106, u107, u108, u109, u110, u111, u112, u113, u114, u115, u116, u117, u118, u119, u120, u121, u122, u123, u124, u125, u126, u127, u128, u129, u130, u131], []⟩ w') : (partR Tryd.f32 8).wp Tryd.prog Q ⟨#[u0, .pointer (some ⟨bp, 0, none⟩), u2, u3, .slice (some ⟨ge, 0, none⟩) no no, .int .i64 (k : Nat), u6, .slice (some ⟨gl, 0, none⟩) 5 5, u8, u9, u10, u11, u12, u13, u14, u15, u16, u17, u18, u19, u20, u21, u22, u23, u24, u25, u26, u27, u28, u29, u30, u31, u32, u33, u34, u35, u36, u37, u38, u39, u40, u41, u42, u43, u44, u45, u46, u47, u48, u49, u50, u51, u52, u53, u54, u55, u56, u57, u58, u59, u60, u61, u62, u63, u64, u65, u66, u67, u68, u69, u70, u71, u72, u73, u74, u75, u76, u77, u78, u79, u80, u81, u82, u83, u84, u85, u86, u87, u88, u89, u90, u91, u92, u93, u94, u95, u96, u97, u98, u99, u100, u101, u102, u103, u104, u105, u106, u107, u108, u109, u110, u111, u112, u113, u114, u115, u116, u117, u118, u119, u120, u121, u122, u123, u124, u125, u126, u127, u128, u129, u130, u131], []⟩ w := by
  have hown : w.ownsRow gl 3 1 (.slice (some ⟨gl, 0, none⟩) 5 5) 5 (intV l) := ⟨by rw [intV_len, hl5], .inr ⟨gl, 5, _, rfl, Nat.le_refl _, hl, Nat.le_refl _, by decide, by simp [intV_len, hl5], by simp only []; exact List.take_of_length_le (by simp [intV_len, hl5])⟩⟩
  obtain ⟨W1, hW1⟩ : ∃ W, W = (w.alloc (.cells (intV [d]).toArray 3)).drew := ⟨_, rfl⟩
  have hB1 : Below w.heap.size w W1 := by rw [hW1]; exact ((Below.refl _ _).alloc (Nat.le_refl _) _).drew
  have hz1 : W1.heap.size = w.heap.size + 1 := by rw [hW1]; simp
  have hb1 : W1.heap[w.heap.size]? = some (.cells (intV [d]).toArray 3 (0, 0)) := by rw [hW1]; exact heap_alloc_new w _
  have hown1 : W1.ownsRow gl 3 1 (.slice (some ⟨gl, 0, none⟩) 5 5) 5 (intV l) := row_keep (fun g hg => hB1.block g (own_lt hown g hg).1) hown
  have HC := Lib.hid (show w.cell? ⟨bp, 2, none⟩ = some (.slice (some ⟨g, off, none⟩) no co) ∧ w.cell? ⟨ge, k, none⟩ = some (.int .i64 (m : Nat)) ∧ w.cell? ⟨g, off + m * 8 + 1, none⟩ = some (.int .i64 d) from ⟨c2, ce, cd⟩)
  have HS1 := Lib.hid (show W1.cell? ⟨bp, 2, none⟩ = some (.slice (some ⟨g, off, none⟩) no co) ∧ W1.cell? ⟨ge, k, none⟩ = some (.int .i64 (m : Nat)) ∧ W1.cell? ⟨g, off + m * 8 + 1, none⟩ = some (.int .i64 d) from ⟨(hB1.cell (p := ⟨bp, 2, none⟩) hbp).trans c2, (hB1.cell (p := ⟨ge, k, none⟩) hge).trans ce, (hB1.cell (p := ⟨g, off + m * 8 + 1, none⟩) hg).trans cd⟩)
  have HB1 := Lib.hid hB1
  have HW1 := Lib.hid hW1
  have HK := Lib.hid k1
  have HBK := Lib.hid hb1
  have HOWN1 := Lib.hid hown1
  have HOWN := Lib.hid hown
  have HL5 := Lib.hid hl5
  have HGL := Lib.hid (And.intro (lt_of_block hl) hz1)
  have HLT := Lib.hid (And.intro hg (And.intro hge (And.intro hbp hne)))
  have k0 : (0 : Int) ≤ (k : Int) := by omega
  have k2 : (k : Int) < (no : Int) := by omega
  have m0 : (0 : Int) ≤ (m : Int) := by omega
  have m1 : (m : Int) < (no : Int) := by omega
  have k3 : IntKind.i64.wrap (k : Int) = k := by simp [IntKind.wrap, IntKind.bits, IntKind.signed]; omega
  have m3 : IntKind.i64.wrap (m : Int) = m := by simp [IntKind.wrap, IntKind.bits, IntKind.signed]; omega
  clear c2 ce cd hk hm hg hge hbp hne hl hl5 hown hW1 hB1 hz1 hb1 hown1 k1
  conv => arg 2; whnf
  (refine wp_region_lines (fun w_ => w_.cell? ⟨bp, 2, none⟩ = some (.slice (some ⟨g, off, none⟩) no co) ∧ w_.cell? ⟨ge, k, none⟩ = some (.int .i64 (m : Nat)) ∧ w_.cell? ⟨g, off + m * 8 + 1, none⟩ = some (.int .i64 d)) (by kernel_rfl) (by kernel_rfl) HC.out ?_)
  (try simp only [])
  repeat (first | (refine runL_no (by rfl) ?_; (try simp only [Act.put, List.setIfInBounds_toArray, List.set_cons_zero, List.set_cons_succ])) | (refine runL_val (v := ?_) (by rfl) ?_ ?_; rotate_left; (focus (intro w_ hw_; obtain ⟨f1_, f2_, f3_⟩ := hw_; go_simp; (try with_reducible rfl); done)); (try simp only [Act.put, List.setIfInBounds_toArray, List.set_cons_zero, List.set_cons_succ])) | (refine runL_op (v := .slice (some ⟨w.heap.size, 0, none⟩) 1 1) (w1 := W1) (by rfl) (by rfl) (by rw [HW1.out]; exact exec_int1 _ rfl rfl) (.inr (by exact HS1.out)) ?_; (try simp only [Act.put, List.setIfInBounds_toArray, List.set_cons_zero, List.set_cons_succ])) | (refine runL_append1 (by rfl) (by rfl) _ _ rfl (v := .slice (some ⟨gl, 0, none⟩) 5 5) rfl HL5.out HOWN1.out rfl HBK.out (by decide) (by have := HGL.out; omega) ?_; intro v2 w2 ho2 hg2 hb2; have HO2 := Lib.hid ho2; have HG2 := Lib.hid hg2; have HWH := Lib.hid hb2; clear ho2 hg2 hb2; have HS2 := Lib.hid (after_append HS1.out HG2.out (by have := HLT.out; have := HGL.out; omega) HLT.out.2.2.2); refine ⟨by exact HS2.out, ?_⟩; (try simp only [Act.put, List.setIfInBounds_toArray, List.set_cons_zero, List.set_cons_succ])))
  (refine runL_nil ?_)
  obtain ⟨A2, c2, rfl⟩ := own_form HO2.out
  have hl6 : (l ++ [d]).length = 6 := by simp [HL5.out]
  have hnum := nums_own (l := l ++ [d]) (base := gl) (w := w2) (v := .slice A2 6 c2) (by rw [hl6]; exact HO2.out)
  refine HK.out A2 c2 _ _ _ _ _ _ _ _ _ _ _ _ _ ((Chg.of_below HB1.out).trans' (F := fun j => j = gl) (G := fun j => j = gl) ⟨HG2.out.os, HG2.out.tape, HG2.out.output, HG2.out.size, fun k hk hF => HG2.out.block k hk (fun e => hF (Option.some.inj e))⟩ (fun _ _ h => h)) (hnum.mono fun j hj => ?_)
  rcases HWH.out with h | h
  · rw [h] at hj; exact .inl (Option.some.inj hj).symm
  · have := (own_lt HO2.out j hj).1
    rw [h] at hj
    have := Option.some.inj hj
    exact .inr ⟨by have := HGL.out; omega, by omega⟩


set_option maxRecDepth 100000 in
set_option maxHeartbeats 8000000 in
theorem spans_any (p : LP) (Ab Ao : Option Addr) (nb cb no co n : Nat) (w : World) (hp : ProgAt w (fun k => k < w.heap.size) [.int .i64 p.regs, .slice Ab nb cb, .slice Ao no co] p) (h0 : (checkF p 64).2 = 0) (hn : p.regs = n) :
    Calls Tryd.prog 32 #[.agg #[.int .i64 p.regs, .slice Ab nb cb, .slice Ao no co]] w fun e w' => ∃ g, e = .returned (.slice (some ⟨g, 0, none⟩) n n) ∧ w.heap.size ≤ g ∧ SpansAt w' g (spansF p) ∧ Below w.heap.size w w' := by
  obtain ⟨W, hW, hbW, hzW, hl_, hr_⟩ := boxed w #[.int .i64 p.regs, .slice Ab nb cb, .slice Ao no co] 25
  have c0 : W.cell? ⟨w.heap.size, 0, none⟩ = some (.int .i64 p.regs) := by rw [hl_]; rfl
  have c1 : W.cell? ⟨w.heap.size, 1, none⟩ = some (.slice Ab nb cb) := by rw [hl_]; rfl
  have c2 : W.cell? ⟨w.heap.size, 2, none⟩ = some (.slice Ao no co) := by rw [hl_]; rfl
  have hp1 := prog_next hp hbW
  have hOps : OpsAt w (fun k => k < w.heap.size) (.slice Ao no co) p.ops := by
    obtain ⟨vb, vo, h, h1, h2⟩ := hp.row
    simp only [List.cons.injEq] at h
    rw [h.2.2.1]; exact h2
  have hno : p.ops.length = no := by obtain ⟨A, c, hv, _⟩ := rows_form hOps; cases hv; rfl
  have hhd := head_ok (check_run h0).1
  have hno6 : no ≤ 65536 := by omega
  have hn64 : n ≤ 64 := by omega
  obtain ⟨W1, hW1⟩ : ∃ q, q = W.alloc (.cells #[.int .i64 (-1), .int .i64 (-1)] 68) := ⟨_, rfl⟩
  have hb1 : Below W.heap.size W W1 := by rw [hW1]; exact (Below.refl _ _).alloc (Nat.le_refl _) _
  have hz1 : W1.heap.size = W.heap.size + 1 := by rw [hW1]; simp
  have hn1 : W1.heap[W.heap.size]? = some (.cells [Value.int .i64 (-1), .int .i64 (-1)].toArray 68 (0, 0)) := by rw [hW1]; exact heap_alloc_new W _
  have hrep := Repeat_Span [.int .i64 (-1), .int .i64 (-1)] rfl (by simp [Value.oneCell']) W.heap.size 0 1 n (by omega) W1 (by omega) (fun j v hv => by rw [Nat.zero_add]; exact cell_row hn1 hv)
  obtain ⟨gs, hgs⟩ : ∃ g, W1.heap.size = g := ⟨_, rfl⟩
  rw [hgs, spV_rep, hW1] at hrep
  have HREP := Lib.hid hrep
  have HENDS := Lib.hid (fun wr (hb : Below W.heap.size W wr) => Ends_any p Ab Ao nb cb no co wr (prog_next hp1 hb) h0)
  have HW := Lib.hid hW
  have HB := Lib.hid hbW
  have HOPS := Lib.hid hOps
  have HNO := Lib.hid hno
  have HBAL := Lib.hid (check_bal h0)
  have HB1 := Lib.hid hb1
  have HW1 := Lib.hid hW1
  have HN := Lib.hid hn
  have HCF := Lib.hid (fun (k : Nat) (o : LOp) (ho : p.ops[k]? = some o) => check_fields h0 ho)
  have hlt0 : w.heap.size < W.heap.size := by omega
  have HLT := Lib.hid (show w.heap.size < W.heap.size ∧ W.heap.size < gs by omega)
  rw [hn] at c0
  clear hW hbW hzW hl_ hr_ hp hp1 hOps hno hhd hW1 hb1 hz1 hn1 hrep h0 hgs
  rw [hn]
  clear hn
  go_enter Tryd.func32, Tryd.ntmps32
  go_upto_region 1 with fail
  (first | rw [← HW.out] | rw [← HN.out, ← HW.out])
  go_upto_region 2 with ((with_reducible refine (HREP.out).mono ?_); rintro e w1 ⟨rfl, hgb, hb2⟩)
  have hbw1 : Below W.heap.size W w1 := by
    have h := HB1.out
    rw [HW1.out] at h
    exact h.trans (hb2.mono (by have := HLT.out; omega))
  have HE := HENDS.out w1 hbw1
  rw [HNO.out] at HE
  have HE := Lib.hid HE
  have e0 : w1.cell? ⟨w.heap.size, 0, none⟩ = some (.int .i64 p.regs) := by rw [HN.out]; exact (hbw1.cell (p := ⟨w.heap.size, 0, none⟩) hlt0).trans c0
  have e1 := (hbw1.cell (p := ⟨w.heap.size, 1, none⟩) hlt0).trans c1
  have e2 := (hbw1.cell (p := ⟨w.heap.size, 2, none⟩) hlt0).trans c2
  have HBW1 := Lib.hid hbw1
  have HSP0 := Lib.hid (show SpansAt w1 gs (notesTo p (endsF p.ops) 0) by
    have : notesTo p (endsF p.ops) 0 = List.replicate n (-1, -1) := by
      show List.replicate p.regs.toNat (-1, -1) = _
      rw [HN.out]; rfl
    rw [this]; exact hgb)
  have E2 := Lib.hid e2
  clear c0 c1 c2 hgb hb2 hbw1
  go_upto_region 3 with ((with_reducible refine (HE.out).mono ?_); rintro e w2 ⟨ge, rfl, hge, hge2, hb3⟩)
  have f2 := (hb3.cell (p := ⟨w.heap.size, 2, none⟩) (Nat.lt_of_lt_of_le hlt0 HBW1.out.size)).trans E2.out
  have HF2 := Lib.hid f2
  have HEN := Lib.hid (show EndsAt w2 ge (endsF p.ops) from hge2)
  have HSP := Lib.hid (HSP0.out.next hb3)
  have HBW2 := Lib.hid (show Below w.heap.size w w2 from HB.out.trans ((HBW1.out.trans (hb3.mono HBW1.out.size)).mono HB.out.size))
  have HEL := Lib.hid (show (endsF p.ops).length = no by rw [ends_len HBAL.out, HNO.out])
  have HGE := Lib.hid (show gs < ge from Nat.lt_of_lt_of_le (lt_of_block HSP0.out) hge)
  have HGEL := Lib.hid (show ge < w2.heap.size from lt_of_block hge2)
  clear e0 e1 e2 hge hge2 hb3
  go_wp2
  go_loopw [25] (fun i wr => ∃ k : Nat, k ≤ no ∧ i = .int .i64 k ∧ SpansAt wr gs (notesTo p (endsF p.ops) k) ∧ EndsAt wr ge (endsF p.ops) ∧ wr.cell? ⟨w.heap.size, 2, none⟩ = some (.slice Ao no co) ∧ Below w.heap.size w wr) (fun i _ => no - (intOf i).toNat)
  case atStart => exact ⟨0, by omega, rfl, HSP.out, HEN.out, HF2.out, HBW2.out⟩
  case round =>
    obtain ⟨k, hk, rfl, hsp, hen, hf2, hbl⟩ := hrel
    have HS := Lib.hid hsp
    have HE2 := Lib.hid hen
    have HBL := Lib.hid hbl
    have HF := Lib.hid hf2
    clear f2 hsp hen hbl
    by_cases hlt : k < no
    · obtain ⟨o, ho⟩ : ∃ o, p.ops[k]? = some o := ⟨_, List.getElem?_eq_getElem (by rw [HNO.out]; omega)⟩
      obtain ⟨g, off, hA, hFg, x0, x1, x2, x3, x4, x5, x6, x7⟩ := HOPS.out.at_ ho
      subst hA
      have y0 := (HBL.out.cell (p := ⟨g, off + k * 8, none⟩) hFg).trans x0
      have y1 := (HBL.out.cell (p := ⟨g, off + k * 8 + 1, none⟩) hFg).trans x1
      have y2 := (HBL.out.cell (p := ⟨g, off + k * 8 + 2, none⟩) hFg).trans x2
      have y3 := (HBL.out.cell (p := ⟨g, off + k * 8 + 3, none⟩) hFg).trans x3
      have y4 := (HBL.out.cell (p := ⟨g, off + k * 8 + 4, none⟩) hFg).trans x4
      have y5 := (HBL.out.cell (p := ⟨g, off + k * 8 + 5, none⟩) hFg).trans x5
      have y6 := (HBL.out.cell (p := ⟨g, off + k * 8 + 6, none⟩) hFg).trans x6
      have y7 := (HBL.out.cell (p := ⟨g, off + k * 8 + 7, none⟩) hFg).trans x7
      have HNX := Lib.hid (notes_next (E := endsF p.ops) ho)
      have HO := Lib.hid ho
      have i0 : (0 : Int) ≤ (k : Int) := by omega
      have i1 : (k : Int) < (no : Int) := by omega
      obtain ⟨kd, hkd⟩ : ∃ q, o.kind = q := ⟨_, rfl⟩
      have HKD := Lib.hid hkd
      rw [hkd] at y0
      have HREG := Lib.hid (regs_lt (HCF.out k o ho))
      obtain ⟨W5, hW5⟩ : ∃ q, q = wr.alloc (.cells #[.int .i64 kd, .int .i64 o.d, .int .i64 o.e, .int .i64 o.a, .int .i64 o.b, .int .i64 o.c, .int .i64 o.buf, .int .u64 o.imm] 47) := ⟨_, rfl⟩
      obtain ⟨W6, hW6⟩ : ∃ q, q = W5.alloc (.cells (intV [o.a, o.b, o.c, o.d, o.e]).toArray 3) := ⟨_, rfl⟩
      have hb5 : Below wr.heap.size wr W5 := by rw [hW5]; exact (Below.refl _ _).alloc (Nat.le_refl _) _
      have hb6 : Below W5.heap.size W5 W6 := by rw [hW6]; exact (Below.refl _ _).alloc (Nat.le_refl _) _
      have hz5 : W5.heap.size = wr.heap.size + 1 := by rw [hW5]; simp
      have hl6 : W6.heap[W5.heap.size]? = some (.cells (intV [o.a, o.b, o.c, o.d, o.e]).toArray 3 (0, 0)) := by rw [hW6]; exact heap_alloc_new W5 _
      have hO5 : W5.heap[wr.heap.size]? = some (.cells #[.int .i64 kd, .int .i64 o.d, .int .i64 o.e, .int .i64 o.a, .int .i64 o.b, .int .i64 o.c, .int .i64 o.buf, .int .u64 o.imm] 47 (0, 0)) := by rw [hW5]; exact heap_alloc_new wr _
      have h50 : W5.cell? ⟨wr.heap.size, 0, none⟩ = some (.int .i64 kd) := by simp only [World.cell?, hO5]; rfl
      have h51 : W5.cell? ⟨wr.heap.size, 1, none⟩ = some (.int .i64 o.d) := by simp only [World.cell?, hO5]; rfl
      have h52 : W5.cell? ⟨wr.heap.size, 2, none⟩ = some (.int .i64 o.e) := by simp only [World.cell?, hO5]; rfl
      have h53 : W5.cell? ⟨wr.heap.size, 3, none⟩ = some (.int .i64 o.a) := by simp only [World.cell?, hO5]; rfl
      have h54 : W5.cell? ⟨wr.heap.size, 4, none⟩ = some (.int .i64 o.b) := by simp only [World.cell?, hO5]; rfl
      have h55 : W5.cell? ⟨wr.heap.size, 5, none⟩ = some (.int .i64 o.c) := by simp only [World.cell?, hO5]; rfl
      have h60 := (hb6.cell (p := ⟨wr.heap.size, 0, none⟩) (by simp only []; omega)).trans h50
      have HB6 := Lib.hid (show Below wr.heap.size wr W6 from hb5.trans (hb6.mono hb5.size))
      have HL6 := Lib.hid hl6
      have HZ5 := Lib.hid (And.intro hz5 (lt_of_block hl6))
      have HH5 := Lib.hid (And.intro h50 (And.intro h51 (And.intro h52 (And.intro h53 (And.intro h54 (And.intro h55 h60))))))
      have HW5 := Lib.hid hW5
      have HW6 := Lib.hid hW6
      clear x0 x1 x2 x3 x4 x5 x6 x7 hFg ho hkd hb5 hb6 hz5 hl6 hO5 h50 h51 h52 h53 h54 h55 h60 hW5 hW6
      go_upto_region 6 with fail
      rw [← HW5.out]
      clear y0 y1 y2 y3 y4 y5 y6 y7
      have h51 := HH5.out.2.1
      have h52 := HH5.out.2.2.1
      have h53 := HH5.out.2.2.2.1
      have h54 := HH5.out.2.2.2.2.1
      have h55 := HH5.out.2.2.2.2.2.1
      go_upto_region 7 with fail
      rw [show W5.alloc (.cells #[.int .i64 o.a, .int .i64 o.b, .int .i64 o.c, .int .i64 o.d, .int .i64 o.e] 3) = W6 from HW6.out.symm]
      clear h51 h52 h53 h54 h55
      have h60 := HH5.out.2.2.2.2.2.2
      have HS6 := Lib.hid (HS.out.next HB6.out)
      have HE6 := Lib.hid (HE2.out.next HB6.out)
      have HBL6 := Lib.hid (HBL.out.trans (HB6.out.mono HBL.out.size))
      have hgsl : gs < wr.heap.size := lt_of_block HS.out
      have hgel : ge < wr.heap.size := lt_of_block HE2.out
      have hbpl : w.heap.size < wr.heap.size := by have := HLT.out; omega
      have HF6 := Lib.hid ((HB6.out.cell (p := ⟨w.heap.size, 2, none⟩) hbpl).trans HF.out)
      have HR5 := Lib.hid (show ∀ r ∈ [o.a, o.b, o.c, o.d, o.e], r < (n : Int) from fun r hr => by have := HREG.out r hr; have := HN.out; omega)
      have HNL := Lib.hid (show (notesTo p (endsF p.ops) k).length = n by rw [notes_len, HN.out]; rfl)
      have HLL := Lib.hid (show w.heap.size < gs ∧ gs < wr.heap.size ∧ ge < wr.heap.size ∧ gs < ge ∧ wr.heap.size ≤ W5.heap.size ∧ W5.heap.size < W6.heap.size from ⟨by have := HLT.out; omega, hgsl, hgel, HGE.out, by have := HZ5.out; omega, HZ5.out.2⟩)
      clear hf2 hgsl hgel hbpl
      by_cases h17 : kd = 17
      · have e17 : (kd == 17) = true := by simpa using h17
        obtain ⟨m, q, hmk, hem, hq, _⟩ := ends_end HBAL.out HO.out (by rw [HKD.out]; exact h17)
        obtain ⟨g', off', hA', hFg', _, z1, _⟩ := HOPS.out.at_ hq
        cases hA'
        have hek : (endsF p.ops)[k]? = some (m : Int) := by
          have h1 : k < (endsF p.ops).length := by rw [HEL.out]; exact hlt
          rw [List.getD_eq_getElem?_getD, List.getElem?_eq_getElem h1] at hem
          rw [List.getElem?_eq_getElem h1]
          exact congrArg some hem
        have HRO := Lib.hid (show regsOf p.ops (endsF p.ops) o k = [o.a, o.b, o.c, o.d, o.e] ++ [q.d] by unfold regsOf; rw [if_pos (by rw [HKD.out]; exact h17), hem, Int.toNat_natCast, hq]; rfl)
        have HRQ := Lib.hid (regs_lt (HCF.out m q hq) q.d (by simp))
        have HQ := Lib.hid (And.intro ((HBL6.out.cell (p := ⟨g, off + m * 8 + 1, none⟩) hFg').trans z1) (HE6.out.cell hek))
        have HGW := Lib.hid (show g < w.heap.size from hFg')
        have HMK := Lib.hid hmk
        clear h17 hem hq hFg' z1 hek hmk
        go_upto_region 8 with fail
        clear h60
        refine wp_code (c := partR Tryd.f32 8) (by kernel_rfl) ?_
        refine spans_r8 (gl := W5.heap.size) (g := g) (off := off) (co := co) (m := m) (d := q.d) (l := [o.a, o.b, o.c, o.d, o.e]) _ _ HF6.out HQ.out.2 HQ.out.1 hlt (by have := HMK.out; omega) (by have := HGW.out; have := HLL.out; omega) (by have := HLL.out; omega) (by have := HLL.out; omega) HL6.out rfl hno6 (by have := HGW.out; have := HLL.out; omega) ?_
        intro A' c' v44 v45 v46 v47 v48 v49 v50 v51 v52 v53 v54 v55 w7 hch7 hnum7
        have HCH7 := Lib.hid hch7
        have HNUM7 := Lib.hid hnum7
        have HS7 := Lib.hid (show SpansAt w7 gs (notesTo p (endsF p.ops) k) from (hch7.block gs (lt_of_block HS6.out) (by have := HLL.out; omega)).trans HS6.out)
        have HE7 := Lib.hid (show EndsAt w7 ge (endsF p.ops) from (hch7.block ge (lt_of_block HE6.out) (by have := HLL.out; omega)).trans HE6.out)
        have HF7 := Lib.hid (show w7.cell? ⟨w.heap.size, 2, none⟩ = some (.slice (some ⟨g, off, none⟩) no co) from (World.cell?_of_block (w := W6) (a := ⟨w.heap.size, 2, none⟩) (hch7.block w.heap.size (by have := HLL.out; omega) (by have := HLL.out; omega))).trans HF6.out)
        have HBL7 := Lib.hid (below_chg HBL6.out hch7 (fun j hj => by have := HLL.out; omega))
        have HSZ7 := Lib.hid hch7.size
        clear hch7 hnum7
        go_wp2
        refine wp_code (c := partL Tryd.f32 2) (by kernel_rfl) ?_
        refine spans_l2 (i := k) (gs := gs) (n := n) (nl := 6) (sp := notesTo p (endsF p.ops) k) (l := [o.a, o.b, o.c, o.d, o.e] ++ [q.d]) _ _ HS7.out HNL.out HNUM7.out (fun j hj => by have := HLL.out; have := HSZ7.out; rcases hj with hj | hj <;> omega) rfl (by decide) (fun r hr => by rcases List.mem_append.1 hr with hr | hr; exact HR5.out r hr; (rw [List.mem_singleton.1 hr]; have := HRQ.out; have := HN.out; omega)) ?_
        intro v9 v58 v59 v60 v61 v62 v63 v64 v65 v66 v67 v68 v69 w8 hch8 hsp8
        have HE8 := Lib.hid (show EndsAt w8 ge (endsF p.ops) from (hch8.block ge (lt_of_block HE7.out) (by have := HLL.out; omega)).trans HE7.out)
        have HF8 := Lib.hid (show w8.cell? ⟨w.heap.size, 2, none⟩ = some (.slice (some ⟨g, off, none⟩) no co) from (World.cell?_of_block (w := w7) (a := ⟨w.heap.size, 2, none⟩) (hch8.block w.heap.size (by have := HLL.out; have := HSZ7.out; omega) (by have := HLL.out; omega))).trans HF7.out)
        have HBL8 := Lib.hid (below_chg HBL7.out hch8 (fun j hj => by have := HLL.out; omega))
        have HSP8 := Lib.hid hsp8
        clear hch8 hsp8
        go_wp2
        go_roundw
        case rel => exact ⟨k + 1, by omega, by go_num, by rw [HNX.out, HRO.out]; exact HSP8.out, HE8.out, HF8.out, HBL8.out⟩
        case measure => simp [intOf]; omega
      · have e17 : (kd == 17) = false := by simpa using h17
        have HRO := Lib.hid (show regsOf p.ops (endsF p.ops) o k = [o.a, o.b, o.c, o.d, o.e] by unfold regsOf; rw [if_neg (by rw [HKD.out]; exact h17)]; rfl)
        clear h17
        go_wp2
        refine wp_code (c := partL Tryd.f32 2) (by kernel_rfl) ?_
        refine spans_l2 (i := k) (gs := gs) (n := n) (nl := 5) (sp := notesTo p (endsF p.ops) k) (l := [o.a, o.b, o.c, o.d, o.e]) _ _ HS6.out HNL.out (nums_blk HL6.out) (fun j hj => by have := HLL.out; omega) rfl (by decide) HR5.out ?_
        intro v9 v58 v59 v60 v61 v62 v63 v64 v65 v66 v67 v68 v69 w8 hch8 hsp8
        have HE8 := Lib.hid (show EndsAt w8 ge (endsF p.ops) from (hch8.block ge (lt_of_block HE6.out) (by have := HLL.out; omega)).trans HE6.out)
        have HF8 := Lib.hid (show w8.cell? ⟨w.heap.size, 2, none⟩ = some (.slice (some ⟨g, off, none⟩) no co) from (World.cell?_of_block (w := W6) (a := ⟨w.heap.size, 2, none⟩) (hch8.block w.heap.size (by have := HLL.out; omega) (by have := HLL.out; omega))).trans HF6.out)
        have HBL8 := Lib.hid (below_chg HBL6.out hch8 (fun j hj => by have := HLL.out; omega))
        have HSP8 := Lib.hid hsp8
        clear hch8 hsp8
        go_wp2
        go_roundw
        case rel => exact ⟨k + 1, by omega, by go_num, by rw [HNX.out, HRO.out]; exact HSP8.out, HE8.out, HF8.out, HBL8.out⟩
        case measure => simp [intOf]; omega
    · have HZ := Lib.hid (show SpansAt wr gs (notesTo p (endsF p.ops) p.ops.length) by have := HS.out; rwa [show k = p.ops.length by rw [HNO.out]; omega] at this)
      have HNL := Lib.hid (show (notesTo p (endsF p.ops) p.ops.length).length = n by rw [notes_len, HN.out]; rfl)
      have HLL := Lib.hid (show w.heap.size < gs ∧ gs < ge from ⟨by have := HLT.out; omega, HGE.out⟩)
      have HEB := Lib.hid (show ∀ (k : Nat) (o : LOp), p.ops[k]? = some o → o.kind = 16 → (endsF p.ops).getD k 0 ≤ p.ops.length from fun k o ho hk => by obtain ⟨i, _, h1, h2⟩ := ends_loop HBAL.out ho hk; rw [h2]; omega)
      go_wp2
      clear hlt
      go_loopg [10] (leftF p.ops.length (notesTo p (endsF p.ops) p.ops.length) + 1) (fun gk bv wr => ∃ (b : Bool) (sp : List (Int × Int)), bv = .bool b ∧ SpansAt wr gs sp ∧ sp.length = n ∧ EndsAt wr ge (endsF p.ops) ∧ wr.cell? ⟨w.heap.size, 2, none⟩ = some (.slice Ao no co) ∧ Below w.heap.size w wr ∧
        Hid ((b = true → moreF p.ops (endsF p.ops) gk sp = spansF p ∧ leftF p.ops.length sp < gk) ∧ (b = false → sp = spansF p)))
      case atStart => exact ⟨true, _, rfl, HZ.out, HNL.out, HE2.out, HF.out, HBL.out, Lib.hid ⟨fun _ => ⟨rfl, Nat.lt_succ_self _⟩, fun h => by cases h⟩⟩
      case round =>
        rename_i k0 hk0 HS0 HE20 HBL0 HF0 HZ0
        obtain ⟨b, sp, rfl, hsp, hlen, hen, hf2, hbl, HH⟩ := hrel
        have HSX := Lib.hid hsp
        have HLX := Lib.hid hlen
        have HEX := Lib.hid hen
        have HBX := Lib.hid hbl
        have HFX := Lib.hid hf2
        clear hsp hlen hen hbl
        cases b
        · have HY := Lib.hid (HH.out.2 rfl)
          go_wp2
          go_ret
          exact ⟨gs, rfl, by have := HLL.out; omega, by rw [← HY.out]; exact HSX.out, HBX.out⟩
        · have HY := Lib.hid (HH.out.1 rfl)
          obtain ⟨f, hf⟩ : ∃ f, gk = f + 1 := ⟨gk - 1, by have := HY.out.2; omega⟩
          have HFF := Lib.hid hf
          have HP := Lib.hid (pass_left (n := p.ops.length) HEB.out p.ops.length (sp := sp))
          clear hf
          go_wp2
          refine wp_code (c := partL Tryd.f32 6) (by kernel_rfl) ?_
          refine spans_l6 (gs := gs) (ge := ge) (n := n) (sp := sp) (E := endsF p.ops) (ops := p.ops) (co := co) _ _ HSX.out HLX.out HEX.out HEL.out (Rows.keep HOPS.out (SameOn.of_below HBX.out fun _ h => h)) HNO.out (fun j hj => by have h : j < w.heap.size := hj; have := HLL.out; have := HBX.out.size; omega) (by have := HLL.out; omega) (by omega) hno6 ?_
          intro v11 v12 v13 v14 v75 v76 v77 v78 v79 v80 v81 v82 v83 v84 v85 v86 v87 v88 v89 v90 v91 v92 v93 v94 v95 v96 v97 v98 v99 v100 v101 v102 v103 v104 v105 v106 v107 v108 v109 v110 v111 v112 v113 v114 v115 v116 v117 v118 v119 v120 v121 v122 v123 v124 v125 v126 v127 v128 v129 v130 w9 hch9 hsp9
          have HE9 := Lib.hid (show EndsAt w9 ge (endsF p.ops) from (hch9.block ge (lt_of_block HEX.out) (by have := HLL.out; omega)).trans HEX.out)
          have HF9 := Lib.hid (show w9.cell? ⟨w.heap.size, 2, none⟩ = some (.slice Ao no co) from (World.cell?_of_block (w := wr) (a := ⟨w.heap.size, 2, none⟩) (hch9.block w.heap.size (by have := HLL.out; have := lt_of_block HSX.out; omega) (by have := HLL.out; omega))).trans HFX.out)
          have HBL9 := Lib.hid (below_chg HBX.out hch9 (fun j hj => by have := HLL.out; omega))
          have HSP9 := Lib.hid hsp9
          have HM := Lib.hid (show moreF p.ops (endsF p.ops) (f + 1) sp = spansF p by rw [← HFF.out]; exact HY.out.1)
          have HLE := Lib.hid (show leftF p.ops.length sp < f + 1 by rw [← HFF.out]; exact HY.out.2)
          have HL9 := Lib.hid (show (passF p.ops (endsF p.ops) sp).1.length = n by unfold passF; rw [pass_len]; exact HLX.out)
          obtain ⟨bb, hbb⟩ : ∃ x, (passF p.ops (endsF p.ops) sp).2 = x := ⟨_, rfl⟩
          rw [hbb]
          have HBB := Lib.hid hbb
          clear hch9 hsp9 hbb hf2
          go_wp2
          go_roundg f
          case measure => have := HFF.out; omega
          case rel =>
            refine ⟨bb, (passF p.ops (endsF p.ops) sp).1, rfl, HSP9.out, HL9.out, HE9.out, HF9.out, HBL9.out, Lib.hid ⟨fun h => ?_, fun h => ?_⟩⟩
            · have h1 := HM.out
              simp only [moreF] at h1
              rw [if_pos (by rw [HBB.out]; exact h)] at h1
              have h2 := HP.out.2 (show (passTo p.ops (endsF p.ops) sp p.ops.length).2 = true by have := HBB.out; unfold passF at this; rw [this]; exact h)
              have h3 := HLE.out
              exact ⟨h1, by unfold passF; omega⟩
            · have h1 := HM.out
              simp only [moreF] at h1
              rwa [if_neg (by rw [HBB.out, h]; decide)] at h1
end Go.Proofs.YtppoiahhaclleaaDoor
