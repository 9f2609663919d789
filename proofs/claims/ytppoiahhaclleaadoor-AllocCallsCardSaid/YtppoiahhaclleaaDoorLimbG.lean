/- limb's checker: op: its regions. -/
import Derived.Test.YtppoiahhaclleaaDoorLimbF
import Derived.Test.YtppoiahhaclleaaDoorSepOps
namespace Go.Proofs.YtppoiahhaclleaaDoor
open Go.RowKit

def OpAt (w : World) (bo : Nat) (o : LOp) : Prop := w.heap[bo]? = some (.cells (opRow o).toArray 47 (0, 0))
theorem chk_head {regs : Int} {vb vo vl : Value} {m : List Bool} : (chkRow regs vb vo m vl)[0]? = some (.int .i64 regs) ∧ (chkRow regs vb vo m vl)[1]? = some vb ∧ (chkRow regs vb vo m vl)[2]? = some vo := ⟨rfl, rfl, rfl⟩
theorem runL_append1 {ops : Array Oper} {Q : Act → World → Prop} {S : World → Prop} {o : Oper} {l : List Oper} {a : Act} {w : World} (hT : isT o = true) (hw : Region.wanted o (yielded ops a.tmps) = true) {base n : Nat} {v : Value} {xs : List Int} {p : Int} {g : Nat}
    (s x : Operand) (ho : o.op = .call { callee := .builtin .append, args := #[s, x], argTypes := #[35, 35] }) (hs : a.eval s = v) (hn : xs.length = n) (hown : w.ownsRow base 3 1 v n (intV xs)) (hx : a.eval x = .slice (some ⟨g, 0, none⟩) 1 1)
    (hg : w.heap[g]? = some (.cells (intV [p]).toArray 3 (0, 0))) (h63 : n ≤ 1000000000) (hbase : base ≤ w.heap.size)
    (k : ∀ v' w', w'.ownsRow base 3 1 v' (n + 1) (intV (xs ++ [p])) → w.grownBy w' v.ownBlock → (v'.ownBlock = v.ownBlock ∨ v'.ownBlock = some w.heap.size) → S w' ∧ runL Tryd.prog ops S Q l (a.put o.dst v') w') : runL Tryd.prog ops S Q (o :: l) a w := by
  obtain ⟨v', w', h1, h2, h3, h4⟩ := exec_append1 s x ho hs hn hown hx hg h63 hbase
  obtain ⟨k1, k2⟩ := k v' w' h2 h3 h4
  exact runL_op hT hw h1 (.inr k1) k2
theorem own_where {w W1 : World} (h : Below w.heap.size w W1) {v v' : Value} (hb : v'.ownBlock = v.ownBlock ∨ v'.ownBlock = some W1.heap.size) : v'.ownBlock = v.ownBlock ∨ ∃ g, v'.ownBlock = some g ∧ w.heap.size ≤ g := by
  rcases hb with hb | hb
  · exact .inl hb
  · exact .inr ⟨_, hb, h.size⟩
theorem own_ne {w : World} {v v' : Value} {b : Nat} (hb : v'.ownBlock = v.ownBlock ∨ ∃ g, v'.ownBlock = some g ∧ w.heap.size ≤ g) (hne : v.ownBlock ≠ some b) (hlt : b < w.heap.size) : v'.ownBlock ≠ some b := by
  intro e
  rcases hb with hb | ⟨g, hb, hg⟩
  · exact hne (hb ▸ e)
  · rw [hb] at e; cases e; omega
theorem chk_next {w w' : World} {b : Nat} {regs : Int} {vb vo vl : Value} {m : List Bool} (h : ChkAt w b regs vb vo m vl) (hb : Below w.heap.size w w') : ChkAt w' b regs vb vo m vl := (hb.block b (lt_of_block h)).trans h
theorem op_next {w w' : World} {bo : Nat} {o : LOp} (h : OpAt w bo o) (hb : Below w.heap.size w w') : OpAt w' bo o := (hb.block bo (lt_of_block h)).trans h

set_option maxRecDepth 100000 in
set_option maxHeartbeats 4000000 in
theorem op_r1 {p : LP} {Ab Ao : Option Addr} {nb cb no co : Nat} {o : LOp} {b bo : Nat} {m : List Bool} {vl : Value} (w : World) (Q : Exit → Act → World → Prop) {u1 u2 u4 u5 u6 u7 u8 u9 u10 u11 u12 u13 u14 u15 u16 u17 u18 u19 u20 u21 u22 u23 u24 u25 u26 u27 u28 u29 u30 u31 u32 u33 u34 u35 u36 u37 u38 u39 u40 u41 u42 u43 u44 u45 u46 u47 u48 u49 u50 u51 u52 u53 u54 u55 u56 u57 u58 u59 u60 u61 u62 u63 u64 u65 u66 u67 u68 u69 u70 u71 u72 u73 u74 u75 u76 u77 u78 u79 u80 u81 u82 u83 u84 u85 u86 u87 u88 u89 u90 u91 u92 u93 u94 u95 u96 u97 u98 u99 u100 u101 u102 u103 u104 u105 u106 u107 u108 u109 u110 u111 u112 u113 u114 u115 u116 u117 u118 u119 : Value} (hC : ChkAt w b p.regs (.slice Ab nb cb) (.slice Ao no co) m vl) (hO : OpAt w bo o) (hp : ProgAt w (fun k => k < w.heap.size) [.int .i64 p.regs, .slice Ab nb cb, .slice Ao no co] p) (hs : ∀ b ∈ p.bufs, 0 ≤ b.size)
    (k : ∀ (v7 v8 v9 v10 v11 v12 : Value) (w' : World), Below w.heap.size w w' → Q .normal ⟨#[.pointer (some ⟨b, 0, none⟩), u1, u2, .pointer (some ⟨bo, 0, none⟩), u4, u5, u6, v7, v8, v9, v10, v11, v12, .bool (!fieldsF p o), u14, u15, u16, u17, u18, u19, u20, u21, u22, u23, u24, u25, u26, u27, u28, u29, u30, u31, u32, u33, u34, u35, u36, u37, u38, u39, u40, u41, u42, u43, u44, u45, u46, u47, u48, u49, u50, u51, u52, u53, u54, u55, u56, u57, u58, u59, u60, u61, u62, u63, u64, u65, u66, u67, u68, u69, u70, u71, u72, u73, u74, u75, u76, u77, u78, u79, u80, u81, u82, u83, u84, u85, u86, u87, u88, u89, u90, u91, u92, u93, u94, u95, u96, u97, u98, u99, u100, u101, u102, u103, u104, u105, u106, u107, u108, u109, u110, u111, u112, u113, u114, u115, u116, u117, u118, u119], []⟩ w') : (partR Tryd.f49 1).wp Tryd.prog Q ⟨#[.pointer (some ⟨b, 0, none⟩), u1, u2, .pointer (some ⟨bo, 0, none⟩), u4, u5, u6, u7, u8, u9, u10, u11, u12, u13, u14, u15, u16, u17, u18, u19, u20, u21, u22, u23, u24, u25, u26, u27, u28, u29, u30, u31, u32, u33, u34, u35, u36, u37, u38, u39, u40, u41, u42, u43, u44, u45, u46, u47, u48, u49, u50, u51, u52, u53, u54, u55, u56, u57, u58, u59, u60, u61, u62, u63, u64, u65, u66, u67, u68, u69, u70, u71, u72, u73, u74, u75, u76, u77, u78, u79, u80, u81, u82, u83, u84, u85, u86, u87, u88, u89, u90, u91, u92, u93, u94, u95, u96, u97, u98, u99, u100, u101, u102, u103, u104, u105, u106, u107, u108, u109, u110, u111, u112, u113, u114, u115, u116, u117, u118, u119], []⟩ w := by
  have HF : Calls Tryd.prog 66 #[.agg #[.int .i64 p.regs, .slice Ab nb cb, .slice Ao no co], .agg #[.int .i64 o.kind, .int .i64 o.d, .int .i64 o.e, .int .i64 o.a, .int .i64 o.b, .int .i64 o.c, .int .i64 o.buf, .int .u64 o.imm]] w.drew fun e w' => e = .returned (.bool (fieldsF p o)) ∧ Below w.heap.size w.drew w' := fields_any p Ab Ao nb cb no co o w.drew (prog_next hp (Below.refl _ _).drew) hs
  have HF := Lib.hid HF
  have HC := Lib.hid hC
  have HO := Lib.hid hO
  have HK := Lib.hid k
  clear hC hO hp hs k
  conv => arg 2; whnf
  (refine wp_region_lines (fun w_ => ChkAt w_ b p.regs (.slice Ab nb cb) (.slice Ao no co) m vl ∧ OpAt w_ bo o) (by kernel_rfl) (by kernel_rfl) ⟨HC.out, HO.out⟩ ?_)
  (try simp only [])
  repeat (first | (refine runL_no (by rfl) ?_; (try simp only [Act.put, List.setIfInBounds_toArray, List.set_cons_zero, List.set_cons_succ])) | (refine runL_val (v := ?_) (by rfl) ?_ ?_; rotate_left; (focus (intro w_ hw_; have c0_ := cell_row hw_.1 chk_head.1; have c1_ := cell_row hw_.1 chk_head.2.1; have c2_ := cell_row hw_.1 chk_head.2.2; have o0_ := cell_row hw_.2 (k := 0) (v := .int .i64 o.kind) rfl; have o1_ := cell_row hw_.2 (k := 1) (v := .int .i64 o.d) rfl; have o2_ := cell_row hw_.2 (k := 2) (v := .int .i64 o.e) rfl; have o3_ := cell_row hw_.2 (k := 3) (v := .int .i64 o.a) rfl; have o4_ := cell_row hw_.2 (k := 4) (v := .int .i64 o.b) rfl; have o5_ := cell_row hw_.2 (k := 5) (v := .int .i64 o.c) rfl; have o6_ := cell_row hw_.2 (k := 6) (v := .int .i64 o.buf) rfl; have o7_ := cell_row hw_.2 (k := 7) (v := .int .u64 o.imm) rfl; go_simp; (try with_reducible rfl); done)); (try simp only [Act.put, List.setIfInBounds_toArray, List.set_cons_zero, List.set_cons_succ])) | (refine runL_call (f := ?_) (args := ?_) (w1 := ?_) (by rfl) (by rfl) ?_ ?_; rotate_left 3; (focus (go_simp; refine ⟨⟨?_, ?_⟩, ?_⟩ <;> with_reducible rfl)); with_reducible refine (HF.out).mono ?_; rintro e w1 ⟨rfl, hb⟩; have HB := Lib.hid ((Below.refl w.heap.size w).drew.trans hb); clear hb; refine ⟨_, rfl, .inr ⟨chk_next HC.out HB.out, op_next HO.out HB.out⟩, ?_⟩; (try simp only [Act.put, List.setIfInBounds_toArray, List.set_cons_zero, List.set_cons_succ])))
  (refine runL_nil ?_)
  exact HK.out _ _ _ _ _ _ _ HB.out

set_option maxRecDepth 100000 in
set_option maxHeartbeats 4000000 in
theorem op_r7 {p : LP} {Ab Ao : Option Addr} {nb cb no co : Nat} {b : Nat} {m : List Bool} {A : Option Addr} {n c q : Nat} {loops : List Int} {x : Int} {G : Nat → Prop} (w : World) (Q : Exit → Act → World → Prop) {u1 u2 u3 u4 u6 u7 u8 u9 u10 u11 u12 u13 u14 u15 u16 u17 u18 u19 u20 u21 u22 u23 u24 u25 u26 u27 u28 u29 u30 u31 u32 u33 u34 u35 u36 u37 u38 u39 u40 u41 u42 u43 u44 u45 u46 u47 u48 u49 u50 u51 u52 u53 u54 u55 u56 u57 u58 u59 u60 u61 u62 u63 u64 u65 u66 u67 u68 u69 u70 u71 u72 u73 u74 u75 u76 u77 u78 u79 u80 u81 u82 u83 u84 u85 u86 u87 u88 u89 u90 u91 u92 u93 u94 u95 u96 u97 u98 u99 u100 u101 u102 u103 u104 u105 u106 u107 u108 u109 u110 u111 u112 u113 u114 u115 u116 u117 u118 u119 : Value} (hC : ChkAt w b p.regs (.slice Ab nb cb) (.slice Ao no co) m (.slice A n c)) (hm : m.length = 64) (hl : NumsAt w G (.slice A n c) loops) (hG : ∀ k, G k → k < w.heap.size) (hx : loops[q]? = some x) (hx64 : x < 64) (hqn : q < n) (hn : n ≤ 1000000000)
    (k : ∀ (v29 v30 v31 v32 v33 v34 v35 v36 v37 v38 v39 v40 : Value) (w' : World), Chg (fun k => k = b) w w' → ChkAt w' b p.regs (.slice Ab nb cb) (.slice Ao no co) (putL [x] m false) (.slice A n c) → Q .normal ⟨#[.pointer (some ⟨b, 0, none⟩), u1, u2, u3, u4, .int .i64 (q : Nat), u6, u7, u8, u9, u10, u11, u12, u13, u14, u15, u16, u17, u18, u19, u20, u21, u22, u23, u24, u25, u26, u27, u28, v29, v30, v31, v32, v33, v34, v35, v36, v37, v38, v39, v40, u41, u42, u43, u44, u45, u46, u47, u48, u49, u50, u51, u52, u53, u54, u55, u56, u57, u58, u59, u60, u61, u62, u63, u64, u65, u66, u67, u68, u69, u70, u71, u72, u73, u74, u75, u76, u77, u78, u79, u80, u81, u82, u83, u84, u85, u86, u87, u88, u89, u90, u91, u92, u93, u94, u95, u96, u97, u98, u99, u100, u101, u102, u103, u104, u105, u106, u107, u108, u109, u110, u111, u112, u113, u114, u115, u116, u117, u118, u119], []⟩ w') : (partR Tryd.f49 7).wp Tryd.prog Q ⟨#[.pointer (some ⟨b, 0, none⟩), u1, u2, u3, u4, .int .i64 (q : Nat), u6, u7, u8, u9, u10, u11, u12, u13, u14, u15, u16, u17, u18, u19, u20, u21, u22, u23, u24, u25, u26, u27, u28, u29, u30, u31, u32, u33, u34, u35, u36, u37, u38, u39, u40, u41, u42, u43, u44, u45, u46, u47, u48, u49, u50, u51, u52, u53, u54, u55, u56, u57, u58, u59, u60, u61, u62, u63, u64, u65, u66, u67, u68, u69, u70, u71, u72, u73, u74, u75, u76, u77, u78, u79, u80, u81, u82, u83, u84, u85, u86, u87, u88, u89, u90, u91, u92, u93, u94, u95, u96, u97, u98, u99, u100, u101, u102, u103, u104, u105, u106, u107, u108, u109, u110, u111, u112, u113, u114, u115, u116, u117, u118, u119], []⟩ w := by
  obtain ⟨g, off, rfl, hGg, hc⟩ := hl.at_ hx
  have HG := Lib.hid (hG g hGg)
  have HC := Lib.hid hC
  have HM := Lib.hid hm
  have HK := Lib.hid k
  have HX := Lib.hid hc
  have q0 : (0 : Int) ≤ (q : Int) := by omega
  have q1 : (q : Int) < (n : Int) := by omega
  have q2 : IntKind.i64.wrap (q : Int) = q := by simp [IntKind.wrap, IntKind.bits, IntKind.signed]; omega
  obtain ⟨W1, hW1⟩ : ∃ W, W = (w.alloc (.cells (intV [x]).toArray 3)).drew := ⟨_, rfl⟩
  have hB1 : Below w.heap.size w W1 := by rw [hW1]; exact ((Below.refl _ _).alloc (Nat.le_refl _) _).drew
  have hz1 : W1.heap.size = w.heap.size + 1 := by rw [hW1]; simp
  have hN1 : NumsAt W1 (fun k => k = w.heap.size) (.slice (some ⟨w.heap.size, 0, none⟩) 1 1) [x] := nums_blk (g := w.heap.size) (l := [x]) (t := 3) (by rw [hW1]; exact heap_alloc_new w _)
  have HP := Lib.hid (put_any b false (.slice (some ⟨w.heap.size, 0, none⟩) 1 1) [x] m p.regs (.slice Ab nb cb) (.slice Ao no co) (.slice (some ⟨g, off, none⟩) n c) W1 _ hm (chk_next hC hB1) hN1 (fun k hk => ⟨by omega, by have := lt_of_block hC; omega⟩) (by simpa using hx64) (by simp))
  have HB1 := Lib.hid hB1
  have HW1 := Lib.hid hW1
  clear hC hm hl hG hx hx64 hqn k hc hB1 hz1 hN1 hW1 hGg
  conv => arg 2; whnf
  (refine wp_region_lines (fun w_ => ChkAt w_ b p.regs (.slice Ab nb cb) (.slice Ao no co) m (.slice (some ⟨g, off, none⟩) n c) ∧ w_.cell? ⟨g, off + q, none⟩ = some (.int .i64 x)) (by kernel_rfl) (by kernel_rfl) ⟨HC.out, HX.out⟩ ?_)
  (try simp only [])
  repeat (first | (refine runL_no (by rfl) ?_; (try simp only [Act.put, List.setIfInBounds_toArray, List.set_cons_zero, List.set_cons_succ])) | (refine runL_val (v := ?_) (by rfl) ?_ ?_; rotate_left; (focus (intro w_ hw_; have k67_ := cell_row hw_.1 (chk_loops HM.out); have kx_ := hw_.2; go_simp; (try with_reducible rfl); done)); (try simp only [Act.put, List.setIfInBounds_toArray, List.set_cons_zero, List.set_cons_succ])) | (refine runL_call (f := ?_) (args := ?_) (w1 := ?_) (by rfl) (by rfl) ?_ ?_; rotate_left 3; (focus (go_simp; refine ⟨⟨?_, ?_⟩, ?_⟩ <;> with_reducible rfl)); with_reducible refine (HP.out).mono ?_; rintro e w1 ⟨rfl, hch, hca⟩; have HCH := Lib.hid hch; have HCA := Lib.hid hca; clear hch hca; refine ⟨_, rfl, .inl ⟨rfl, by kernel_rfl⟩, ?_⟩; (try simp only [Act.put, List.setIfInBounds_toArray, List.set_cons_zero, List.set_cons_succ])) | (refine runL_op (v := .slice (some ⟨w.heap.size, 0, none⟩) 1 1) (w1 := W1) (by rfl) (by rfl) (by rw [HW1.out]; exact exec_int1 _ rfl rfl) (.inr (by exact ⟨chk_next HC.out HB1.out, (HB1.out.cell (p := ⟨g, off + q, none⟩) HG.out).trans HX.out⟩)) ?_; (try simp only [Act.put, List.setIfInBounds_toArray, List.set_cons_zero, List.set_cons_succ])))
  (refine runL_nil ?_)
  exact HK.out _ _ _ _ _ _ _ _ _ _ _ _ _ ((Chg.of_below HB1.out).trans' HCH.out (fun _ _ h => h)) HCA.out

set_option maxRecDepth 100000 in
set_option maxHeartbeats 4000000 in
theorem op_r11 {p : LP} {Ab Ao : Option Addr} {nb cb no co : Nat} {o : LOp} {b bo : Nat} {m : List Bool} {vl : Value} {loops : List Int} {lp : Bool} {G : Nat → Prop} (w : World) (Q : Exit → Act → World → Prop) {u1 u2 u4 u5 u7 u8 u9 u10 u11 u12 u13 u14 u15 u16 u17 u18 u19 u20 u21 u22 u23 u24 u25 u26 u27 u28 u29 u30 u31 u32 u33 u34 u35 u36 u37 u38 u39 u40 u41 u42 u43 u44 u45 u46 u47 u48 u49 u50 u51 u52 u53 u54 u55 u56 u57 u58 u59 u60 u61 u62 u63 u64 u65 u66 u67 u68 u69 u70 u71 u72 u73 u74 u75 u76 u77 u78 u79 u80 u81 u82 u83 u84 u85 u86 u87 u88 u89 u90 u91 u92 u93 u94 u95 u96 u97 u98 u99 u100 u101 u102 u103 u104 u105 u106 u107 u108 u109 u110 u111 u112 u113 u114 u115 u116 u117 u118 u119 : Value} (hC : ChkAt w b p.regs (.slice Ab nb cb) (.slice Ao no co) m vl) (hO : OpAt w bo o) (hm : m.length = 64) (hl : NumsAt w G vl loops) (hn : loops.length ≤ 9223372036854775807) (hmd : lp = true → ∃ q : Nat, o.d = q ∧ q < m.length)
    (k : ∀ (v54 v55 v56 v57 v58 v59 v60 v61 v62 v63 v64 v65 v66 v67 v68 v69 v70 v71 v72 v73 v74 v75 : Value) (w' : World), Below w.heap.size w w' → Q .normal ⟨#[.pointer (some ⟨b, 0, none⟩), u1, u2, .pointer (some ⟨bo, 0, none⟩), u4, u5, .bool lp, u7, u8, u9, u10, u11, u12, u13, u14, u15, u16, u17, u18, u19, u20, u21, u22, u23, u24, u25, u26, u27, u28, u29, u30, u31, u32, u33, u34, u35, u36, u37, u38, u39, u40, u41, u42, u43, u44, u45, u46, u47, u48, u49, u50, u51, u52, .bool (inF loops o.d || (inF loops o.e || (lp && madeF m o.d))), v54, v55, v56, v57, v58, v59, v60, v61, v62, v63, v64, v65, v66, v67, v68, v69, v70, v71, v72, v73, v74, v75, u76, u77, u78, u79, u80, u81, u82, u83, u84, u85, u86, u87, u88, u89, u90, u91, u92, u93, u94, u95, u96, u97, u98, u99, u100, u101, u102, u103, u104, u105, u106, u107, u108, u109, u110, u111, u112, u113, u114, u115, u116, u117, u118, u119], []⟩ w') : (partR Tryd.f49 11).wp Tryd.prog Q ⟨#[.pointer (some ⟨b, 0, none⟩), u1, u2, .pointer (some ⟨bo, 0, none⟩), u4, u5, .bool lp, u7, u8, u9, u10, u11, u12, u13, u14, u15, u16, u17, u18, u19, u20, u21, u22, u23, u24, u25, u26, u27, u28, u29, u30, u31, u32, u33, u34, u35, u36, u37, u38, u39, u40, u41, u42, u43, u44, u45, u46, u47, u48, u49, u50, u51, u52, u53, u54, u55, u56, u57, u58, u59, u60, u61, u62, u63, u64, u65, u66, u67, u68, u69, u70, u71, u72, u73, u74, u75, u76, u77, u78, u79, u80, u81, u82, u83, u84, u85, u86, u87, u88, u89, u90, u91, u92, u93, u94, u95, u96, u97, u98, u99, u100, u101, u102, u103, u104, u105, u106, u107, u108, u109, u110, u111, u112, u113, u114, u115, u116, u117, u118, u119], []⟩ w := by
  have HC := Lib.hid hC
  have HO := Lib.hid hO
  have HM := Lib.hid hm
  have HIN := Lib.hid (fun r => in_any b r loops m p.regs (.slice Ab nb cb) (.slice Ao no co) vl w.drew _ hm hC hl hn)
  have HMD := Lib.hid hmd
  have HK := Lib.hid k
  clear hC hO hm hl hn hmd k
  obtain ⟨x1, hx1⟩ : ∃ x, inF loops o.d = x := ⟨_, rfl⟩
  obtain ⟨x2, hx2⟩ : ∃ x, inF loops o.e = x := ⟨_, rfl⟩
  obtain ⟨md, hmd⟩ : ∃ x, madeF m o.d = x := ⟨_, rfl⟩
  rw [hx1, hx2, hmd] at HK
  have X1 := Lib.hid hx1
  have X2 := Lib.hid hx2
  have MD := Lib.hid hmd
  clear hx1 hx2 hmd
  have HI1 := HIN.out o.d
  have HI2 := HIN.out o.e
  rw [X1.out] at HI1
  rw [X2.out] at HI2
  have HI1 := Lib.hid HI1
  have HI2 := Lib.hid HI2
  conv => arg 2; whnf
  cases x1
  · cases x2
    · cases lp
      · skip
        (refine wp_region_lines (fun w_ => ChkAt w_ b p.regs (.slice Ab nb cb) (.slice Ao no co) m vl ∧ OpAt w_ bo o) (by kernel_rfl) (by kernel_rfl) ⟨HC.out, HO.out⟩ ?_)
        (try simp only [])
        repeat (first | (refine runL_no (by rfl) ?_; (try simp only [Act.put, List.setIfInBounds_toArray, List.set_cons_zero, List.set_cons_succ])) | (refine runL_val (v := ?_) (by rfl) ?_ ?_; rotate_left; (focus (intro w_ hw_; have k1_ := cell_row hw_.2 (k := 1) (v := .int .i64 o.d) rfl; have k2_ := cell_row hw_.2 (k := 2) (v := .int .i64 o.e) rfl; go_simp; (try with_reducible rfl); done)); (try simp only [Act.put, List.setIfInBounds_toArray, List.set_cons_zero, List.set_cons_succ])) | (refine runL_call (f := ?_) (args := ?_) (w1 := ?_) (by rfl) (by rfl) ?_ ?_; rotate_left 3; (focus (go_simp; refine ⟨⟨?_, ?_⟩, ?_⟩ <;> with_reducible rfl)); (first | with_reducible refine (HI1.out).mono ?_ | with_reducible refine (HI2.out).mono ?_); rintro e w1 ⟨rfl, rfl⟩; refine ⟨_, rfl, .inr (by exact ⟨HC.out, HO.out⟩), ?_⟩; (try simp only [Act.put, List.setIfInBounds_toArray, List.set_cons_zero, List.set_cons_succ])))
        (refine runL_nil ?_)
        exact HK.out _ _ _ _ _ _ _ _ _ _ _ _ _ _ _ _ _ _ _ _ _ _ _ (Below.refl _ _).drew
      · obtain ⟨q, hq, hmq⟩ := HMD.out rfl
        have hmx : m[q]? = some md := by
          rw [← MD.out]
          unfold madeF
          rw [hq, Int.toNat_natCast, List.getD_eq_getElem?_getD, List.getElem?_eq_getElem hmq]
          rfl
        have HMX := Lib.hid hmx
        have q0 : (0 : Int) ≤ (q : Int) := by omega
        have q1 : (q : Int) < 64 := by have := HM.out; omega
        have q2 : IntKind.i64.wrap (q : Int) = q := by simp [IntKind.wrap, IntKind.bits, IntKind.signed]; omega
        have HQ := Lib.hid hq
        clear hmx hq hmq
        skip
        (refine wp_region_lines (fun w_ => ChkAt w_ b p.regs (.slice Ab nb cb) (.slice Ao no co) m vl ∧ OpAt w_ bo o) (by kernel_rfl) (by kernel_rfl) ⟨HC.out, HO.out⟩ ?_)
        (try simp only [])
        repeat (first | (refine runL_no (by rfl) ?_; (try simp only [Act.put, List.setIfInBounds_toArray, List.set_cons_zero, List.set_cons_succ])) | (refine runL_val (v := ?_) (by rfl) ?_ ?_; rotate_left; (focus (intro w_ hw_; have k1_ := cell_row hw_.2 (k := 1) (v := .int .i64 o.d) rfl; have k2_ := cell_row hw_.2 (k := 2) (v := .int .i64 o.e) rfl; rw [HQ.out] at k1_; have k5_ := cell_row hw_.1 (chk_made HMX.out); go_simp; (try with_reducible rfl); done)); (try simp only [Act.put, List.setIfInBounds_toArray, List.set_cons_zero, List.set_cons_succ])) | (refine runL_call (f := ?_) (args := ?_) (w1 := ?_) (by rfl) (by rfl) ?_ ?_; rotate_left 3; (focus (go_simp; refine ⟨⟨?_, ?_⟩, ?_⟩ <;> with_reducible rfl)); (first | rw [← HQ.out]; with_reducible refine (HI1.out).mono ?_ | with_reducible refine (HI2.out).mono ?_); rintro e w1 ⟨rfl, rfl⟩; refine ⟨_, rfl, .inr (by exact ⟨HC.out, HO.out⟩), ?_⟩; (try simp only [Act.put, List.setIfInBounds_toArray, List.set_cons_zero, List.set_cons_succ])))
        (refine runL_nil ?_)
        exact HK.out _ _ _ _ _ _ _ _ _ _ _ _ _ _ _ _ _ _ _ _ _ _ _ (Below.refl _ _).drew
    · skip
      (refine wp_region_lines (fun w_ => ChkAt w_ b p.regs (.slice Ab nb cb) (.slice Ao no co) m vl ∧ OpAt w_ bo o) (by kernel_rfl) (by kernel_rfl) ⟨HC.out, HO.out⟩ ?_)
      (try simp only [])
      repeat (first | (refine runL_no (by rfl) ?_; (try simp only [Act.put, List.setIfInBounds_toArray, List.set_cons_zero, List.set_cons_succ])) | (refine runL_val (v := ?_) (by rfl) ?_ ?_; rotate_left; (focus (intro w_ hw_; have k1_ := cell_row hw_.2 (k := 1) (v := .int .i64 o.d) rfl; have k2_ := cell_row hw_.2 (k := 2) (v := .int .i64 o.e) rfl; go_simp; (try with_reducible rfl); done)); (try simp only [Act.put, List.setIfInBounds_toArray, List.set_cons_zero, List.set_cons_succ])) | (refine runL_call (f := ?_) (args := ?_) (w1 := ?_) (by rfl) (by rfl) ?_ ?_; rotate_left 3; (focus (go_simp; refine ⟨⟨?_, ?_⟩, ?_⟩ <;> with_reducible rfl)); (first | with_reducible refine (HI1.out).mono ?_ | with_reducible refine (HI2.out).mono ?_); rintro e w1 ⟨rfl, rfl⟩; refine ⟨_, rfl, .inr (by exact ⟨HC.out, HO.out⟩), ?_⟩; (try simp only [Act.put, List.setIfInBounds_toArray, List.set_cons_zero, List.set_cons_succ])))
      (refine runL_nil ?_)
      exact HK.out _ _ _ _ _ _ _ _ _ _ _ _ _ _ _ _ _ _ _ _ _ _ _ (Below.refl _ _).drew
  · skip
    (refine wp_region_lines (fun w_ => ChkAt w_ b p.regs (.slice Ab nb cb) (.slice Ao no co) m vl ∧ OpAt w_ bo o) (by kernel_rfl) (by kernel_rfl) ⟨HC.out, HO.out⟩ ?_)
    (try simp only [])
    repeat (first | (refine runL_no (by rfl) ?_; (try simp only [Act.put, List.setIfInBounds_toArray, List.set_cons_zero, List.set_cons_succ])) | (refine runL_val (v := ?_) (by rfl) ?_ ?_; rotate_left; (focus (intro w_ hw_; have k1_ := cell_row hw_.2 (k := 1) (v := .int .i64 o.d) rfl; have k2_ := cell_row hw_.2 (k := 2) (v := .int .i64 o.e) rfl; go_simp; (try with_reducible rfl); done)); (try simp only [Act.put, List.setIfInBounds_toArray, List.set_cons_zero, List.set_cons_succ])) | (refine runL_call (f := ?_) (args := ?_) (w1 := ?_) (by rfl) (by rfl) ?_ ?_; rotate_left 3; (focus (go_simp; refine ⟨⟨?_, ?_⟩, ?_⟩ <;> with_reducible rfl)); (first | with_reducible refine (HI1.out).mono ?_ | with_reducible refine (HI2.out).mono ?_); rintro e w1 ⟨rfl, rfl⟩; refine ⟨_, rfl, .inr (by exact ⟨HC.out, HO.out⟩), ?_⟩; (try simp only [Act.put, List.setIfInBounds_toArray, List.set_cons_zero, List.set_cons_succ])))
    (refine runL_nil ?_)
    exact HK.out _ _ _ _ _ _ _ _ _ _ _ _ _ _ _ _ _ _ _ _ _ _ _ (Below.refl _ _).drew

set_option maxRecDepth 100000 in
set_option maxHeartbeats 4000000 in
theorem op_r15 {p : LP} {Ab Ao : Option Addr} {nb cb no co : Nat} {o : LOp} {b bo : Nat} {m : List Bool} {vl : Value} (w : World) (Q : Exit → Act → World → Prop) {u1 u2 u4 u5 u6 u7 u8 u9 u10 u11 u12 u13 u14 u15 u16 u17 u18 u19 u20 u21 u22 u23 u24 u25 u26 u27 u28 u29 u30 u31 u32 u33 u34 u35 u36 u37 u38 u39 u40 u41 u42 u43 u44 u45 u46 u47 u48 u49 u50 u51 u52 u53 u54 u55 u56 u57 u58 u59 u60 u61 u62 u63 u64 u65 u66 u67 u68 u69 u70 u71 u72 u73 u74 u75 u76 u77 u78 u79 u80 u81 u82 u83 u84 u85 u86 u87 u88 u89 u90 u91 u92 u93 u94 u95 u96 u97 u98 u99 u100 u101 u102 u103 u104 u105 u106 u107 u108 u109 u110 u111 u112 u113 u114 u115 u116 u117 u118 u119 : Value} (hC : ChkAt w b p.regs (.slice Ab nb cb) (.slice Ao no co) m vl) (hO : OpAt w bo o) (hm : m.length = 64) (hr : ∀ r ∈ [o.a, o.b, o.c], r < 64)
    (k : ∀ (v87 v88 v89 v90 v91 v92 v93 v94 v95 v96 v97 v98 : Value) (w' : World), Below w.heap.size w w' → Q .normal ⟨#[.pointer (some ⟨b, 0, none⟩), u1, u2, .pointer (some ⟨bo, 0, none⟩), u4, u5, u6, u7, u8, u9, u10, u11, u12, u13, u14, u15, u16, u17, u18, u19, u20, u21, u22, u23, u24, u25, u26, u27, u28, u29, u30, u31, u32, u33, u34, u35, u36, u37, u38, u39, u40, u41, u42, u43, u44, u45, u46, u47, u48, u49, u50, u51, u52, u53, u54, u55, u56, u57, u58, u59, u60, u61, u62, u63, u64, u65, u66, u67, u68, u69, u70, u71, u72, u73, u74, u75, u76, u77, u78, u79, u80, u81, u82, u83, u84, u85, .bool ([o.a, o.b, o.c].any (lackF m)), v87, v88, v89, v90, v91, v92, v93, v94, v95, v96, v97, v98, u99, u100, u101, u102, u103, u104, u105, u106, u107, u108, u109, u110, u111, u112, u113, u114, u115, u116, u117, u118, u119], []⟩ w') : (partR Tryd.f49 15).wp Tryd.prog Q ⟨#[.pointer (some ⟨b, 0, none⟩), u1, u2, .pointer (some ⟨bo, 0, none⟩), u4, u5, u6, u7, u8, u9, u10, u11, u12, u13, u14, u15, u16, u17, u18, u19, u20, u21, u22, u23, u24, u25, u26, u27, u28, u29, u30, u31, u32, u33, u34, u35, u36, u37, u38, u39, u40, u41, u42, u43, u44, u45, u46, u47, u48, u49, u50, u51, u52, u53, u54, u55, u56, u57, u58, u59, u60, u61, u62, u63, u64, u65, u66, u67, u68, u69, u70, u71, u72, u73, u74, u75, u76, u77, u78, u79, u80, u81, u82, u83, u84, u85, u86, u87, u88, u89, u90, u91, u92, u93, u94, u95, u96, u97, u98, u99, u100, u101, u102, u103, u104, u105, u106, u107, u108, u109, u110, u111, u112, u113, u114, u115, u116, u117, u118, u119], []⟩ w := by
  obtain ⟨W1, hW1⟩ : ∃ W, W = (w.alloc (.cells (intV [o.a, o.b, o.c]).toArray 3)).drew := ⟨_, rfl⟩
  have hB1 : Below w.heap.size w W1 := by rw [hW1]; exact ((Below.refl _ _).alloc (Nat.le_refl _) _).drew
  have hz1 : W1.heap.size = w.heap.size + 1 := by rw [hW1]; simp
  have hb1 : W1.heap[w.heap.size]? = some (.cells (intV [o.a, o.b, o.c]).toArray 3 (0, 0)) := by rw [hW1]; exact heap_alloc_new w _
  have HL := Lib.hid (lacks_any m (.slice (some ⟨w.heap.size, 0, none⟩) 3 3) [o.a, o.b, o.c] W1 _ hm (nums_blk hb1) (fun k hk => by omega) hr (by simp))
  have HC := Lib.hid hC
  have HO := Lib.hid hO
  have HM := Lib.hid hm
  have HB1 := Lib.hid hB1
  have HW1 := Lib.hid hW1
  have HK := Lib.hid k
  clear hC hO hm hr hB1 hz1 hb1 hW1 k
  have HLOAD : ∀ w_ : World, ChkAt w_ b p.regs (.slice Ab nb cb) (.slice Ao no co) m vl → ∀ (j : Nat) (v : Value), (m.map Value.bool).toArray.toList[j]? = some v → w_.cell? ((⟨b, 3, none⟩ : Addr).add j) = some v := fun w_ h j v hv => by
    rw [sep_add]
    simp only [List.getElem?_map] at hv
    cases hj : m[j]? with
    | none => rw [hj] at hv; cases hv
    | some x => rw [hj] at hv; cases hv; exact cell_row h (chk_made hj)
  have HLOAD := Lib.hid HLOAD
  obtain ⟨arr, harr⟩ : ∃ a, (m.map Value.bool).toArray = a := ⟨_, rfl⟩
  have HA := Lib.hid (show some arr.size = some 64 from by rw [← harr]; simp [HM.out])
  rw [harr] at HL HLOAD
  clear harr
  obtain ⟨res, hres⟩ : ∃ x, [o.a, o.b, o.c].any (lackF m) = x := ⟨_, rfl⟩
  rw [hres] at HL HK
  clear hres
  conv => arg 2; whnf
  (refine wp_region_lines (fun w_ => ChkAt w_ b p.regs (.slice Ab nb cb) (.slice Ao no co) m vl ∧ OpAt w_ bo o) (by kernel_rfl) (by kernel_rfl) ⟨HC.out, HO.out⟩ ?_)
  (try simp only [])
  repeat (first | (refine runL_no (by rfl) ?_; (try simp only [Act.put, List.setIfInBounds_toArray, List.set_cons_zero, List.set_cons_succ])) | (refine runL_val (v := ?_) (by rfl) ?_ ?_; rotate_left; (focus (intro w_ hw_; have k3_ := cell_row hw_.2 (k := 3) (v := .int .i64 o.a) rfl; have k4_ := cell_row hw_.2 (k := 4) (v := .int .i64 o.b) rfl; have k5_ := cell_row hw_.2 (k := 5) (v := .int .i64 o.c) rfl; go_simp; (try with_reducible rfl); done)); (try simp only [Act.put, List.setIfInBounds_toArray, List.set_cons_zero, List.set_cons_succ])) | (refine runL_call (f := ?_) (args := ?_) (w1 := ?_) (by rfl) (by rfl) ?_ ?_; rotate_left 3; (focus (go_simp; refine ⟨⟨?_, ?_⟩, ?_⟩ <;> with_reducible rfl)); with_reducible refine (HL.out).mono ?_; rintro e w1 ⟨rfl, hb⟩; have HB := Lib.hid (HB1.out.trans (hb.mono HB1.out.size)); clear hb; refine ⟨_, rfl, .inr (by exact ⟨chk_next HC.out HB.out, op_next HO.out HB.out⟩), ?_⟩; (try simp only [Act.put, List.setIfInBounds_toArray, List.set_cons_zero, List.set_cons_succ])) | (refine runL_val (v := .agg arr) (by rfl) (fun w_ hw_ => sep_load 93 _ rfl ⟨b, 3, none⟩ rfl arr _ Tryd.underlying93 rfl (by rw [HA.out]; kernel_rfl) (HLOAD.out w_ hw_.1)) ?_; (try simp only [Act.put, List.setIfInBounds_toArray, List.set_cons_zero, List.set_cons_succ])) | (refine runL_op (v := .slice (some ⟨w.heap.size, 0, none⟩) 3 3) (w1 := W1) (by rfl) (by rfl) (by rw [HW1.out]; exact exec_int3 _ _ _ rfl rfl rfl rfl) (.inr (by exact ⟨chk_next HC.out HB1.out, op_next HO.out HB1.out⟩)) ?_; (try simp only [Act.put, List.setIfInBounds_toArray, List.set_cons_zero, List.set_cons_succ])))
  (refine runL_nil ?_)
  exact HK.out _ _ _ _ _ _ _ _ _ _ _ _ _ HB.out

set_option maxRecDepth 100000 in
set_option maxHeartbeats 4000000 in
theorem op_r17 {p : LP} {Ab Ao : Option Addr} {nb cb no co : Nat} {o : LOp} {b bo : Nat} {m : List Bool} {vl : Value} (w : World) (Q : Exit → Act → World → Prop) {u1 u2 u4 u5 u6 u7 u8 u9 u10 u11 u12 u13 u14 u15 u16 u17 u18 u19 u20 u21 u22 u23 u24 u25 u26 u27 u28 u29 u30 u31 u32 u33 u34 u35 u36 u37 u38 u39 u40 u41 u42 u43 u44 u45 u46 u47 u48 u49 u50 u51 u52 u53 u54 u55 u56 u57 u58 u59 u60 u61 u62 u63 u64 u65 u66 u67 u68 u69 u70 u71 u72 u73 u74 u75 u76 u77 u78 u79 u80 u81 u82 u83 u84 u85 u86 u87 u88 u89 u90 u91 u92 u93 u94 u95 u96 u97 u98 u99 u100 u101 u102 u103 u104 u105 u106 u107 u108 u109 u110 u111 u112 u113 u114 u115 u116 u117 u118 u119 : Value} (hC : ChkAt w b p.regs (.slice Ab nb cb) (.slice Ao no co) m vl) (hO : OpAt w bo o) (hm : m.length = 64) (hr : ∀ r ∈ [o.d, o.e], r < 64)
    (k : ∀ (v99 v100 v101 v102 v103 v104 v105 v106 v107 : Value) (w' : World), Chg (fun k => k = b) w w' → ChkAt w' b p.regs (.slice Ab nb cb) (.slice Ao no co) (putL [o.d, o.e] m true) vl → Q .normal ⟨#[.pointer (some ⟨b, 0, none⟩), u1, u2, .pointer (some ⟨bo, 0, none⟩), u4, u5, u6, u7, u8, u9, u10, u11, u12, u13, u14, u15, u16, u17, u18, u19, u20, u21, u22, u23, u24, u25, u26, u27, u28, u29, u30, u31, u32, u33, u34, u35, u36, u37, u38, u39, u40, u41, u42, u43, u44, u45, u46, u47, u48, u49, u50, u51, u52, u53, u54, u55, u56, u57, u58, u59, u60, u61, u62, u63, u64, u65, u66, u67, u68, u69, u70, u71, u72, u73, u74, u75, u76, u77, u78, u79, u80, u81, u82, u83, u84, u85, u86, u87, u88, u89, u90, u91, u92, u93, u94, u95, u96, u97, u98, v99, v100, v101, v102, v103, v104, v105, v106, v107, u108, u109, u110, u111, u112, u113, u114, u115, u116, u117, u118, u119], []⟩ w') : (partR Tryd.f49 17).wp Tryd.prog Q ⟨#[.pointer (some ⟨b, 0, none⟩), u1, u2, .pointer (some ⟨bo, 0, none⟩), u4, u5, u6, u7, u8, u9, u10, u11, u12, u13, u14, u15, u16, u17, u18, u19, u20, u21, u22, u23, u24, u25, u26, u27, u28, u29, u30, u31, u32, u33, u34, u35, u36, u37, u38, u39, u40, u41, u42, u43, u44, u45, u46, u47, u48, u49, u50, u51, u52, u53, u54, u55, u56, u57, u58, u59, u60, u61, u62, u63, u64, u65, u66, u67, u68, u69, u70, u71, u72, u73, u74, u75, u76, u77, u78, u79, u80, u81, u82, u83, u84, u85, u86, u87, u88, u89, u90, u91, u92, u93, u94, u95, u96, u97, u98, u99, u100, u101, u102, u103, u104, u105, u106, u107, u108, u109, u110, u111, u112, u113, u114, u115, u116, u117, u118, u119], []⟩ w := by
  obtain ⟨W1, hW1⟩ : ∃ W, W = (w.alloc (.cells (intV [o.d, o.e]).toArray 3)).drew := ⟨_, rfl⟩
  have hB1 : Below w.heap.size w W1 := by rw [hW1]; exact ((Below.refl _ _).alloc (Nat.le_refl _) _).drew
  have hz1 : W1.heap.size = w.heap.size + 1 := by rw [hW1]; simp
  have hb1 : W1.heap[w.heap.size]? = some (.cells (intV [o.d, o.e]).toArray 3 (0, 0)) := by rw [hW1]; exact heap_alloc_new w _
  have HP := Lib.hid (put_any b true (.slice (some ⟨w.heap.size, 0, none⟩) 2 2) [o.d, o.e] m p.regs (.slice Ab nb cb) (.slice Ao no co) vl W1 _ hm (chk_next hC hB1) (nums_blk hb1) (fun k hk => ⟨by omega, by have := lt_of_block hC; omega⟩) hr (by simp))
  have HC := Lib.hid hC
  have HO := Lib.hid hO
  have HB1 := Lib.hid hB1
  have HW1 := Lib.hid hW1
  have HK := Lib.hid k
  clear hC hO hm hr hB1 hz1 hb1 hW1 k
  conv => arg 2; whnf
  (refine wp_region_lines (fun w_ => ChkAt w_ b p.regs (.slice Ab nb cb) (.slice Ao no co) m vl ∧ OpAt w_ bo o) (by kernel_rfl) (by kernel_rfl) ⟨HC.out, HO.out⟩ ?_)
  (try simp only [])
  repeat (first | (refine runL_no (by rfl) ?_; (try simp only [Act.put, List.setIfInBounds_toArray, List.set_cons_zero, List.set_cons_succ])) | (refine runL_val (v := ?_) (by rfl) ?_ ?_; rotate_left; (focus (intro w_ hw_; have k3_ := cell_row hw_.2 (k := 1) (v := .int .i64 o.d) rfl; have k4_ := cell_row hw_.2 (k := 2) (v := .int .i64 o.e) rfl; go_simp; (try with_reducible rfl); done)); (try simp only [Act.put, List.setIfInBounds_toArray, List.set_cons_zero, List.set_cons_succ])) | (refine runL_call (f := ?_) (args := ?_) (w1 := ?_) (by rfl) (by rfl) ?_ ?_; rotate_left 3; (focus (go_simp; refine ⟨⟨?_, ?_⟩, ?_⟩ <;> with_reducible rfl)); with_reducible refine (HP.out).mono ?_; rintro e w1 ⟨rfl, hch, hca⟩; have HCH := Lib.hid hch; have HCA := Lib.hid hca; clear hch hca; refine ⟨_, rfl, .inl ⟨rfl, by kernel_rfl⟩, ?_⟩; (try simp only [Act.put, List.setIfInBounds_toArray, List.set_cons_zero, List.set_cons_succ])) | (refine runL_op (v := .slice (some ⟨w.heap.size, 0, none⟩) 2 2) (w1 := W1) (by rfl) (by rfl) (by rw [HW1.out]; exact exec_int2 _ _ rfl rfl rfl) (.inr (by exact ⟨chk_next HC.out HB1.out, op_next HO.out HB1.out⟩)) ?_; (try simp only [Act.put, List.setIfInBounds_toArray, List.set_cons_zero, List.set_cons_succ])))
  (refine runL_nil ?_)
  exact HK.out _ _ _ _ _ _ _ _ _ _ ((Chg.of_below HB1.out).trans' HCH.out (fun _ _ h => h)) HCA.out

set_option maxRecDepth 100000 in
set_option maxHeartbeats 4000000 in
theorem op_r19 {p : LP} {Ab Ao : Option Addr} {nb cb no co : Nat} {o : LOp} {b bo : Nat} {m : List Bool} {A : Option Addr} {n c : Nat} {loops : List Int} {base : Nat} (w : World) (Q : Exit → Act → World → Prop) {u1 u2 u4 u5 u6 u7 u8 u9 u10 u11 u12 u13 u14 u15 u16 u17 u18 u19 u20 u21 u22 u23 u24 u25 u26 u27 u28 u29 u30 u31 u32 u33 u34 u35 u36 u37 u38 u39 u40 u41 u42 u43 u44 u45 u46 u47 u48 u49 u50 u51 u52 u53 u54 u55 u56 u57 u58 u59 u60 u61 u62 u63 u64 u65 u66 u67 u68 u69 u70 u71 u72 u73 u74 u75 u76 u77 u78 u79 u80 u81 u82 u83 u84 u85 u86 u87 u88 u89 u90 u91 u92 u93 u94 u95 u96 u97 u98 u99 u100 u101 u102 u103 u104 u105 u106 u107 u108 u109 u110 u111 u112 u113 u114 u115 u116 u117 u118 u119 : Value} (hC : ChkAt w b p.regs (.slice Ab nb cb) (.slice Ao no co) m (.slice A n c)) (hO : OpAt w bo o) (hm : m.length = 64) (hnl : loops.length = n) (hown : w.ownsRow base 3 1 (.slice A n c) n (intV loops)) (hne : (Value.slice A n c).ownBlock ≠ some b ∧ (Value.slice A n c).ownBlock ≠ some bo) (hn : n ≤ 1000000000) (hbase : base ≤ w.heap.size)
    (k : ∀ (v109 v110 v111 v112 v113 v114 v115 v116 v117 v118 v119 : Value) (w' : World), ∀ vl' : Value, w'.ownsRow base 3 1 vl' (n + 1) (intV (loops ++ [o.d])) → ChkAt w' b p.regs (.slice Ab nb cb) (.slice Ao no co) m vl' → Chg (fun k => k = b ∨ (Value.slice A n c).ownBlock = some k) w w' → (vl'.ownBlock = (Value.slice A n c).ownBlock ∨ ∃ g, vl'.ownBlock = some g ∧ w.heap.size ≤ g) → Q .normal ⟨#[.pointer (some ⟨b, 0, none⟩), u1, u2, .pointer (some ⟨bo, 0, none⟩), u4, u5, u6, u7, u8, u9, u10, u11, u12, u13, u14, u15, u16, u17, u18, u19, u20, u21, u22, u23, u24, u25, u26, u27, u28, u29, u30, u31, u32, u33, u34, u35, u36, u37, u38, u39, u40, u41, u42, u43, u44, u45, u46, u47, u48, u49, u50, u51, u52, u53, u54, u55, u56, u57, u58, u59, u60, u61, u62, u63, u64, u65, u66, u67, u68, u69, u70, u71, u72, u73, u74, u75, u76, u77, u78, u79, u80, u81, u82, u83, u84, u85, u86, u87, u88, u89, u90, u91, u92, u93, u94, u95, u96, u97, u98, u99, u100, u101, u102, u103, u104, u105, u106, u107, u108, v109, v110, v111, v112, v113, v114, v115, v116, v117, v118, v119], []⟩ w') : (partR Tryd.f49 19).wp Tryd.prog Q ⟨#[.pointer (some ⟨b, 0, none⟩), u1, u2, .pointer (some ⟨bo, 0, none⟩), u4, u5, u6, u7, u8, u9, u10, u11, u12, u13, u14, u15, u16, u17, u18, u19, u20, u21, u22, u23, u24, u25, u26, u27, u28, u29, u30, u31, u32, u33, u34, u35, u36, u37, u38, u39, u40, u41, u42, u43, u44, u45, u46, u47, u48, u49, u50, u51, u52, u53, u54, u55, u56, u57, u58, u59, u60, u61, u62, u63, u64, u65, u66, u67, u68, u69, u70, u71, u72, u73, u74, u75, u76, u77, u78, u79, u80, u81, u82, u83, u84, u85, u86, u87, u88, u89, u90, u91, u92, u93, u94, u95, u96, u97, u98, u99, u100, u101, u102, u103, u104, u105, u106, u107, u108, u109, u110, u111, u112, u113, u114, u115, u116, u117, u118, u119], []⟩ w := by
  obtain ⟨W1, hW1⟩ : ∃ W, W = (w.alloc (.cells (intV [o.d]).toArray 3)).drew := ⟨_, rfl⟩
  have hB1 : Below w.heap.size w W1 := by rw [hW1]; exact ((Below.refl _ _).alloc (Nat.le_refl _) _).drew
  have hz1 : W1.heap.size = w.heap.size + 1 := by rw [hW1]; simp
  have hb1 : W1.heap[w.heap.size]? = some (.cells (intV [o.d]).toArray 3 (0, 0)) := by rw [hW1]; exact heap_alloc_new w _
  have HLO := Lib.hid (lt_of_block hO)
  have hown1 : W1.ownsRow base 3 1 (.slice A n c) n (intV loops) := row_keep (fun g hg => hB1.block g (own_lt hown g hg).1) hown
  have HC := Lib.hid hC
  have HO := Lib.hid hO
  have HM := Lib.hid hm
  have HB1 := Lib.hid hB1
  have HW1 := Lib.hid hW1
  have HK := Lib.hid k
  have HOWN := Lib.hid hown
  have HOWN1 := Lib.hid hown1
  have HNE := Lib.hid hne
  have HNL := Lib.hid hnl
  have HBK := Lib.hid hb1
  have HN := Lib.hid (And.intro hn (Nat.le_trans hbase (show w.heap.size ≤ W1.heap.size by omega)))
  have HLT := Lib.hid (And.intro (lt_of_block hC) hz1)
  clear hC hO hm hB1 hz1 hb1 hW1 k hown hown1 hne hnl hn hbase
  conv => arg 2; whnf
  (refine wp_region_lines (fun w_ => ChkAt w_ b p.regs (.slice Ab nb cb) (.slice Ao no co) m (.slice A n c) ∧ OpAt w_ bo o) (by kernel_rfl) (by kernel_rfl) ⟨HC.out, HO.out⟩ ?_)
  (try simp only [])
  repeat (first | (refine runL_no (by rfl) ?_; (try simp only [Act.put, List.setIfInBounds_toArray, List.set_cons_zero, List.set_cons_succ])) | (refine runL_val (v := ?_) (by rfl) ?_ ?_; rotate_left; (focus (intro w_ hw_; have k67_ := cell_row hw_.1 (chk_loops HM.out); have k1_ := cell_row hw_.2 (k := 1) (v := .int .i64 o.d) rfl; go_simp; (try with_reducible rfl); done)); (try simp only [Act.put, List.setIfInBounds_toArray, List.set_cons_zero, List.set_cons_succ])) | (refine runL_op (v := .slice (some ⟨w.heap.size, 0, none⟩) 1 1) (w1 := W1) (by rfl) (by rfl) (by rw [HW1.out]; exact exec_int1 _ rfl rfl) (.inr (by exact ⟨chk_next HC.out HB1.out, op_next HO.out HB1.out⟩)) ?_; (try simp only [Act.put, List.setIfInBounds_toArray, List.set_cons_zero, List.set_cons_succ])) | (refine runL_append1 (by rfl) (by rfl) _ _ rfl (v := .slice A n c) rfl HNL.out HOWN1.out rfl HBK.out HN.out.1 HN.out.2 ?_; intro v2 w2 ho2 hg2 hb2; have HO2 := Lib.hid ho2; have HC2 := Lib.hid ((hg2.block b (by have := HLT.out; omega) (fun e => HNE.out.1 e.symm)).trans (chk_next HC.out HB1.out)); have HP2 := Lib.hid ((hg2.block bo (by have := HLT.out; have := HLO.out; omega) (fun e => HNE.out.2 e.symm)).trans (op_next HO.out HB1.out)); have HG2 := Lib.hid hg2; have HB2 := Lib.hid (own_where HB1.out hb2); clear ho2 hg2 hb2; obtain ⟨A2, c2, rfl⟩ := own_form HO2.out; refine ⟨by exact ⟨HC2.out, HP2.out⟩, ?_⟩; (try simp only [Act.put, List.setIfInBounds_toArray, List.set_cons_zero, List.set_cons_succ])) | (refine runL_skip (w1 := w2.setCell ⟨b, 67, none⟩ (.slice A2 (n + 1) c2)) (by rfl) (by rfl) (exec_store1 35 _ _ rfl b 67 _ rfl rfl (by kernel_rfl) (by rw [cell_row HC2.out (chk_loops HM.out)]; rfl) (frozen_row HC2.out 67) rfl) (.inl ⟨rfl, by kernel_rfl⟩) ?_; (try simp only [Act.put])))
  (refine runL_nil ?_)
  have HNB := own_ne HB2.out HNE.out.1 HLT.out.1
  have HO4 := row_keep (w' := w2.setCell ⟨b, 67, none⟩ (.slice A2 (n + 1) c2)) (fun g hg => Below.heap_setCell _ _ _ _ (fun e => HNB (by rw [hg, e]))) HO2.out
  have HC4 := setCell_row HC2.out 67 (.slice A2 (n + 1) c2)
  rw [chk_setL _ HM.out] at HC4
  have HCG : Chg (fun k => k = b ∨ (Value.slice A n c).ownBlock = some k) w (w2.setCell ⟨b, 67, none⟩ (.slice A2 (n + 1) c2)) := ((Chg.of_below HB1.out).trans' (F := fun k => k = b ∨ (Value.slice A n c).ownBlock = some k) ⟨HG2.out.os, HG2.out.tape, HG2.out.output, HG2.out.size, fun k hk hF => HG2.out.block k hk (fun e => hF (.inr e.symm))⟩ (fun _ _ h => h)).setCell (.inl (.inl rfl)) _
  exact HK.out _ _ _ _ _ _ _ _ _ _ _ _ _ HO4 HC4 HCG HB2.out

end Go.Proofs.YtppoiahhaclleaaDoor
