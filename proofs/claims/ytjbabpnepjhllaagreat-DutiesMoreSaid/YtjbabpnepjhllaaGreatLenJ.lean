/- lengths.Check: what was made. -/
import Derived.Test.YtjbabpnepjhllaaGreatLenI
namespace Go.Proofs.YtjbabpnepjhllaaGreat
open Go.RowKit

/-- What was made, in memory. -/
structure MadeAt (w0 w : World) (bm gm n : Nat) (made : List Bool) : Prop where
  below : Below w0.heap.size w0 w
  box : w.heap[bm]? = some (.cells #[.slice (some ⟨gm, 0, none⟩) n n] 38 (0, 0))
  row : w.ownsRow w0.heap.size 4 1 (.slice (some ⟨gm, 0, none⟩) n n) n (made.map Value.bool)
  ne : bm ≠ gm
  ge : w0.heap.size ≤ bm
theorem MadeAt.len {w0 w : World} {bm gm n : Nat} {made : List Bool} (h : MadeAt w0 w bm gm n made) : made.length = n := by have := h.row.1; simpa using this
theorem MadeAt.next {w0 w w' : World} {bm gm n : Nat} {made : List Bool} (h : MadeAt w0 w bm gm n made) (hb : Below w.heap.size w w') : MadeAt w0 w' bm gm n made :=
  ⟨h.below.trans (hb.mono h.below.size), (hb.block bm (lt_of_block h.box)).trans h.box, own_next h.row hb, h.ne, h.ge⟩
theorem MadeAt.set {w0 w : World} {bm gm n : Nat} {made : List Bool} (h : MadeAt w0 w bm gm n made) (k : Nat) (b : Bool) : MadeAt w0 (w.setCell ⟨gm, k, none⟩ (.bool b)) bm gm n (made.set k b) := by
  have hg := (own_lt h.row gm rfl)
  refine ⟨⟨h.below.os, h.below.tape, h.below.output, by simpa using h.below.size, fun j hj => (Below.heap_setCell _ _ _ j (fun e => ?_)).trans (h.below.block j hj)⟩, (Below.heap_setCell _ _ _ bm (fun e => h.ne e)).trans h.box, ?_, h.ne, h.ge⟩
  · simp only at e; omega
  · rw [List.map_set]; exact own_set h.row k (.bool b)
theorem MadeAt.cell {w0 w : World} {bm gm n : Nat} {made : List Bool} (h : MadeAt w0 w bm gm n made) : w.cell? ⟨bm, 0, none⟩ = some (.slice (some ⟨gm, 0, none⟩) n n) := by simp [World.cell?, h.box]
theorem MadeAt.at_ {w0 w : World} {bm gm n : Nat} {made : List Bool} (h : MadeAt w0 w bm gm n made) {k : Nat} {b : Bool} (hk : made[k]? = some b) : w.cell? ⟨gm, k, none⟩ = some (.bool b) := own_cell h.row (by rw [List.getElem?_map, hk]; rfl)
theorem MadeAt.frozen {w0 w : World} {bm gm n : Nat} {made : List Bool} (h : MadeAt w0 w bm gm n made) (k : Nat) : w.frozen? ⟨gm, k, none⟩ = false := own_frozen h.row k
theorem MadeAt.lt {w0 w : World} {bm gm n : Nat} {made : List Bool} (h : MadeAt w0 w bm gm n made) : bm < w.heap.size ∧ gm < w.heap.size := ⟨lt_of_block h.box, (own_lt h.row gm rfl).1⟩
theorem bits_own {w : World} {base g n c : Nat} {made : List Bool} (h : w.ownsRow base 4 1 (.slice (some ⟨g, 0, none⟩) n c) n (made.map Value.bool)) : BitsAt w (fun k => k = g) (.slice (some ⟨g, 0, none⟩) n c) made := by
  have hl : made.length = n := by have := h.1; simpa using this
  have hnc : n ≤ c := by obtain ⟨_, _, _, _, h, _⟩ := own_blk h; exact h
  refine ⟨some ⟨g, 0, none⟩, c, by rw [List.length_map, hl], by rw [List.length_map, hl]; exact hnc, fun r hr => by obtain ⟨x, _, rfl⟩ := List.mem_map.1 hr; rfl, fun _ => ⟨g, 0, rfl, rfl, fun i j r u hr hu => ?_⟩⟩
  rw [List.getElem?_map] at hr
  obtain ⟨x, hx, rfl⟩ := Option.map_eq_some_iff.1 hr
  match j, hu with
  | 0, hu => cases hu; rw [Nat.zero_add, Nat.mul_one, Nat.add_zero]; exact own_cell h (by rw [List.getElem?_map, hx]; rfl)
  | j + 1, hu => cases hu
def madeTo (vs : List KVar) (j : Nat) : List Bool := (vs.take j).map givenK ++ List.replicate (vs.length - j) false
theorem madeTo_next {vs : List KVar} {j : Nat} {v : KVar} (h : vs[j]? = some v) : (madeTo vs j).set j (givenK v) = madeTo vs (j + 1) := by
  have hj : j < vs.length := (List.getElem?_eq_some_iff.1 h).1
  unfold madeTo
  rw [List.set_append, if_neg (by rw [List.length_map, List.length_take]; omega), List.take_add_one, h, List.map_append, List.append_assoc]
  congr 1
  rw [List.length_map, List.length_take, show j - min j vs.length = 0 by omega, show vs.length - j = (vs.length - (j + 1)) + 1 by omega, List.replicate_succ]
  rfl

set_option maxRecDepth 100000 in
set_option maxHeartbeats 8000000 in
theorem chk_l2 {Av Ao Ar : Option Addr} {nv cv no co nr cr b0 bm gm : Nat} {k : Krn} {w0 : World} (w : World) (Q : Exit → Act → World → Prop) {u0 u2 u3 u4 u5 u7 u8 u9 u10 u11 u12 u13 u14 u15 u16 u17 u18 u19 u20 u21 u22 u23 u24 u25 u26 u27 u28 u29 u30 u31 u32 u33 u34 u35 u36 u37 u38 u39 u40 u41 u42 u43 u44 u45 u46 u47 u48 u49 u50 u51 u52 u53 u54 u55 u56 u57 u58 u59 u60 u61 u62 u63 u64 u68 u69 u70 u71 u72 u73 u74 u75 u76 u77 u78 u79 u80 u81 u82 u83 u84 u85 u86 u87 u88 u89 u90 u91 u92 u93 u94 u95 u96 u97 u98 u99 u100 u101 u102 u103 u104 u105 u106 u107 u108 u109 u110 u111 u112 u113 u114 u115 u116 u117 u118 u119 u120 u121 u122 u123 u124 u125 u126 u127 u128 u129 u130 u131 u132 u133 u134 u135 u136 u137 : Value} (hk : KBox w0 b0 Av nv cv Ao no co Ar nr cr k) (hm : MadeAt w0 w bm gm nv (madeTo k.vars 0)) (hok : k.vars.length ≤ 100000)
    (k1 : ∀ (v7 v8 v67 v68 v69 v70 v71 v72 v73 v74 v75 v76 v77 : Value) (w' : World), MadeAt w0 w' bm gm nv (k.vars.map givenK) → Q ((.exit 2)) ⟨#[u0, .pointer (some ⟨b0, 0, none⟩), u2, u3, u4, u5, .pointer (some ⟨bm, 0, none⟩), v7, v8, u9, u10, u11, u12, u13, u14, u15, u16, u17, u18, u19, u20, u21, u22, u23, u24, u25, u26, u27, u28, u29, u30, u31, u32, u33, u34, u35, u36, u37, u38, u39, u40, u41, u42, u43, u44, u45, u46, u47, u48, u49, u50, u51, u52, u53, u54, u55, u56, u57, u58, u59, u60, u61, u62, u63, u64, .slice Av nv cv, .int .i64 (nv : Nat), v67, v68, v69, v70, v71, v72, v73, v74, v75, v76, v77, u78, u79, u80, u81, u82, u83, u84, u85, u86, u87, u88, u89, u90, u91, u92, u93, u94, u95, u96, u97, u98, u99, u100, u101, u102, u103, u104, u105, u106, u107, u108, u109, u110, u111, u112, u113, u114, u115, u116, u117, u118, u119, u120, u121, u122, u123, u124, u125, u126, u127, u128, u129, u130, u131, u132, u133, u134, u135, u136, u137], []⟩ w') : (partL Tryz.f37 2).wp Tryz.prog Q ⟨#[u0, .pointer (some ⟨b0, 0, none⟩), u2, u3, u4, u5, .pointer (some ⟨bm, 0, none⟩), u7, u8, u9, u10, u11, u12, u13, u14, u15, u16, u17, u18, u19, u20, u21, u22, u23, u24, u25, u26, u27, u28, u29, u30, u31, u32, u33, u34, u35, u36, u37, u38, u39, u40, u41, u42, u43, u44, u45, u46, u47, u48, u49, u50, u51, u52, u53, u54, u55, u56, u57, u58, u59, u60, u61, u62, u63, u64, .slice Av nv cv, .int .i64 (nv : Nat), .int .i64 0, u68, u69, u70, u71, u72, u73, u74, u75, u76, u77, u78, u79, u80, u81, u82, u83, u84, u85, u86, u87, u88, u89, u90, u91, u92, u93, u94, u95, u96, u97, u98, u99, u100, u101, u102, u103, u104, u105, u106, u107, u108, u109, u110, u111, u112, u113, u114, u115, u116, u117, u118, u119, u120, u121, u122, u123, u124, u125, u126, u127, u128, u129, u130, u131, u132, u133, u134, u135, u136, u137], []⟩ w := by
  have HK := Lib.hid hk
  have HM := Lib.hid hm
  have K1 := Lib.hid k1
  have HNV := Lib.hid hk.nv.1
  have n5 : nv ≤ 100000 := by have := hk.nv.1; omega
  clear hk hok k1 hm
  conv => arg 2; whnf
  go_wp2
  go_loopw [7, 8, 67] (fun _ _ i wr => ∃ j : Nat, j ≤ nv ∧ i = .int .i64 j ∧ MadeAt w0 wr bm gm nv (madeTo k.vars j)) (fun _ _ i _ => nv - (intOf i).toNat)
  case atStart => exact ⟨0, by omega, rfl, HM.out⟩
  case round =>
    obtain ⟨j, hj, rfl, hm⟩ := hrel
    have HMR := Lib.hid hm
    by_cases hlt : j < nv
    · have d1 : decide (j < nv) = true := decide_eq_true hlt
      obtain ⟨v, hx⟩ : ∃ v, k.vars[j]? = some v := ⟨_, List.getElem?_eq_getElem (by have := HNV.out; omega)⟩
      have HNX := Lib.hid (madeTo_next hx)
      obtain ⟨g, off, hA, hg, x0, x1, x2⟩ := (HK.out.next hm.below).vars.at_ hx
      subst hA
      have i0 : (0 : Int) ≤ (j : Int) := by omega
      have i1 : (j : Int) < (nv : Int) := by omega
      have i2 : IntKind.i64.wrap (j : Int) = j := by rw [IntKind.wrap_i64]; omega
      have hjm : ∃ b, (madeTo k.vars j)[j]? = some b := ⟨_, List.getElem?_eq_getElem (by rw [hm.len]; exact hlt)⟩
      obtain ⟨b, hb⟩ := hjm
      have HBJ := Lib.hid hb
      clear hm hg hx hb
      go_upto_region 14 with (first | go_in)
      obtain ⟨WV, hWV⟩ : ∃ W, W = wr.alloc (.cells #[.int .i64 v.limbs, .bool v.secret, .int .i64 v.mode] 60) := ⟨_, rfl⟩
      rw [← hWV]
      have hbv : Below wr.heap.size wr WV := by rw [hWV]; exact (Below.refl _ _).alloc (Nat.le_refl _) _
      have hcv : ∀ (i : Nat) (u : Value), #[Value.int .i64 v.limbs, .bool v.secret, .int .i64 v.mode][i]? = some u → WV.cell? ⟨wr.heap.size, i, none⟩ = some u := fun i u h => by rw [hWV]; exact cell_new wr _ _ h
      have hz : WV.heap.size = wr.heap.size + 1 := by rw [hWV]; simp
      have HMV := Lib.hid (HMR.out.next hbv)
      obtain ⟨q, hq⟩ : ∃ q, q = wr.heap.size := ⟨_, rfl⟩
      rw [← hq] at hcv hz ⊢
      have HFA := Lib.hid (show ∀ w_, Below WV.heap.size WV w_ → w_.cell? ⟨bm, 0, none⟩ = some (.slice (some ⟨gm, 0, none⟩) nv nv) ∧ w_.cell? ⟨q, 0, none⟩ = some (.int .i64 v.limbs) ∧ w_.cell? ⟨q, 1, none⟩ = some (.bool v.secret) ∧ w_.cell? ⟨q, 2, none⟩ = some (.int .i64 v.mode) from fun w_ h =>
        ⟨(HMV.out.next h).cell, (h.cell (p := ⟨q, 0, none⟩) (show q < WV.heap.size by omega)).trans (hcv 0 _ rfl), (h.cell (p := ⟨q, 1, none⟩) (show q < WV.heap.size by omega)).trans (hcv 1 _ rfl), (h.cell (p := ⟨q, 2, none⟩) (show q < WV.heap.size by omega)).trans (hcv 2 _ rfl)⟩)
      have HGV := Lib.hid (fun w1 => given_any v w1)
      clear hWV hbv hcv hz hq x0 x1 x2
      have hS := (Below.refl WV.heap.size WV).drew
      (refine wp_region_lines (Below WV.heap.size WV) (by kernel_rfl) (by kernel_rfl) (Below.refl WV.heap.size WV).drew ?_)
      (try simp only [])
      repeat (first | (refine runL_no (by rfl) ?_; (try simp only [Act.put, List.setIfInBounds_toArray, List.set_cons_zero, List.set_cons_succ])) | (refine runL_val (v := ?_) (by rfl) ?_ ?_; rotate_left; (focus (intro w_ hw_; obtain ⟨f0_, f1_, f2_, f3_⟩ := HFA.out w_ hw_; go_simp; (try with_reducible rfl); done)); (try simp only [Act.put, List.setIfInBounds_toArray, List.set_cons_zero, List.set_cons_succ])) | (refine runL_call (f := ?_) (args := ?_) (w1 := ?_) (by rfl) (by rfl) ?_ ?_; rotate_left 3; (focus (go_simp; refine ⟨⟨?_, ?_⟩, ?_⟩ <;> with_reducible rfl)); (with_reducible refine (HGV.out _).mono ?_); rintro e w1 ⟨rfl, hb1⟩; replace hS := hS.trans (hb1.mono hS.size); clear hb1; have HM1 := Lib.hid (HMV.out.next hS); refine ⟨_, rfl, .inr hS, ?_⟩; (try simp only [Act.put, List.setIfInBounds_toArray, List.set_cons_zero, List.set_cons_succ])) | (refine runL_skip (w1 := w1.setCell ⟨gm, j, none⟩ (.bool (givenK v))) (by rfl) (by rfl) (exec_store1 4 _ _ rfl gm j _ rfl rfl (by kernel_rfl) (by rw [HM1.out.at_ HBJ.out]; rfl) (HM1.out.frozen j) rfl) (.inl ⟨rfl, by kernel_rfl⟩) ?_; (try simp only [Act.put])))
      (refine runL_nil ?_)
      have HM2 := Lib.hid (HM1.out.set j (givenK v))
      clear hS
      go_wp2
      go_roundw
      case rel => exact ⟨j + 1, hlt, by go_num, by rw [← HNX.out]; exact HM2.out⟩
      case measure => simp [intOf]; omega
    · have d1 : decide (j < nv) = false := decide_eq_false hlt
      have e : j = nv := by omega
      subst e
      have HE := Lib.hid (show madeTo k.vars j = k.vars.map givenK by unfold madeTo; rw [HNV.out, List.take_length, Nat.sub_self]; simp)
      clear hm
      go_wp2
      exact K1.out _ _ _ _ _ _ _ _ _ _ _ _ _ _ (by rw [← HE.out]; exact HMR.out)


theorem opTo_next' {vs : List KVar} {ops : List KOp} {j : Nat} {o : KOp} {s : List Bool × Int} (h : opTo vs ops j = some s) (ho : ops[j]? = some o) : opTo vs ops (j + 1) = opStep vs o s := by
  show (match opTo vs ops j, ops[j]? with | some s, some o => opStep vs o s | _, _ => none) = _
  rw [h, ho]
theorem opTo_none {vs : List KVar} {ops : List KOp} {j : Nat} (h : opTo vs ops j = none) : ∀ m, j ≤ m → opTo vs ops m = none := by
  intro m hm
  obtain ⟨d, rfl⟩ : ∃ d, m = j + d := ⟨m - j, by omega⟩
  induction d with
  | zero => exact h
  | succ d ih =>
    have := ih (by omega)
    show (match opTo vs ops (j + d), ops[j + d]? with | some s, some o => opStep vs o s | _, _ => none) = none
    rw [this]
theorem takes_ok {vs : List KVar} {o : KOp} (h : oneK vs o = true) : ∀ v ∈ takesK o, 0 ≤ v ∧ v < (vs.length : Int) := by
  by_cases h17 : o.kind = 17
  · have hn : needK vs.length o = true := by unfold oneK at h; rwa [if_pos h17] at h
    have h1 := need_in hn
    have hc : o.c = -1 := by
      unfold needK at hn
      simp only [Bool.and_eq_true, beq_iff_eq] at hn
      exact hn.2.2.1
    intro v hv
    unfold takesK at hv
    rw [if_neg (by omega), List.append_nil] at hv
    obtain ⟨h2, h3⟩ := List.mem_filter.1 hv
    simp only [decide_eq_true_eq] at h3
    simp only [List.mem_cons, List.not_mem_nil, or_false] at h2
    rcases h2 with rfl | rfl | rfl
    · exact h1.1
    · omega
    · omega
  · have hp : partsK vs.length o = true := by
      unfold oneK at h
      rw [if_neg h17] at h
      simp only [Bool.and_eq_true] at h
      exact h.2.2.2.1
    exact takes_in hp

set_option maxRecDepth 100000 in
set_option maxHeartbeats 8000000 in
theorem chk_l4 {Av Ao Ar : Option Addr} {nv cv no co nr cr b0 bm gm : Nat} {k : Krn} {w0 : World} (w : World) (Q : Exit → Act → World → Prop) {u0 u3 u4 u5 u7 u8 u10 u11 u12 u13 u14 u15 u16 u17 u18 u19 u20 u21 u22 u23 u24 u25 u26 u27 u28 u29 u30 u31 u32 u33 u34 u35 u36 u37 u38 u39 u40 u41 u42 u43 u44 u45 u46 u47 u48 u49 u50 u51 u52 u53 u54 u55 u56 u57 u58 u59 u60 u61 u62 u63 u64 u65 u66 u67 u68 u69 u70 u71 u72 u73 u74 u75 u76 u77 u78 u82 u83 u84 u85 u86 u87 u88 u89 u90 u91 u92 u93 u94 u95 u96 u97 u98 u99 u100 u101 u102 u103 u104 u105 u106 u107 u108 u109 u110 u111 u112 u113 u114 u115 u116 u117 u118 u119 u120 u121 u122 u123 u124 u125 u126 u127 u128 u129 u130 u131 u132 u133 u134 u135 u136 u137 : Value} (hk : KBox w0 b0 Av nv cv Ao no co Ar nr cr k) (hm : MadeAt w0 w bm gm nv (k.vars.map givenK)) (hok : k.vars.length ≤ 100000 ∧ k.ops.length ≤ 4096) (hko : ∀ o ∈ k.ops, KOpOk o)
    (k1 : ∀ (made : List Bool) (d : Int) (v11 v81 v82 v83 v84 v85 v86 v87 v88 v89 v90 v91 v92 v93 v94 v95 v96 v97 v98 v99 v100 v101 v102 v103 v104 v105 v106 v107 v108 v109 v110 v111 v112 v113 v114 v115 v116 v117 v118 v119 : Value) (w' : World), (opTo k.vars k.ops k.ops.length = some (made, d) ∧ MadeAt w0 w' bm gm nv made) → Q ((.exit 4)) ⟨#[u0, .pointer (some ⟨b0, 0, none⟩), .int .i64 0, u3, u4, u5, .pointer (some ⟨bm, 0, none⟩), u7, u8, .int .i64 d, u10, v11, u12, u13, u14, u15, u16, u17, u18, u19, u20, u21, u22, u23, u24, u25, u26, u27, u28, u29, u30, u31, u32, u33, u34, u35, u36, u37, u38, u39, u40, u41, u42, u43, u44, u45, u46, u47, u48, u49, u50, u51, u52, u53, u54, u55, u56, u57, u58, u59, u60, u61, u62, u63, u64, u65, u66, u67, u68, u69, u70, u71, u72, u73, u74, u75, u76, u77, u78, .slice Ao no co, .int .i64 (no : Nat), v81, v82, v83, v84, v85, v86, v87, v88, v89, v90, v91, v92, v93, v94, v95, v96, v97, v98, v99, v100, v101, v102, v103, v104, v105, v106, v107, v108, v109, v110, v111, v112, v113, v114, v115, v116, v117, v118, v119, u120, u121, u122, u123, u124, u125, u126, u127, u128, u129, u130, u131, u132, u133, u134, u135, u136, u137], []⟩ w') (k2 : opTo k.vars k.ops k.ops.length = none → ∀ (v9 v11 v81 v82 v83 v84 v85 v86 v87 v88 v89 v90 v91 v92 v93 v94 v95 v96 v97 v98 v99 v100 v101 v102 v103 v104 v105 v106 v107 v108 v109 v110 v111 v112 v113 v114 v115 v116 v117 v118 v119 : Value) (w' : World), Below w0.heap.size w0 w' → Q (.ret) ⟨#[u0, .pointer (some ⟨b0, 0, none⟩), .int .i64 2, u3, u4, u5, .pointer (some ⟨bm, 0, none⟩), u7, u8, v9, u10, v11, u12, u13, u14, u15, u16, u17, u18, u19, u20, u21, u22, u23, u24, u25, u26, u27, u28, u29, u30, u31, u32, u33, u34, u35, u36, u37, u38, u39, u40, u41, u42, u43, u44, u45, u46, u47, u48, u49, u50, u51, u52, u53, u54, u55, u56, u57, u58, u59, u60, u61, u62, u63, u64, u65, u66, u67, u68, u69, u70, u71, u72, u73, u74, u75, u76, u77, u78, .slice Ao no co, .int .i64 (no : Nat), v81, v82, v83, v84, v85, v86, v87, v88, v89, v90, v91, v92, v93, v94, v95, v96, v97, v98, v99, v100, v101, v102, v103, v104, v105, v106, v107, v108, v109, v110, v111, v112, v113, v114, v115, v116, v117, v118, v119, u120, u121, u122, u123, u124, u125, u126, u127, u128, u129, u130, u131, u132, u133, u134, u135, u136, u137], []⟩ w') : (partL Tryz.f37 4).wp Tryz.prog Q ⟨#[u0, .pointer (some ⟨b0, 0, none⟩), .int .i64 0, u3, u4, u5, .pointer (some ⟨bm, 0, none⟩), u7, u8, .int .i64 0, u10, u11, u12, u13, u14, u15, u16, u17, u18, u19, u20, u21, u22, u23, u24, u25, u26, u27, u28, u29, u30, u31, u32, u33, u34, u35, u36, u37, u38, u39, u40, u41, u42, u43, u44, u45, u46, u47, u48, u49, u50, u51, u52, u53, u54, u55, u56, u57, u58, u59, u60, u61, u62, u63, u64, u65, u66, u67, u68, u69, u70, u71, u72, u73, u74, u75, u76, u77, u78, .slice Ao no co, .int .i64 (no : Nat), .int .i64 0, u82, u83, u84, u85, u86, u87, u88, u89, u90, u91, u92, u93, u94, u95, u96, u97, u98, u99, u100, u101, u102, u103, u104, u105, u106, u107, u108, u109, u110, u111, u112, u113, u114, u115, u116, u117, u118, u119, u120, u121, u122, u123, u124, u125, u126, u127, u128, u129, u130, u131, u132, u133, u134, u135, u136, u137], []⟩ w := by
  have HK := Lib.hid hk
  have HM := Lib.hid hm
  have K1 := Lib.hid k1
  have K2 := Lib.hid k2
  have HNV := Lib.hid hk.nv.1
  have HNO2 := Lib.hid hk.nv.2.1
  have HKO2 := Lib.hid hko
  have n5 : nv ≤ 100000 := by have := hk.nv.1; omega
  have n6 : no ≤ 4096 := by have := hk.nv.2.1; omega
  have hv5 := hok.1
  clear hk hok k1 k2 hm hko
  conv => arg 2; whnf
  go_wp2
  go_loopw [2, 9, 11, 81] (fun s2 s9 _ i wr => ∃ (j : Nat) (made : List Bool) (d : Int), j ≤ no ∧ i = .int .i64 j ∧ s9 = .int .i64 d ∧ s2 = .int .i64 0 ∧ Hid (opTo k.vars k.ops j = some (made, d)) ∧ MadeAt w0 wr bm gm nv made ∧ (0 ≤ d ∧ d ≤ 4)) (fun _ _ _ i _ => no - (intOf i).toNat)
  case atStart => exact ⟨0, _, 0, by omega, rfl, rfl, rfl, Lib.hid rfl, HM.out, by omega⟩
  case round =>
    obtain ⟨j, made, d, hj, rfl, rfl, rfl, HT, hm, hd⟩ := hrel
    have HMR := Lib.hid hm
    by_cases hlt : j < no
    · have d1 : decide (j < no) = true := decide_eq_true hlt
      obtain ⟨o, hx⟩ : ∃ v, k.ops[j]? = some v := ⟨_, List.getElem?_eq_getElem (by have := HNO2.out; omega)⟩
      have HNX := Lib.hid (opTo_next' HT.out hx)
      have HNO := Lib.hid (show opTo k.vars k.ops (j + 1) = none → opTo k.vars k.ops k.ops.length = none from fun h => opTo_none h _ (by have := HNO2.out; omega))
      have HKOP := Lib.hid (HKO2.out o (List.mem_of_getElem? hx))
      obtain ⟨g, off, hA, hg, x0, x1, x2, x3, x4, x5, x6⟩ := (HK.out.next hm.below).ops.at_ hx
      subst hA
      have i0 : (0 : Int) ≤ (j : Int) := by omega
      have i1 : (j : Int) < (no : Int) := by omega
      clear hm hg hx
      go_upto_region 20 with (first | go_in)
      obtain ⟨WO, hWO⟩ : ∃ W, W = wr.alloc (.cells #[.int .i64 o.kind, .int .i64 o.d, .int .i64 o.e, .int .i64 o.a, .int .i64 o.b, .int .i64 o.c, .int .u64 o.imm] 43) := ⟨_, rfl⟩
      rw [← hWO]
      have hbo : Below wr.heap.size wr WO := by rw [hWO]; exact (Below.refl _ _).alloc (Nat.le_refl _) _
      have hob : OpBox WO wr.heap.size o := OpBox.of (t := 43) (fr := (0, 0)) (by rw [hWO]; exact heap_alloc_new wr _)
      have hz : WO.heap.size = wr.heap.size + 1 := by rw [hWO]; simp
      have HO := Lib.hid hob
      have HMO := Lib.hid (HMR.out.next hbo)
      have HKO := Lib.hid (HK.out.next HMO.out.below)
      have HZ := Lib.hid (show wr.heap.size < WO.heap.size by omega)
      obtain ⟨bo, hbo2⟩ : ∃ b, b = wr.heap.size := ⟨_, rfl⟩
      rw [← hbo2] at HO HZ ⊢
      have y0 := HO.out.kind
      have y1 := HO.out.d
      have y2 := HO.out.e
      have y3 := HO.out.a
      have y4 := HO.out.b
      have y5 := HO.out.c
      have y6 := HO.out.imm
      have p0 := HKO.out.c0
      clear hWO hbo hob hz x0 x1 x2 x3 x4 x5 x6 hbo2
      have HONE := Lib.hid (fun (w1 : World) (h1 : Below WO.heap.size WO w1) => one_any Av nv cv k.vars o w1 _ (HKO.out.next h1).vars (fun k hk => hk) HKOP.out hv5)
      have HTK := Lib.hid (fun w1 => takes_any o w1)
      cases hok : oneK k.vars o
      · have HN := Lib.hid (show opTo k.vars k.ops (j + 1) = none by rw [HNX.out]; unfold opStep; rw [if_pos hok])
        rw [hok] at HONE
        clear hok
        go_upto_region 21 with (first
          | ((with_reducible refine (HONE.out _ (Below.refl _ _)).mono ?_); rintro e w1 ⟨rfl, hb1⟩; have HB1 := Lib.hid hb1; have y0 := (HO.out.next hb1 HZ.out).kind; have y1 := (HO.out.next hb1 HZ.out).d; have y2 := (HO.out.next hb1 HZ.out).e; have y3 := (HO.out.next hb1 HZ.out).a; have y4 := (HO.out.next hb1 HZ.out).b; have y5 := (HO.out.next hb1 HZ.out).c; have y6 := (HO.out.next hb1 HZ.out).imm; clear hb1)
          | ((with_reducible refine (HTK.out _).mono ?_); rintro e w2 ⟨A2, n2, e2, rfl, hn2, hb2⟩; have HN2 := Lib.hid hn2; have HB2 := Lib.hid (HB1.out.trans (hb2.mono HB1.out.size)); clear hn2 hb2)
          | ((with_reducible refine (HCF.out w2 A2 n2 e2 HB2.out HN2.out).mono ?_); rintro e w3 ⟨rfl, hb3⟩; have HB3 := Lib.hid (HB2.out.trans (hb3.mono HB2.out.size)); clear hb3)
          | go_in)
        go_wp2
        exact K2.out (HNO.out HN.out) _ _ _ _ _ _ _ _ _ _ _ _ _ _ _ _ _ _ _ _ _ _ _ _ _ _ _ _ _ _ _ _ _ _ _ _ _ _ _ _ _ _ (HMO.out.next HB1.out).below
      have hti := takes_ok hok
      have HONK := Lib.hid hok
      have HDL := Lib.hid (show o.d < (nv : Int) by
        have h1 := oneK_parts hok
        have h2 := h1.d
        have h3 := HNV.out
        split at h2
        · omega
        · omega)
      rw [hok] at HONE
      have HCF := Lib.hid (fun (w2 : World) (A : Option Addr) (n c : Nat) (h3 : Below WO.heap.size WO w2) (h4 : NumsAt w2 (fun k => k < w2.heap.size) (.slice A n c) (takesK o)) => ContainsFunc_Int (.slice A n c) 66 #[.pointer (some ⟨bm, 0, none⟩)] w2 (fun k => k < w2.heap.size) (takesK o) (fun v => !(made.getD v.toNat false)) (by unfold takesK; rw [List.length_append]; have := List.length_filter_le (fun v : Int => decide (0 ≤ v)) [o.a, o.b, o.c]; split <;> simp at * <;> omega) (enters_of Tryz.func66 (by kernel_rfl) rfl) h4 (fun k hk => hk)
        (fun x hx w4 h5 => chk2_any x made (some ⟨gm, 0, none⟩) nv nv bm w4 _ ((HMO.out.next h3).next h5).cell (bits_own ((HMO.out.next h3).next h5).row) (by have h1 := hti x hx; have h2 := HNV.out; have h3 := HMO.out.len; omega)))
      clear hti hok
      cases hany : ((takesK o).any fun v => !(made.getD v.toNat false))
      rotate_left
      · have HN := Lib.hid (show opTo k.vars k.ops (j + 1) = none by rw [HNX.out]; unfold opStep; rw [if_neg (by rw [HONK.out]; simp), if_pos hany])
        rw [hany] at HCF
        clear hany
        go_upto_region 21 with (first
          | ((with_reducible refine (HONE.out _ (Below.refl _ _)).mono ?_); rintro e w1 ⟨rfl, hb1⟩; have HB1 := Lib.hid hb1; have y0 := (HO.out.next hb1 HZ.out).kind; have y1 := (HO.out.next hb1 HZ.out).d; have y2 := (HO.out.next hb1 HZ.out).e; have y3 := (HO.out.next hb1 HZ.out).a; have y4 := (HO.out.next hb1 HZ.out).b; have y5 := (HO.out.next hb1 HZ.out).c; have y6 := (HO.out.next hb1 HZ.out).imm; clear hb1)
          | ((with_reducible refine (HTK.out _).mono ?_); rintro e w2 ⟨A2, n2, e2, rfl, hn2, hb2⟩; have HN2 := Lib.hid hn2; have HB2 := Lib.hid (HB1.out.trans (hb2.mono HB1.out.size)); clear hn2 hb2)
          | ((with_reducible refine (HCF.out w2 A2 n2 e2 HB2.out HN2.out).mono ?_); rintro e w3 ⟨rfl, hb3⟩; have HB3 := Lib.hid (HB2.out.trans (hb3.mono HB2.out.size)); clear hb3)
          | go_in)
        go_wp2
        exact K2.out (HNO.out HN.out) _ _ _ _ _ _ _ _ _ _ _ _ _ _ _ _ _ _ _ _ _ _ _ _ _ _ _ _ _ _ _ _ _ _ _ _ _ _ _ _ _ _ (HMO.out.next HB3.out).below
      have HANY := Lib.hid hany
      rw [hany] at HCF
      clear hany
      go_upto_region 22 with (first
        | ((with_reducible refine (HONE.out _ (Below.refl _ _)).mono ?_); rintro e w1 ⟨rfl, hb1⟩; have HB1 := Lib.hid hb1; have y0 := (HO.out.next hb1 HZ.out).kind; have y1 := (HO.out.next hb1 HZ.out).d; have y2 := (HO.out.next hb1 HZ.out).e; have y3 := (HO.out.next hb1 HZ.out).a; have y4 := (HO.out.next hb1 HZ.out).b; have y5 := (HO.out.next hb1 HZ.out).c; have y6 := (HO.out.next hb1 HZ.out).imm; clear hb1)
        | ((with_reducible refine (HTK.out _).mono ?_); rintro e w2 ⟨A2, n2, e2, rfl, hn2, hb2⟩; have HN2 := Lib.hid hn2; have HB2 := Lib.hid (HB1.out.trans (hb2.mono HB1.out.size)); clear hn2 hb2)
        | ((with_reducible refine (HCF.out w2 A2 n2 e2 HB2.out HN2.out).mono ?_); rintro e w3 ⟨rfl, hb3⟩; have HB3 := Lib.hid (HB2.out.trans (hb3.mono HB2.out.size)); clear hb3)
        | go_in)
      have HMW := Lib.hid (HMO.out.next HB3.out)
      have HOW := Lib.hid (HO.out.next HB3.out HZ.out)
      clear y0 y1 y2 y3 y4 y5 y6 p0
      have y0 := (HOW.out).kind
      have y1 := (HOW.out).d
      have y2 := (HOW.out).e
      have y3 := (HOW.out).a
      have y4 := (HOW.out).b
      have y5 := (HOW.out).c
      have y6 := (HOW.out).imm
      by_cases h15 : o.kind = 15
      · have e15 : (o.kind == 15) = true := by rw [beq_iff_eq]; exact h15
        have HE := Lib.hid (show (if o.kind = 15 then d + 1 else if o.kind = 16 then d - 1 else d) = d + 1 by rw [if_pos h15])
        have hw1 : IntKind.i64.wrap (d + 1) = d + 1 := by rw [IntKind.wrap_i64]; omega
        clear h15
        cases d6 : decide ((d + 1) < 0)
        rotate_left
        · have HN := Lib.hid (show opTo k.vars k.ops (j + 1) = none by rw [HNX.out]; unfold opStep; rw [if_neg (by rw [HONK.out]; simp), if_neg (by rw [HANY.out]; simp)]; dsimp only; rw [HE.out, if_pos (.inl (by simpa using d6))])
          go_wp2
          exact K2.out (HNO.out HN.out) _ _ _ _ _ _ _ _ _ _ _ _ _ _ _ _ _ _ _ _ _ _ _ _ _ _ _ _ _ _ _ _ _ _ _ _ _ _ _ _ _ _ HMW.out.below
        cases d7 : decide (4 < (d + 1))
        rotate_left
        · have HN := Lib.hid (show opTo k.vars k.ops (j + 1) = none by rw [HNX.out]; unfold opStep; rw [if_neg (by rw [HONK.out]; simp), if_neg (by rw [HANY.out]; simp)]; dsimp only; rw [HE.out, if_pos (.inr (by simpa using d7))])
          go_wp2
          exact K2.out (HNO.out HN.out) _ _ _ _ _ _ _ _ _ _ _ _ _ _ _ _ _ _ _ _ _ _ _ _ _ _ _ _ _ _ _ _ _ _ _ _ _ _ _ _ _ _ HMW.out.below
        have hbd : 0 ≤ (d + 1) ∧ (d + 1) ≤ 4 := by have := of_decide_eq_false d6; have := of_decide_eq_false d7; omega
        have HBD := Lib.hid hbd
        by_cases hd0 : 0 ≤ o.d
        · have d8 : decide (0 ≤ o.d) = true := decide_eq_true hd0
          have HN := Lib.hid (show opTo k.vars k.ops (j + 1) = some (made.set o.d.toNat true, (d + 1)) by rw [HNX.out]; unfold opStep; rw [if_neg (by rw [HONK.out]; simp), if_neg (by rw [HANY.out]; simp)]; dsimp only; rw [HE.out, if_neg (by omega), if_pos hd0])
          obtain ⟨m, hm⟩ : ∃ m : Nat, o.d = m := ⟨o.d.toNat, by omega⟩
          have hml : m < nv := by have := HDL.out; omega
          obtain ⟨b, hb⟩ : ∃ b, made[m]? = some b := ⟨_, List.getElem?_eq_getElem (by rw [HMW.out.len]; exact hml)⟩
          have g0 := HMW.out.cell
          have g1 := HMW.out.at_ hb
          have g2 := HMW.out.frozen m
          have HS := Lib.hid (HMW.out.set m true)
          have HDM := Lib.hid hm
          have i5 : (0 : Int) ≤ (m : Int) := by omega
          have i6 : (m : Int) < (nv : Int) := by omega
          have i7 : IntKind.i64.wrap (m : Int) = m := by rw [IntKind.wrap_i64]; omega
          rw [hm] at y1 d8 HN
          rw [Int.toNat_natCast] at HN
          clear hm hml hb hbd hd0
          go_wp2
          go_roundw
          case rel => exact ⟨j + 1, _, _, hlt, by go_num, rfl, rfl, HN, HS.out, HBD.out⟩
          case measure => simp [intOf]; omega
        · have d8 : decide (0 ≤ o.d) = false := decide_eq_false hd0
          have HN := Lib.hid (show opTo k.vars k.ops (j + 1) = some (made, (d + 1)) by rw [HNX.out]; unfold opStep; rw [if_neg (by rw [HONK.out]; simp), if_neg (by rw [HANY.out]; simp)]; dsimp only; rw [HE.out, if_neg (by omega), if_neg hd0])
          clear hbd hd0
          go_wp2
          go_roundw
          case rel => exact ⟨j + 1, _, _, hlt, by go_num, rfl, rfl, HN, HMW.out, HBD.out⟩
          case measure => simp [intOf]; omega
      have e15 : (o.kind == 15) = false := beq_eq_false_iff_ne.2 h15
      by_cases h16 : o.kind = 16
      · have e16 : (o.kind == 16) = true := by rw [beq_iff_eq]; exact h16
        have HE := Lib.hid (show (if o.kind = 15 then d + 1 else if o.kind = 16 then d - 1 else d) = d - 1 by rw [if_neg h15, if_pos h16])
        have hw1 : IntKind.i64.wrap (d - 1) = d - 1 := by rw [IntKind.wrap_i64]; omega
        clear h15 h16
        cases d6 : decide ((d - 1) < 0)
        rotate_left
        · have HN := Lib.hid (show opTo k.vars k.ops (j + 1) = none by rw [HNX.out]; unfold opStep; rw [if_neg (by rw [HONK.out]; simp), if_neg (by rw [HANY.out]; simp)]; dsimp only; rw [HE.out, if_pos (.inl (by simpa using d6))])
          go_wp2
          exact K2.out (HNO.out HN.out) _ _ _ _ _ _ _ _ _ _ _ _ _ _ _ _ _ _ _ _ _ _ _ _ _ _ _ _ _ _ _ _ _ _ _ _ _ _ _ _ _ _ HMW.out.below
        cases d7 : decide (4 < (d - 1))
        rotate_left
        · have HN := Lib.hid (show opTo k.vars k.ops (j + 1) = none by rw [HNX.out]; unfold opStep; rw [if_neg (by rw [HONK.out]; simp), if_neg (by rw [HANY.out]; simp)]; dsimp only; rw [HE.out, if_pos (.inr (by simpa using d7))])
          go_wp2
          exact K2.out (HNO.out HN.out) _ _ _ _ _ _ _ _ _ _ _ _ _ _ _ _ _ _ _ _ _ _ _ _ _ _ _ _ _ _ _ _ _ _ _ _ _ _ _ _ _ _ HMW.out.below
        have hbd : 0 ≤ (d - 1) ∧ (d - 1) ≤ 4 := by have := of_decide_eq_false d6; have := of_decide_eq_false d7; omega
        have HBD := Lib.hid hbd
        by_cases hd0 : 0 ≤ o.d
        · have d8 : decide (0 ≤ o.d) = true := decide_eq_true hd0
          have HN := Lib.hid (show opTo k.vars k.ops (j + 1) = some (made.set o.d.toNat true, (d - 1)) by rw [HNX.out]; unfold opStep; rw [if_neg (by rw [HONK.out]; simp), if_neg (by rw [HANY.out]; simp)]; dsimp only; rw [HE.out, if_neg (by omega), if_pos hd0])
          obtain ⟨m, hm⟩ : ∃ m : Nat, o.d = m := ⟨o.d.toNat, by omega⟩
          have hml : m < nv := by have := HDL.out; omega
          obtain ⟨b, hb⟩ : ∃ b, made[m]? = some b := ⟨_, List.getElem?_eq_getElem (by rw [HMW.out.len]; exact hml)⟩
          have g0 := HMW.out.cell
          have g1 := HMW.out.at_ hb
          have g2 := HMW.out.frozen m
          have HS := Lib.hid (HMW.out.set m true)
          have HDM := Lib.hid hm
          have i5 : (0 : Int) ≤ (m : Int) := by omega
          have i6 : (m : Int) < (nv : Int) := by omega
          have i7 : IntKind.i64.wrap (m : Int) = m := by rw [IntKind.wrap_i64]; omega
          rw [hm] at y1 d8 HN
          rw [Int.toNat_natCast] at HN
          clear hm hml hb hbd hd0
          go_wp2
          go_roundw
          case rel => exact ⟨j + 1, _, _, hlt, by go_num, rfl, rfl, HN, HS.out, HBD.out⟩
          case measure => simp [intOf]; omega
        · have d8 : decide (0 ≤ o.d) = false := decide_eq_false hd0
          have HN := Lib.hid (show opTo k.vars k.ops (j + 1) = some (made, (d - 1)) by rw [HNX.out]; unfold opStep; rw [if_neg (by rw [HONK.out]; simp), if_neg (by rw [HANY.out]; simp)]; dsimp only; rw [HE.out, if_neg (by omega), if_neg hd0])
          clear hbd hd0
          go_wp2
          go_roundw
          case rel => exact ⟨j + 1, _, _, hlt, by go_num, rfl, rfl, HN, HMW.out, HBD.out⟩
          case measure => simp [intOf]; omega
      have e16 : (o.kind == 16) = false := beq_eq_false_iff_ne.2 h16
      have HE := Lib.hid (show (if o.kind = 15 then d + 1 else if o.kind = 16 then d - 1 else d) = d by rw [if_neg h15, if_neg h16])
      clear h15 h16
      cases d6 : decide (d < 0)
      rotate_left
      · have HN := Lib.hid (show opTo k.vars k.ops (j + 1) = none by rw [HNX.out]; unfold opStep; rw [if_neg (by rw [HONK.out]; simp), if_neg (by rw [HANY.out]; simp)]; dsimp only; rw [HE.out, if_pos (.inl (by simpa using d6))])
        go_wp2
        exact K2.out (HNO.out HN.out) _ _ _ _ _ _ _ _ _ _ _ _ _ _ _ _ _ _ _ _ _ _ _ _ _ _ _ _ _ _ _ _ _ _ _ _ _ _ _ _ _ _ HMW.out.below
      cases d7 : decide (4 < d)
      rotate_left
      · have HN := Lib.hid (show opTo k.vars k.ops (j + 1) = none by rw [HNX.out]; unfold opStep; rw [if_neg (by rw [HONK.out]; simp), if_neg (by rw [HANY.out]; simp)]; dsimp only; rw [HE.out, if_pos (.inr (by simpa using d7))])
        go_wp2
        exact K2.out (HNO.out HN.out) _ _ _ _ _ _ _ _ _ _ _ _ _ _ _ _ _ _ _ _ _ _ _ _ _ _ _ _ _ _ _ _ _ _ _ _ _ _ _ _ _ _ HMW.out.below
      have hbd : 0 ≤ d ∧ d ≤ 4 := by have := of_decide_eq_false d6; have := of_decide_eq_false d7; omega
      have HBD := Lib.hid hbd
      by_cases hd0 : 0 ≤ o.d
      · have d8 : decide (0 ≤ o.d) = true := decide_eq_true hd0
        have HN := Lib.hid (show opTo k.vars k.ops (j + 1) = some (made.set o.d.toNat true, d) by rw [HNX.out]; unfold opStep; rw [if_neg (by rw [HONK.out]; simp), if_neg (by rw [HANY.out]; simp)]; dsimp only; rw [HE.out, if_neg (by omega), if_pos hd0])
        obtain ⟨m, hm⟩ : ∃ m : Nat, o.d = m := ⟨o.d.toNat, by omega⟩
        have hml : m < nv := by have := HDL.out; omega
        obtain ⟨b, hb⟩ : ∃ b, made[m]? = some b := ⟨_, List.getElem?_eq_getElem (by rw [HMW.out.len]; exact hml)⟩
        have g0 := HMW.out.cell
        have g1 := HMW.out.at_ hb
        have g2 := HMW.out.frozen m
        have HS := Lib.hid (HMW.out.set m true)
        have HDM := Lib.hid hm
        have i5 : (0 : Int) ≤ (m : Int) := by omega
        have i6 : (m : Int) < (nv : Int) := by omega
        have i7 : IntKind.i64.wrap (m : Int) = m := by rw [IntKind.wrap_i64]; omega
        rw [hm] at y1 d8 HN
        rw [Int.toNat_natCast] at HN
        clear hm hml hb hbd hd0
        go_wp2
        go_roundw
        case rel => exact ⟨j + 1, _, _, hlt, by go_num, rfl, rfl, HN, HS.out, HBD.out⟩
        case measure => simp [intOf]; omega
      · have d8 : decide (0 ≤ o.d) = false := decide_eq_false hd0
        have HN := Lib.hid (show opTo k.vars k.ops (j + 1) = some (made, d) by rw [HNX.out]; unfold opStep; rw [if_neg (by rw [HONK.out]; simp), if_neg (by rw [HANY.out]; simp)]; dsimp only; rw [HE.out, if_neg (by omega), if_neg hd0])
        clear hbd hd0
        go_wp2
        go_roundw
        case rel => exact ⟨j + 1, _, _, hlt, by go_num, rfl, rfl, HN, HMW.out, HBD.out⟩
        case measure => simp [intOf]; omega
    · have d1 : decide (j < no) = false := decide_eq_false hlt
      have HN := Lib.hid (show opTo k.vars k.ops k.ops.length = some (made, d) by rw [← HT.out]; congr 1; have := HNO2.out; omega)
      clear hm
      go_wp2
      exact K1.out made d _ _ _ _ _ _ _ _ _ _ _ _ _ _ _ _ _ _ _ _ _ _ _ _ _ _ _ _ _ _ _ _ _ _ _ _ _ _ _ _ _ ⟨HN.out, HMR.out⟩

set_option maxRecDepth 100000 in
set_option maxHeartbeats 8000000 in
theorem chk_l7 {Av Ao Ar : Option Addr} {nv cv no co nr cr b0 bm gm : Nat} {k : Krn} {w0 : World} {made : List Bool} (w : World) (Q : Exit → Act → World → Prop) {u0 u4 u5 u7 u8 u9 u10 u11 u12 u13 u14 u15 u16 u17 u18 u19 u20 u21 u22 u23 u24 u25 u26 u27 u28 u29 u30 u31 u32 u33 u34 u35 u36 u37 u38 u39 u40 u41 u42 u43 u44 u45 u46 u47 u48 u49 u50 u51 u52 u53 u54 u55 u56 u57 u58 u59 u60 u61 u62 u63 u64 u65 u66 u67 u68 u69 u70 u71 u72 u73 u74 u75 u76 u77 u78 u79 u80 u81 u82 u83 u84 u85 u86 u87 u88 u89 u90 u91 u92 u93 u94 u95 u96 u97 u98 u99 u100 u101 u102 u103 u104 u105 u106 u107 u108 u109 u110 u111 u112 u113 u114 u115 u116 u117 u118 u119 u120 u123 u124 u125 u126 u127 u128 u129 u130 u131 u132 u133 u134 u135 u136 u137 : Value} (hk : KBox w0 b0 Av nv cv Ao no co Ar nr cr k) (hm : MadeAt w0 w bm gm nv made) (hok : k.vars.length ≤ 100000)
    (k1 : (List.range k.vars.length).all (fun i : Nat => !outK k.vars (i : Nat) || made.getD i false) = true → ∀ (v12 v122 v123 v124 v125 v126 v127 v128 v129 v130 v131 v132 v133 v134 v135 : Value) (w' : World), MadeAt w0 w' bm gm nv made → Q ((.exit 7)) ⟨#[u0, .pointer (some ⟨b0, 0, none⟩), .int .i64 0, .func (.func 60) #[] #[.pointer (some ⟨b0, 0, none⟩)], u4, u5, .pointer (some ⟨bm, 0, none⟩), u7, u8, u9, u10, u11, v12, u13, u14, u15, u16, u17, u18, u19, u20, u21, u22, u23, u24, u25, u26, u27, u28, u29, u30, u31, u32, u33, u34, u35, u36, u37, u38, u39, u40, u41, u42, u43, u44, u45, u46, u47, u48, u49, u50, u51, u52, u53, u54, u55, u56, u57, u58, u59, u60, u61, u62, u63, u64, u65, u66, u67, u68, u69, u70, u71, u72, u73, u74, u75, u76, u77, u78, u79, u80, u81, u82, u83, u84, u85, u86, u87, u88, u89, u90, u91, u92, u93, u94, u95, u96, u97, u98, u99, u100, u101, u102, u103, u104, u105, u106, u107, u108, u109, u110, u111, u112, u113, u114, u115, u116, u117, u118, u119, u120, .int .i64 (nv : Nat), v122, v123, v124, v125, v126, v127, v128, v129, v130, v131, v132, v133, v134, v135, u136, u137], []⟩ w') (k2 : (List.range k.vars.length).all (fun i : Nat => !outK k.vars (i : Nat) || made.getD i false) = false → ∀ (v12 v122 v123 v124 v125 v126 v127 v128 v129 v130 v131 v132 v133 v134 v135 : Value) (w' : World), Below w0.heap.size w0 w' → Q (.ret) ⟨#[u0, .pointer (some ⟨b0, 0, none⟩), .int .i64 2, .func (.func 60) #[] #[.pointer (some ⟨b0, 0, none⟩)], u4, u5, .pointer (some ⟨bm, 0, none⟩), u7, u8, u9, u10, u11, v12, u13, u14, u15, u16, u17, u18, u19, u20, u21, u22, u23, u24, u25, u26, u27, u28, u29, u30, u31, u32, u33, u34, u35, u36, u37, u38, u39, u40, u41, u42, u43, u44, u45, u46, u47, u48, u49, u50, u51, u52, u53, u54, u55, u56, u57, u58, u59, u60, u61, u62, u63, u64, u65, u66, u67, u68, u69, u70, u71, u72, u73, u74, u75, u76, u77, u78, u79, u80, u81, u82, u83, u84, u85, u86, u87, u88, u89, u90, u91, u92, u93, u94, u95, u96, u97, u98, u99, u100, u101, u102, u103, u104, u105, u106, u107, u108, u109, u110, u111, u112, u113, u114, u115, u116, u117, u118, u119, u120, .int .i64 (nv : Nat), v122, v123, v124, v125, v126, v127, v128, v129, v130, v131, v132, v133, v134, v135, u136, u137], []⟩ w') : (partL Tryz.f37 7).wp Tryz.prog Q ⟨#[u0, .pointer (some ⟨b0, 0, none⟩), .int .i64 0, .func (.func 60) #[] #[.pointer (some ⟨b0, 0, none⟩)], u4, u5, .pointer (some ⟨bm, 0, none⟩), u7, u8, u9, u10, u11, u12, u13, u14, u15, u16, u17, u18, u19, u20, u21, u22, u23, u24, u25, u26, u27, u28, u29, u30, u31, u32, u33, u34, u35, u36, u37, u38, u39, u40, u41, u42, u43, u44, u45, u46, u47, u48, u49, u50, u51, u52, u53, u54, u55, u56, u57, u58, u59, u60, u61, u62, u63, u64, u65, u66, u67, u68, u69, u70, u71, u72, u73, u74, u75, u76, u77, u78, u79, u80, u81, u82, u83, u84, u85, u86, u87, u88, u89, u90, u91, u92, u93, u94, u95, u96, u97, u98, u99, u100, u101, u102, u103, u104, u105, u106, u107, u108, u109, u110, u111, u112, u113, u114, u115, u116, u117, u118, u119, u120, .int .i64 (nv : Nat), .int .i64 0, u123, u124, u125, u126, u127, u128, u129, u130, u131, u132, u133, u134, u135, u136, u137], []⟩ w := by
  have HK := Lib.hid hk
  have HM := Lib.hid hm
  have K1 := Lib.hid k1
  have K2 := Lib.hid k2
  have HNV := Lib.hid hk.nv.1
  have n5 : nv ≤ 100000 := by have := hk.nv.1; omega
  clear hk hok k1 k2 hm
  conv => arg 2; whnf
  go_wp2
  go_loopw [2, 12, 122] (fun s2 _ i wr => ∃ j : Nat, j ≤ nv ∧ i = .int .i64 j ∧ s2 = .int .i64 0 ∧ Hid (((List.range k.vars.length).take j).all (fun i : Nat => !outK k.vars (i : Nat) || made.getD i false) = true) ∧ MadeAt w0 wr bm gm nv made) (fun _ _ i _ => nv - (intOf i).toNat)
  case atStart => exact ⟨0, by omega, rfl, rfl, Lib.hid rfl, HM.out⟩
  case round =>
    obtain ⟨j, hj, rfl, rfl, HT, hm⟩ := hrel
    have HMR := Lib.hid hm
    by_cases hlt : j < nv
    · have d1 : decide (j < nv) = true := decide_eq_true hlt
      obtain ⟨b, hb⟩ : ∃ b, made[j]? = some b := ⟨_, List.getElem?_eq_getElem (by rw [hm.len]; exact hlt)⟩
      have hbd : made.getD j false = b := by rw [List.getD_eq_getElem?_getD, hb]; rfl
      have hr : (List.range k.vars.length)[j]? = some j := by rw [List.getElem?_range (by have := HNV.out; omega)]
      have HC1 := Lib.hid (fun (w1 : World) (h1 : Below w0.heap.size w0 w1) => chk1_any (j : Int) k.vars Av nv cv b0 w1 _ (HK.out.next h1).c0 (HK.out.next h1).vars (by have := HNV.out; omega))
      have i0 : (0 : Int) ≤ (j : Int) := by omega
      have i1 : (j : Int) < (nv : Int) := by omega
      have i2 : IntKind.i64.wrap (j : Int) = j := by rw [IntKind.wrap_i64]; omega
      have HB := Lib.hid hb
      have HR := Lib.hid hr
      have HBD := Lib.hid hbd
      obtain ⟨q, hq⟩ : ∃ q, outK k.vars (j : Int) = q := ⟨_, rfl⟩
      have HQ := Lib.hid hq
      rw [hq] at HC1
      clear hm hb hr hbd hq
      cases q
      · have HN := Lib.hid (alls_next HT.out HR.out (by rw [HQ.out]; rfl))
        go_wp2_with (first | ((with_reducible refine (HC1.out _ HMR.out.below).mono ?_); rintro e w1 ⟨rfl, hb1⟩; have HM1 := Lib.hid (HMR.out.next hb1); clear hb1) | go_in)
        go_roundw
        case rel => exact ⟨j + 1, hlt, by go_num, rfl, HN, HM1.out⟩
        case measure => simp [intOf]; omega
      · cases b
        · have HN := Lib.hid (alls_here (l := List.range k.vars.length) (p := fun i : Nat => !outK k.vars (i : Nat) || made.getD i false) HR.out (by rw [HQ.out, HBD.out]; rfl))
          go_wp2_with (first | ((with_reducible refine (HC1.out _ HMR.out.below).mono ?_); rintro e w1 ⟨rfl, hb1⟩; have HM1 := Lib.hid (HMR.out.next hb1); have g0 := HM1.out.cell; have g1 := HM1.out.at_ HB.out; clear hb1) | go_in)
          exact K2.out HN.out _ _ _ _ _ _ _ _ _ _ _ _ _ _ _ _ HM1.out.below
        · have HN := Lib.hid (alls_next HT.out HR.out (by rw [HQ.out, HBD.out]; rfl))
          go_wp2_with (first | ((with_reducible refine (HC1.out _ HMR.out.below).mono ?_); rintro e w1 ⟨rfl, hb1⟩; have HM1 := Lib.hid (HMR.out.next hb1); have g0 := HM1.out.cell; have g1 := HM1.out.at_ HB.out; clear hb1) | go_in)
          go_roundw
          case rel => exact ⟨j + 1, hlt, by go_num, rfl, HN, HM1.out⟩
          case measure => simp [intOf]; omega
    · have d1 : decide (j < nv) = false := decide_eq_false hlt
      have HN := Lib.hid (alls_whole HT.out (by rw [List.length_range]; have := HNV.out; omega))
      clear hm
      go_wp2
      exact K1.out HN.out _ _ _ _ _ _ _ _ _ _ _ _ _ _ _ _ HMR.out
end Go.Proofs.YtjbabpnepjhllaaGreat
