/- slices.Repeat of one element, at ints and spans. -/
import Derived.Test.YtppoiahhaclleaaDoorLimbJ
import Derived.Test.YtppoiahhaclleaaDoorShelf
import Derived.Laws.CopyRow
import Derived.Laws.MakeOwn
namespace Go.Proofs.YtppoiahhaclleaaDoor
open Go.RowKit

/-- copy, from rows of a block into another place of a block. -/
theorem run_copyR {w : World} (sz : Nat) (t ty e : TypeId) (hu : Tryd.prog.underlying t = some (.slice e)) (hi : (Tryd.prog.info? e).map (·.size) = some sz)
    {g g2 off off2 dLen dCap sLen sCap : Nat} (cur : Array Value) (t' : TypeId) (hg : w.heap[g]? = some (.cells cur t' (0, 0)))
    (cs : List Value) (hcs : cs.length = Nat.min sLen dLen * sz) (hsrc : ∀ j v, cs[j]? = some v → w.cell? ⟨g2, off2 + j, none⟩ = some v) (hfit : off + cs.length ≤ cur.size) (h1 : ∀ v ∈ cs, v.oneCell' = true) :
    (Builtin.copy_ #[t, t] ty #[.slice (some ⟨g, off, none⟩) dLen dCap, .slice (some ⟨g2, off2, none⟩) sLen sCap]).run Tryd.prog w = .ok (.int .i64 (Nat.min sLen dLen : Nat)) (w.setRow g (cur.toList.take off ++ cs ++ cur.toList.drop (off + cs.length)).toArray) := by
  have hl := run_loadCells_list (P := Tryd.prog) w ⟨g2, off2, none⟩ cs (fun j v hv => by rw [sep_add]; exact hsrc j v hv)
  have hst := run_storeCells_at Tryd.prog g off t' cs 0 cur w hg (by simpa using hfit) h1
  cases hq : Tryd.prog.info? e with
  | none => simp [hq] at hi
  | some i =>
    have hi' : i.size = sz := by simpa [hq] using hi
    have hl' : (loadCells ⟨g2, off2, none⟩ (Nat.min sLen dLen * sz)).run Tryd.prog w = .ok cs.toArray w := by rw [← hcs]; exact hl
    simp [Builtin.copy_, run_underlying hu, Builtin.lenOf, Builtin.firstCells, sizeOf, typeInfo, hq, hi', hl', hst, goInt]
theorem exec_copy {o : Oper} {a : Act} {w w' : World} (d s : Operand) (t : TypeId) {vd vs r : Value} (hr : (Builtin.copy_ #[t, t] o.type #[vd, vs]).run Tryd.prog w = .ok r w') (ho : o.op = .call { callee := .builtin .copy, args := #[d, s], argTypes := #[t, t] }) (hd : a.eval d = vd) (hs : a.eval s = vs) :
    (execOp a.eval o).run Tryd.prog w = .ok (.value r) w' := by
  unfold execOp
  simp only [ho, resolve, invoke, builtin, hd, hs, List.map_toArray, List.map_cons, List.map_nil, Sem.run_bind, hr, Result.andThen_ok, Sem.run_pure]
/-- So many times. -/
def repV (x : List Value) (n : Nat) : List Value := (List.replicate n x).flatten
theorem repV_len (x : List Value) (n : Nat) : (repV x n).length = n * x.length := by simp [repV]
theorem repV_add (x : List Value) (m n : Nat) : repV x (m + n) = repV x m ++ repV x n := by unfold repV; rw [← List.replicate_append_replicate, List.flatten_append]
theorem repV_take (x : List Value) {m n : Nat} (h : m ≤ n) : (repV x n).take (m * x.length) = repV x m := by
  obtain ⟨d, rfl⟩ := Nat.exists_eq_add_of_le h
  rw [repV_add, ← repV_len, List.take_left]
theorem infoSp : (Tryd.prog.info? 68).map (fun i => (i.zero, i.size, i.bytes)) = some (some (.agg #[.int .i64 0, .int .i64 0]), 2, 16) := by kernel_rfl
theorem repV_grow (x rest : List Value) (k m : Nat) (sz : Nat) (hx : x.length = sz) : (repV x k ++ rest).take (k * sz) ++ repV x m ++ (repV x k ++ rest).drop (k * sz + (repV x m).length) = repV x (k + m) ++ rest.drop (m * sz) := by
  subst hx
  rw [repV_add, repV_len, ← repV_len x k, List.take_left, List.append_assoc, List.append_assoc]
  congr 2
  rw [List.drop_append, List.drop_of_length_le (by omega)]
  simp

theorem make_Int (n : Nat) (hn : n ≤ 65536) (w : World) : ∃ zs : Array Value, zs.size = n * 1 ∧ (Instr.makeSlice 35 (.int .i64 n) (.int .i64 n)).run Tryd.prog w = .ok (.slice (some ⟨w.heap.size, 0, none⟩) n n) (w.alloc (.cells zs 3)) := by
  obtain ⟨i0, hi, hz0, hz1, hz2⟩ := info_parts infoI
  have h := run_make (P := Tryd.prog) w 35 3 i0 (.int .i64 0) Tryd.underlying35 hi hz0 .i64 .i64 n n (by omega) (by omega) (by rw [hz2]; omega) (by omega)
  rw [hz1] at h
  simp only [Int.toNat_natCast] at h
  exact ⟨_, size_madeCells _ _, h⟩

set_option maxRecDepth 100000 in
set_option maxHeartbeats 4000000 in
theorem Repeat_Int (x : List Value) (hxl : x.length = 1) (h1 : ∀ v ∈ x, v.oneCell' = true) (g0 o0 c0 n : Nat) (hn : n ≤ 65536) (w : World) (hg0 : g0 < w.heap.size) (hx : ∀ j v, x[j]? = some v → w.cell? ⟨g0, o0 + j, none⟩ = some v) :
    Calls Tryd.prog 84 #[.slice (some ⟨g0, o0, none⟩) 1 c0, .int .i64 n] w fun e w' => e = .returned (.slice (some ⟨w.heap.size, 0, none⟩) n n) ∧ w'.heap[w.heap.size]? = some (.cells (repV x n).toArray 3 (0, 0)) ∧ Below w.heap.size w w' := by
  obtain ⟨zs, hzs, hmk⟩ := make_Int n hn w
  have hone : ∀ k, ∀ v ∈ repV x k, v.oneCell' = true := fun k v hv => by
    unfold repV at hv
    rw [List.mem_flatten] at hv
    obtain ⟨l, hl, hvl⟩ := hv
    rw [(List.mem_replicate.1 hl).2] at hvl
    exact h1 v hvl
  have hmul := Tryd.bits_Mul 1 n (by omega) (by omega)
  have e1 : (1 * n / 18446744073709551616 : Nat) = 0 := Nat.div_eq_of_lt (by omega)
  have e2 : (1 * n % 18446744073709551616 : Nat) = n := by rw [Nat.mod_eq_of_lt (by omega), Nat.one_mul]
  rw [e1, e2] at hmul
  have HMUL := Lib.hid (show ∀ w, Calls Tryd.prog 70 #[.int .u64 1, .int .u64 (n : Int)] w fun e w' => e = .returned (.tuple #[.int .u64 0, .int .u64 (n : Int)]) ∧ w' = w from hmul)
  have w1 : IntKind.u64.wrap (n : Int) = n := by simp [IntKind.wrap, IntKind.bits, IntKind.signed]; omega
  have w2 : IntKind.i64.wrap (n : Int) = n := by simp [IntKind.wrap, IntKind.bits, IntKind.signed]; omega
  have d0 : decide ((n : Int) < 0) = false := decide_eq_false (by omega)
  have d1 : decide ((9223372036854775807 : Int) < (n : Int)) = false := decide_eq_false (by omega)
  obtain ⟨W, hW⟩ : ∃ W, W = w.alloc (.cells zs 3) := ⟨_, rfl⟩
  have hbW : Below w.heap.size w W := by rw [hW]; exact (Below.refl _ _).alloc (Nat.le_refl _) _
  have hg : W.heap[w.heap.size]? = some (.cells zs 3 (0, 0)) := by rw [hW]; exact heap_alloc_new w _
  obtain ⟨g, hgg⟩ : ∃ g, w.heap.size = g := ⟨_, rfl⟩
  have HG := Lib.hid hgg
  rw [hgg] at hg hmk hbW hg0
  rw [← hW] at hmk
  have HMK := Lib.hid hmk
  have HGB := Lib.hid hg
  have HBW := Lib.hid hbW
  have HX := Lib.hid hx
  have HXL := Lib.hid hxl
  have HZ := Lib.hid hzs
  have HONE := Lib.hid hone
  have HG0 := Lib.hid hg0
  clear hmul hW hmk hbW hg hzs e1 e2 hgg hx hxl hone hg0 h1
  rw [HG.out]
  go_enter Tryd.func84, Tryd.ntmps84
  go_upto_region 6 with ((with_reducible refine (HMUL.out _).mono ?_); rintro e w_ ⟨rfl, hw_⟩; obtain rfl := hw_.symm)
  have hmk := HMK.out
  go_upto_region 7 with fail
  have HM0 := Lib.hid (show Nat.min 1 n ≤ n ∧ (n = 0 ∨ 1 ≤ Nat.min 1 n) ∧ Nat.min 1 n ≤ 1 from ⟨Nat.min_le_right _ _, by by_cases h : n = 0; exact .inl h; exact .inr (Nat.le_min.2 ⟨Nat.le_refl _, by omega⟩), Nat.min_le_left _ _⟩)
  obtain ⟨m0, hm0⟩ : ∃ m, Nat.min 1 n = m := ⟨_, rfl⟩
  rw [hm0] at HM0
  have hlen0 : (repV x m0).length = m0 * 1 := by rw [repV_len, HXL.out]
  have hex : (Builtin.copy_ #[35, 35] 3 #[.slice (some ⟨g, 0, none⟩) n n, .slice (some ⟨g0, o0, none⟩) 1 c0]).run Tryd.prog W = .ok (.int .i64 (m0 : Nat)) (W.setRow g (repV x m0 ++ zs.toList.drop (m0 * 1)).toArray) := by
    have h := run_copyR (w := W) (g := g) (g2 := g0) (off := 0) (off2 := o0) (dLen := n) (dCap := n) (sLen := 1) (sCap := c0) 1 35 3 3 Tryd.underlying35 (by kernel_rfl) zs 3 HGB.out (repV x m0) (by rw [hm0, hlen0]) (fun j v hv => by
      have hj : j < (repV x m0).length := (List.getElem?_eq_some_iff.1 hv).1
      have hm1 : m0 = 1 := by have := HM0.out; rw [hlen0] at hj; by_cases h : m0 = 0; (rw [h] at hj; omega); omega
      rw [hm1] at hv
      rw [HBW.out.cell (p := ⟨g0, o0 + j, none⟩) HG0.out]
      exact HX.out j v (by simpa [repV] using hv)) (by rw [hlen0, HZ.out]; have := HM0.out.1; omega) (HONE.out m0)
    rw [hm0, hlen0] at h
    simpa using h
  obtain ⟨W1, hW1⟩ : ∃ q, q = W.setRow g (repV x m0 ++ zs.toList.drop (m0 * 1)).toArray := ⟨_, rfl⟩
  rw [← hW1] at hex
  have HS1 := Lib.hid (show W1.heap[g]? = some (.cells (repV x m0 ++ zs.toList.drop (m0 * 1)).toArray 3 (0, 0)) by rw [hW1]; exact setRow_heap _ _ _ _ _ _ HGB.out)
  have HB1 := Lib.hid (show Below g w W1 by rw [hW1]; exact HBW.out.trans ⟨rfl, rfl, rfl, by simp, fun k hk => setRow_other _ _ _ _ (fun e => by omega)⟩)
  have HL0 := Lib.hid (show (repV x m0 ++ zs.toList.drop (m0 * 1)).length = n * 1 by
    rw [List.length_append, List.length_drop, hlen0, Array.length_toList, HZ.out]
    have := HM0.out.1
    omega)
  clear hW1 hmk hm0 hlen0
  go_wp2
  clear hex d0 d1 w1 w2
  go_loopw [8] (fun i wr => ∃ (k : Nat) (rest : List Value), k ≤ n ∧ (n = 0 ∨ 1 ≤ k) ∧ i = .int .i64 k ∧ (repV x k ++ rest).length = n * 1 ∧ wr.heap[g]? = some (.cells (repV x k ++ rest).toArray 3 (0, 0)) ∧ Below g w wr) (fun i _ => n - (intOf i).toNat)
  case atStart => exact ⟨m0, _, HM0.out.1, HM0.out.2.1, rfl, HL0.out, HS1.out, HB1.out⟩
  case round =>
    obtain ⟨k, rest, hk, hk1, rfl, hlen, hblk, hbel⟩ := hrel
    have HLEN := Lib.hid hlen
    have HBLK := Lib.hid hblk
    have HBEL := Lib.hid hbel
    have HK1 := Lib.hid hk1
    clear hlen hblk hbel hk1
    by_cases hlt : k < n
    · have i0 : (0 : Int) ≤ (k : Int) := by omega
      have i1 : (k : Int) ≤ (n : Int) := by omega
      have d1 : decide (k < n) = true := decide_eq_true hlt
      obtain ⟨m, hm⟩ : ∃ m, Nat.min k (n - k) = m := ⟨_, rfl⟩
      have hmk : m ≤ k ∧ m ≤ n - k ∧ 1 ≤ m := by
        have h1 : Nat.min k (n - k) ≤ k := Nat.min_le_left k (n - k)
        have h2 : Nat.min k (n - k) ≤ n - k := Nat.min_le_right k (n - k)
        have h3 : 1 ≤ Nat.min k (n - k) := Nat.le_min.2 ⟨by have := HK1.out; omega, by omega⟩
        rw [hm] at h1 h2 h3
        exact ⟨by omega, by omega, by omega⟩
      have HM := Lib.hid hmk
      have HMM := Lib.hid hm
      have hwr : IntKind.i64.wrap ((k : Int) + (m : Int)) = (k : Int) + (m : Int) := by simp [IntKind.wrap, IntKind.bits, IntKind.signed]; omega
      have hlr : (repV x m).length = m * 1 := by rw [repV_len, HXL.out]
      have hlk : (repV x k).length = k * 1 := by rw [repV_len, HXL.out]
      have hcp := run_copyR (w := wr.drew) (g := g) (g2 := g) (off := k) (off2 := 0) (dLen := n - k) (dCap := n - k) (sLen := k) (sCap := n) 1 35 3 3 Tryd.underlying35 (by kernel_rfl) (repV x k ++ rest).toArray 3 HBLK.out (repV x m) (by rw [hm, hlr]) (fun j v hv => by
        have hj : j < (repV x m).length := (List.getElem?_eq_some_iff.1 hv).1
        have hv2 : (repV x k)[j]? = some v := by rw [← repV_take x hmk.1, List.getElem?_take] at hv; split at hv; exact hv; cases hv
        show World.cell? wr ⟨g, 0 + j, none⟩ = some v
        rw [Nat.zero_add]
        exact cell_row HBLK.out (by rw [List.getElem?_append_left (by rw [hlk]; rw [hlr] at hj; have := hmk.1; omega)]; exact hv2)) (by rw [hlr]; simp only [List.size_toArray, HLEN.out]; have := hmk.2.1; omega) (HONE.out m)
      have hgrow : ((repV x k ++ rest).toArray.toList.take (k) ++ repV x m ++ (repV x k ++ rest).toArray.toList.drop (k + (repV x m).length)) = repV x (k + m) ++ rest.drop (m * 1) := by
        have := repV_grow x rest k m 1 HXL.out
        simpa using this
      rw [hgrow, hm] at hcp
      obtain ⟨W2, hW2⟩ : ∃ q, q = wr.drew.setRow g (repV x (k + m) ++ rest.drop (m * 1)).toArray := ⟨_, rfl⟩
      rw [← hW2] at hcp
      have HCP := Lib.hid hcp
      have HS2 := Lib.hid (show W2.heap[g]? = some (.cells (repV x (k + m) ++ rest.drop (m * 1)).toArray 3 (0, 0)) by rw [hW2]; exact setRow_heap wr.drew _ _ _ _ _ HBLK.out)
      have HB2 := Lib.hid (show Below g w W2 by rw [hW2]; exact HBEL.out.drew.trans ⟨rfl, rfl, rfl, by simp, fun k hk => setRow_other _ _ _ _ (fun e => by omega)⟩)
      have HL2 := Lib.hid (show (repV x (k + m) ++ rest.drop (m * 1)).length = n * 1 by
        have := HLEN.out
        rw [List.length_append, List.length_drop, repV_len, HXL.out]
        rw [List.length_append, hlk] at this
        have := hmk.2.1
        omega)
      have hnk : (n = k) = False := by simp; omega
      clear hm hmk hcp hW2 hgrow hlr hlk
      go_upto_region 9 with fail
      (refine wp_region_lines (fun _ => True) (by kernel_rfl) (by kernel_rfl) trivial ?_)
      (try simp only [])
      repeat (first | (refine runL_no (by rfl) ?_; (try simp only [Act.put, List.setIfInBounds_toArray, List.set_cons_zero, List.set_cons_succ])) | (refine runL_val (v := ?_) (by rfl) ?_ ?_; rotate_left; (focus (intro w_ hw_; skip; go_simp; (try with_reducible rfl); done)); (try simp only [Act.put, List.setIfInBounds_toArray, List.set_cons_zero, List.set_cons_succ])) | (refine runL_op (v := .int .i64 (m : Nat)) (w1 := W2) (by rfl) (by rfl) (exec_copy _ _ 35 HCP.out rfl rfl rfl) (.inr trivial) ?_; (try simp only [Act.put, List.setIfInBounds_toArray, List.set_cons_zero, List.set_cons_succ])))
      (refine runL_nil ?_)
      clear hnk
      go_wp2
      go_roundw
      case rel => exact ⟨k + m, _, by have := HM.out; omega, by have := HM.out; omega, by go_num, HL2.out, HS2.out, HB2.out⟩
      case measure => simp [intOf]; have := HM.out; omega
    · have d1 : decide (k < n) = false := decide_eq_false hlt
      have hkn : k = n := by omega
      have HRES := Lib.hid (show wr.heap[g]? = some (.cells (repV x n).toArray 3 (0, 0)) by
        have h1 := HLEN.out
        have h2 := HBLK.out
        rw [hkn] at h1 h2
        rw [List.length_append, repV_len, HXL.out] at h1
        rw [List.eq_nil_of_length_eq_zero (by omega : rest.length = 0), List.append_nil] at h2
        exact h2)
      clear hkn
      go_wp2
      go_ret
      exact ⟨rfl, HRES.out, HBEL.out⟩
theorem make_Span (n : Nat) (hn : n ≤ 65536) (w : World) : ∃ zs : Array Value, zs.size = n * 2 ∧ (Instr.makeSlice 66 (.int .i64 n) (.int .i64 n)).run Tryd.prog w = .ok (.slice (some ⟨w.heap.size, 0, none⟩) n n) (w.alloc (.cells zs 68)) := by
  obtain ⟨i0, hi, hz0, hz1, hz2⟩ := info_parts infoSp
  have h := run_make (P := Tryd.prog) w 66 68 i0 (.agg #[.int .i64 0, .int .i64 0]) Tryd.underlying66 hi hz0 .i64 .i64 n n (by omega) (by omega) (by rw [hz2]; omega) (by omega)
  rw [hz1] at h
  simp only [Int.toNat_natCast] at h
  exact ⟨_, size_madeCells _ _, h⟩

set_option maxRecDepth 100000 in
set_option maxHeartbeats 4000000 in
theorem Repeat_Span (x : List Value) (hxl : x.length = 2) (h1 : ∀ v ∈ x, v.oneCell' = true) (g0 o0 c0 n : Nat) (hn : n ≤ 65536) (w : World) (hg0 : g0 < w.heap.size) (hx : ∀ j v, x[j]? = some v → w.cell? ⟨g0, o0 + j, none⟩ = some v) :
    Calls Tryd.prog 50 #[.slice (some ⟨g0, o0, none⟩) 1 c0, .int .i64 n] w fun e w' => e = .returned (.slice (some ⟨w.heap.size, 0, none⟩) n n) ∧ w'.heap[w.heap.size]? = some (.cells (repV x n).toArray 68 (0, 0)) ∧ Below w.heap.size w w' := by
  obtain ⟨zs, hzs, hmk⟩ := make_Span n hn w
  have hone : ∀ k, ∀ v ∈ repV x k, v.oneCell' = true := fun k v hv => by
    unfold repV at hv
    rw [List.mem_flatten] at hv
    obtain ⟨l, hl, hvl⟩ := hv
    rw [(List.mem_replicate.1 hl).2] at hvl
    exact h1 v hvl
  have hmul := Tryd.bits_Mul 1 n (by omega) (by omega)
  have e1 : (1 * n / 18446744073709551616 : Nat) = 0 := Nat.div_eq_of_lt (by omega)
  have e2 : (1 * n % 18446744073709551616 : Nat) = n := by rw [Nat.mod_eq_of_lt (by omega), Nat.one_mul]
  rw [e1, e2] at hmul
  have HMUL := Lib.hid (show ∀ w, Calls Tryd.prog 70 #[.int .u64 1, .int .u64 (n : Int)] w fun e w' => e = .returned (.tuple #[.int .u64 0, .int .u64 (n : Int)]) ∧ w' = w from hmul)
  have w1 : IntKind.u64.wrap (n : Int) = n := by simp [IntKind.wrap, IntKind.bits, IntKind.signed]; omega
  have w2 : IntKind.i64.wrap (n : Int) = n := by simp [IntKind.wrap, IntKind.bits, IntKind.signed]; omega
  have d0 : decide ((n : Int) < 0) = false := decide_eq_false (by omega)
  have d1 : decide ((9223372036854775807 : Int) < (n : Int)) = false := decide_eq_false (by omega)
  obtain ⟨W, hW⟩ : ∃ W, W = w.alloc (.cells zs 68) := ⟨_, rfl⟩
  have hbW : Below w.heap.size w W := by rw [hW]; exact (Below.refl _ _).alloc (Nat.le_refl _) _
  have hg : W.heap[w.heap.size]? = some (.cells zs 68 (0, 0)) := by rw [hW]; exact heap_alloc_new w _
  obtain ⟨g, hgg⟩ : ∃ g, w.heap.size = g := ⟨_, rfl⟩
  have HG := Lib.hid hgg
  rw [hgg] at hg hmk hbW hg0
  rw [← hW] at hmk
  have HMK := Lib.hid hmk
  have HGB := Lib.hid hg
  have HBW := Lib.hid hbW
  have HX := Lib.hid hx
  have HXL := Lib.hid hxl
  have HZ := Lib.hid hzs
  have HONE := Lib.hid hone
  have HG0 := Lib.hid hg0
  clear hmul hW hmk hbW hg hzs e1 e2 hgg hx hxl hone hg0 h1
  rw [HG.out]
  go_enter Tryd.func50, Tryd.ntmps50
  go_upto_region 6 with ((with_reducible refine (HMUL.out _).mono ?_); rintro e w_ ⟨rfl, hw_⟩; obtain rfl := hw_.symm)
  have hmk := HMK.out
  go_upto_region 7 with fail
  have HM0 := Lib.hid (show Nat.min 1 n ≤ n ∧ (n = 0 ∨ 1 ≤ Nat.min 1 n) ∧ Nat.min 1 n ≤ 1 from ⟨Nat.min_le_right _ _, by by_cases h : n = 0; exact .inl h; exact .inr (Nat.le_min.2 ⟨Nat.le_refl _, by omega⟩), Nat.min_le_left _ _⟩)
  obtain ⟨m0, hm0⟩ : ∃ m, Nat.min 1 n = m := ⟨_, rfl⟩
  rw [hm0] at HM0
  have hlen0 : (repV x m0).length = m0 * 2 := by rw [repV_len, HXL.out]
  have hex : (Builtin.copy_ #[66, 66] 3 #[.slice (some ⟨g, 0, none⟩) n n, .slice (some ⟨g0, o0, none⟩) 1 c0]).run Tryd.prog W = .ok (.int .i64 (m0 : Nat)) (W.setRow g (repV x m0 ++ zs.toList.drop (m0 * 2)).toArray) := by
    have h := run_copyR (w := W) (g := g) (g2 := g0) (off := 0) (off2 := o0) (dLen := n) (dCap := n) (sLen := 1) (sCap := c0) 2 66 3 68 Tryd.underlying66 (by kernel_rfl) zs 68 HGB.out (repV x m0) (by rw [hm0, hlen0]) (fun j v hv => by
      have hj : j < (repV x m0).length := (List.getElem?_eq_some_iff.1 hv).1
      have hm1 : m0 = 1 := by have := HM0.out; rw [hlen0] at hj; by_cases h : m0 = 0; (rw [h] at hj; omega); omega
      rw [hm1] at hv
      rw [HBW.out.cell (p := ⟨g0, o0 + j, none⟩) HG0.out]
      exact HX.out j v (by simpa [repV] using hv)) (by rw [hlen0, HZ.out]; have := HM0.out.1; omega) (HONE.out m0)
    rw [hm0, hlen0] at h
    simpa using h
  obtain ⟨W1, hW1⟩ : ∃ q, q = W.setRow g (repV x m0 ++ zs.toList.drop (m0 * 2)).toArray := ⟨_, rfl⟩
  rw [← hW1] at hex
  have HS1 := Lib.hid (show W1.heap[g]? = some (.cells (repV x m0 ++ zs.toList.drop (m0 * 2)).toArray 68 (0, 0)) by rw [hW1]; exact setRow_heap _ _ _ _ _ _ HGB.out)
  have HB1 := Lib.hid (show Below g w W1 by rw [hW1]; exact HBW.out.trans ⟨rfl, rfl, rfl, by simp, fun k hk => setRow_other _ _ _ _ (fun e => by omega)⟩)
  have HL0 := Lib.hid (show (repV x m0 ++ zs.toList.drop (m0 * 2)).length = n * 2 by
    rw [List.length_append, List.length_drop, hlen0, Array.length_toList, HZ.out]
    have := HM0.out.1
    omega)
  clear hW1 hmk hm0 hlen0
  go_wp2
  clear hex d0 d1 w1 w2
  go_loopw [8] (fun i wr => ∃ (k : Nat) (rest : List Value), k ≤ n ∧ (n = 0 ∨ 1 ≤ k) ∧ i = .int .i64 k ∧ (repV x k ++ rest).length = n * 2 ∧ wr.heap[g]? = some (.cells (repV x k ++ rest).toArray 68 (0, 0)) ∧ Below g w wr) (fun i _ => n - (intOf i).toNat)
  case atStart => exact ⟨m0, _, HM0.out.1, HM0.out.2.1, rfl, HL0.out, HS1.out, HB1.out⟩
  case round =>
    obtain ⟨k, rest, hk, hk1, rfl, hlen, hblk, hbel⟩ := hrel
    have HLEN := Lib.hid hlen
    have HBLK := Lib.hid hblk
    have HBEL := Lib.hid hbel
    have HK1 := Lib.hid hk1
    clear hlen hblk hbel hk1
    by_cases hlt : k < n
    · have i0 : (0 : Int) ≤ (k : Int) := by omega
      have i1 : (k : Int) ≤ (n : Int) := by omega
      have d1 : decide (k < n) = true := decide_eq_true hlt
      obtain ⟨m, hm⟩ : ∃ m, Nat.min k (n - k) = m := ⟨_, rfl⟩
      have hmk : m ≤ k ∧ m ≤ n - k ∧ 1 ≤ m := by
        have h1 : Nat.min k (n - k) ≤ k := Nat.min_le_left k (n - k)
        have h2 : Nat.min k (n - k) ≤ n - k := Nat.min_le_right k (n - k)
        have h3 : 1 ≤ Nat.min k (n - k) := Nat.le_min.2 ⟨by have := HK1.out; omega, by omega⟩
        rw [hm] at h1 h2 h3
        exact ⟨by omega, by omega, by omega⟩
      have HM := Lib.hid hmk
      have HMM := Lib.hid hm
      have hwr : IntKind.i64.wrap ((k : Int) + (m : Int)) = (k : Int) + (m : Int) := by simp [IntKind.wrap, IntKind.bits, IntKind.signed]; omega
      have hlr : (repV x m).length = m * 2 := by rw [repV_len, HXL.out]
      have hlk : (repV x k).length = k * 2 := by rw [repV_len, HXL.out]
      have hcp := run_copyR (w := wr.drew) (g := g) (g2 := g) (off := k * 2) (off2 := 0) (dLen := n - k) (dCap := n - k) (sLen := k) (sCap := n) 2 66 3 68 Tryd.underlying66 (by kernel_rfl) (repV x k ++ rest).toArray 68 HBLK.out (repV x m) (by rw [hm, hlr]) (fun j v hv => by
        have hj : j < (repV x m).length := (List.getElem?_eq_some_iff.1 hv).1
        have hv2 : (repV x k)[j]? = some v := by rw [← repV_take x hmk.1, List.getElem?_take] at hv; split at hv; exact hv; cases hv
        show World.cell? wr ⟨g, 0 + j, none⟩ = some v
        rw [Nat.zero_add]
        exact cell_row HBLK.out (by rw [List.getElem?_append_left (by rw [hlk]; rw [hlr] at hj; have := hmk.1; omega)]; exact hv2)) (by rw [hlr]; simp only [List.size_toArray, HLEN.out]; have := hmk.2.1; omega) (HONE.out m)
      have hgrow : ((repV x k ++ rest).toArray.toList.take (k * 2) ++ repV x m ++ (repV x k ++ rest).toArray.toList.drop (k * 2 + (repV x m).length)) = repV x (k + m) ++ rest.drop (m * 2) := by
        have := repV_grow x rest k m 2 HXL.out
        simpa using this
      rw [hgrow, hm] at hcp
      obtain ⟨W2, hW2⟩ : ∃ q, q = wr.drew.setRow g (repV x (k + m) ++ rest.drop (m * 2)).toArray := ⟨_, rfl⟩
      rw [← hW2] at hcp
      have HCP := Lib.hid hcp
      have HS2 := Lib.hid (show W2.heap[g]? = some (.cells (repV x (k + m) ++ rest.drop (m * 2)).toArray 68 (0, 0)) by rw [hW2]; exact setRow_heap wr.drew _ _ _ _ _ HBLK.out)
      have HB2 := Lib.hid (show Below g w W2 by rw [hW2]; exact HBEL.out.drew.trans ⟨rfl, rfl, rfl, by simp, fun k hk => setRow_other _ _ _ _ (fun e => by omega)⟩)
      have HL2 := Lib.hid (show (repV x (k + m) ++ rest.drop (m * 2)).length = n * 2 by
        have := HLEN.out
        rw [List.length_append, List.length_drop, repV_len, HXL.out]
        rw [List.length_append, hlk] at this
        have := hmk.2.1
        omega)
      have hnk : (n = k) = False := by simp; omega
      clear hm hmk hcp hW2 hgrow hlr hlk
      go_upto_region 9 with fail
      (refine wp_region_lines (fun _ => True) (by kernel_rfl) (by kernel_rfl) trivial ?_)
      (try simp only [])
      repeat (first | (refine runL_no (by rfl) ?_; (try simp only [Act.put, List.setIfInBounds_toArray, List.set_cons_zero, List.set_cons_succ])) | (refine runL_val (v := ?_) (by rfl) ?_ ?_; rotate_left; (focus (intro w_ hw_; skip; go_simp; (try with_reducible rfl); done)); (try simp only [Act.put, List.setIfInBounds_toArray, List.set_cons_zero, List.set_cons_succ])) | (refine runL_op (v := .int .i64 (m : Nat)) (w1 := W2) (by rfl) (by rfl) (exec_copy _ _ 66 HCP.out rfl rfl rfl) (.inr trivial) ?_; (try simp only [Act.put, List.setIfInBounds_toArray, List.set_cons_zero, List.set_cons_succ])))
      (refine runL_nil ?_)
      clear hnk
      go_wp2
      go_roundw
      case rel => exact ⟨k + m, _, by have := HM.out; omega, by have := HM.out; omega, by go_num, HL2.out, HS2.out, HB2.out⟩
      case measure => simp [intOf]; have := HM.out; omega
    · have d1 : decide (k < n) = false := decide_eq_false hlt
      have hkn : k = n := by omega
      have HRES := Lib.hid (show wr.heap[g]? = some (.cells (repV x n).toArray 68 (0, 0)) by
        have h1 := HLEN.out
        have h2 := HBLK.out
        rw [hkn] at h1 h2
        rw [List.length_append, repV_len, HXL.out] at h1
        rw [List.eq_nil_of_length_eq_zero (by omega : rest.length = 0), List.append_nil] at h2
        exact h2)
      clear hkn
      go_wp2
      go_ret
      exact ⟨rfl, HRES.out, HBEL.out⟩
end Go.Proofs.YtppoiahhaclleaaDoor
