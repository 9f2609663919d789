/- States in blocks beside a memory, and rows of events: what a statement over steps holds on its way. -/
import Derived.Test.YtmanhikpccnfaaaGreatStepDo
import Derived.Test.YtmanhikpccnfaaaGreatEvs
import Derived.Deep.MidRow
namespace Go.Proofs.YtmanhikpccnfaaaGreat
open Go.RowKit

theorem wp_name {P : Program} {c : Code} {Q : Exit → Act → World → Prop} {a : Act} {w : World} (h : ∀ W, W = w → c.wp P Q a W) : c.wp P Q a w := h w rfl
section
variable {P : Program} {ops : Array Oper} {rest : List Oper} {o : Oper} {a : Act} {w : World} {Q : Exit → Act → World → Prop}
theorem wpList_val_ex (hg : o.guard = none) {v : Value} (h : (execOp a.eval o).run P w = .ok (.value v) w) (k : wpList P ops Q rest (a.put o.dst v) w) : wpList P ops Q (o :: rest) a w :=
  wpList_plain hg fun K hK => by unfold Oper.wp; rw [h]; exact hK _ _ k
theorem wpList_skip_ex (hg : o.guard = none) {w' : World} (h : (execOp a.eval o).run P w = .ok .skip w') (k : wpList P ops Q rest (a.put o.dst undef) w') : wpList P ops Q (o :: rest) a w :=
  wpList_plain hg fun K hK => by unfold Oper.wp; rw [h]; exact hK _ _ k
end

theorem wpList_val_w {P : Program} {ops : Array Oper} {rest : List Oper} {o : Oper} {a : Act} {w : World} {Q : Exit → Act → World → Prop} (hw : Region.wanted o (yielded ops a.tmps) = true) {v : Value} (h : (execOp a.eval o).run P w = .ok (.value v) w) (k : wpList P ops Q rest (a.put o.dst v) w) : wpList P ops Q (o :: rest) a w :=
  wpList_step fun K hK => by rw [if_pos hw]; unfold Oper.wp; rw [h]; exact hK _ _ k

structure Held (w0 w : World) (F : Nat → Prop) (m : Value) (rs : List Reg) (B : List (Nat × St)) (E : List (Value × List Ev)) : Prop where
  below : Below w0.heap.size w0 w
  mem : MemAt w F m rs
  lt : ∀ k, F k → k < w.heap.size
  ge : ∀ k, F k → w0.heap.size ≤ k
  nd : (B.map (·.1)).Nodup
  box : ∀ x ∈ B, w.heap[x.1]? = some (.cells (stRow x.2).toArray 25 (0, 0)) ∧ StOk x.2 ∧ ¬ F x.1 ∧ w0.heap.size ≤ x.1
  ev : ∀ x ∈ E, w.ownsRow w0.heap.size 47 2 x.1 x.2.length (x.2.map evRow).flatten ∧ ∀ g, x.1.ownBlock = some g → ¬ F g ∧ ∀ y ∈ B, y.1 ≠ g

section
variable {w0 w w' : World} {F : Nat → Prop} {m : Value} {rs rs' : List Reg} {B : List (Nat × St)} {E : List (Value × List Ev)}

theorem Held.get (h : Held w0 w F m rs B E) {i g : Nat} {s : St} (hi : B[i]? = some (g, s)) : w.heap[g]? = some (.cells (stRow s).toArray 25 (0, 0)) ∧ StOk s ∧ ¬ F g ∧ w0.heap.size ≤ g :=
  h.box (g, s) (List.mem_of_getElem? hi)
theorem Held.ok (h : Held w0 w F m rs B E) (i : Nat) {g : Nat} {s : St} (hi : B[i]? = some (g, s)) : StOk s := (h.get hi).2.1
theorem Held.cell (h : Held w0 w F m rs B E) (i k : Nat) {g : Nat} {s : St} (hi : B[i]? = some (g, s)) {v : Value} (hv : (stRow s)[k]? = some v) : w.cell? ⟨g, k, none⟩ = some v := by
  have h1 := (h.get hi).1
  simp only [World.cell?, h1]
  simpa using hv
theorem Held.frozen (h : Held w0 w F m rs B E) (i k : Nat) {g : Nat} {s : St} (hi : B[i]? = some (g, s)) : w.frozen? ⟨g, k, none⟩ = false := by
  have h1 := (h.get hi).1
  simp [World.frozen?, h1]
/-- Its registers, loaded. -/
theorem Held.regs (h : Held w0 w F m rs B E) (i : Nat) {g : Nat} {s : St} (hi : B[i]? = some (g, s)) {X : Array Value} (hX : X = (s.regs.map fun r => Value.int .u64 (r : Nat)).toArray) : (Instr.loadAt 23 (.pointer (some ⟨g, 0, none⟩))).run Tryz.prog w = .ok (.agg X) w := by
  have hl := (h.get hi).2.1.len
  rw [hX]
  refine run_loadAt_mid w g 0 _ _ _ (fun j v hv => ?_) Tryz.underlying23 rfl (by rw [show (s.regs.map fun r => Value.int .u64 (r : Nat)).length = 16 by simpa using hl]; kernel_rfl)
  rw [Nat.zero_add]
  exact h.cell i j hi (by rw [stRow, List.getElem?_append_left (List.getElem?_eq_some_iff.1 hv).1]; exact hv)
theorem Held.lt_box (h : Held w0 w F m rs B E) {x : Nat × St} (hx : x ∈ B) : x.1 < w.heap.size := lt_of_block (h.box x hx).1

/-- A later world in which nothing that is held has changed. -/
theorem Held.keep (h : Held w0 w F m rs B E) (hb : Below w0.heap.size w0 w') (hs : w.heap.size ≤ w'.heap.size) (hk : ∀ k, k < w.heap.size → w'.heap[k]? = w.heap[k]?) : Held w0 w' F m rs B E :=
  ⟨hb, h.mem.keep (fun k hF => hk k (h.lt k hF)), fun k hF => Nat.lt_of_lt_of_le (h.lt k hF) hs, h.ge, h.nd, fun x hx => ⟨(hk _ (h.lt_box hx)).trans (h.box x hx).1, (h.box x hx).2⟩,
    fun x hx => ⟨own_keep2 (h.ev x hx).1 fun g hg => hk g (own_lt (h.ev x hx).1 g hg).1, (h.ev x hx).2⟩⟩
theorem Held.evs (h : Held w0 w F m rs B E) (i : Nat) {v : Value} {l : List Ev} (hi : E[i]? = some (v, l)) : EvsAt w (fun k => k < w.heap.size) v l := evs_own (h.ev (v, l) (List.mem_of_getElem? hi)).1
/-- What a step told is as what is written out? -/
theorem Held.same_lit (h : Held w0 w F m rs B E) (i : Nat) {v : Value} {l : List Ev} (hi : E[i]? = some (v, l)) (q : List Ev) (n : Nat) (hn : q.length = n) (hl : l.length ≤ 100) (cs : Array Value) (hc : cs = (q.map evRow).flatten.toArray) :
    Calls Tryz.prog 12 #[v, .slice (some ⟨w.heap.size, 0, none⟩) n n] (w.alloc (.cells cs 47)) fun e w' => e = .returned (.bool (sameE l q)) ∧ Held w0 w' F m rs B E := by
  subst hc
  subst hn
  have hb := (Below.refl w.heap.size w).alloc (Nat.le_refl _) (.cells (q.map evRow).flatten.toArray 47)
  have h1 : Held w0 (w.alloc (.cells (q.map evRow).flatten.toArray 47)) F m rs B E := h.keep (h.below.trans (hb.mono h.below.size)) hb.size fun k hk => hb.block k hk
  refine (SameEv_any _ _ _ _ l q (by omega) (h1.evs i hi) (evs_lit (heap_alloc_new w _)) (fun _ hk => hk)).mono ?_
  rintro e w' ⟨rfl, hb2⟩
  exact ⟨rfl, h1.keep (h1.below.trans (hb2.mono h1.below.size)) hb2.size fun k hk => hb2.block k hk⟩

theorem Held.next (h : Held w0 w F m rs B E) (hb : Below w.heap.size w w') : Held w0 w' F m rs B E :=
  h.keep (h.below.trans (hb.mono h.below.size)) hb.size fun k hk => hb.block k hk
theorem Held.cast (h : Held w0 w F m rs B E) (e : w' = w) : Held w0 w' F m rs B E := e ▸ h
theorem Held.bare (h : Held w0 w F m rs B E) : Held w0 w F m rs [] [] := ⟨h.below, h.mem, h.lt, h.ge, by simp, by simp, by simp⟩
theorem Held.drew (h : Held w0 w F m rs B E) : Held w0 w.drew F m rs B E := h.next (Below.refl _ _).drew

/-- Behind a step. -/
theorem Held.step (h : Held w0 w F m rs B E) (hc : Chg (Over F w.heap.size) w w') (hm : MemAt w' F m rs') : Held w0 w' F m rs' B E := by
  have hk : ∀ k, k < w.heap.size → ¬ F k → w'.heap[k]? = w.heap[k]? := fun k hk hn => hc.far hk hk hn
  refine ⟨h.below.trans (hc.below (fun k hk hF => ?_) h.below.size), hm, fun k hF => Nat.lt_of_lt_of_le (h.lt k hF) hc.size, h.ge, h.nd, fun x hx => ⟨(hk _ (h.lt_box hx) (h.box x hx).2.2.1).trans (h.box x hx).1, (h.box x hx).2⟩,
    fun x hx => ⟨own_keep2 (h.ev x hx).1 fun g hg => hk g (own_lt (h.ev x hx).1 g hg).1 ((h.ev x hx).2 g hg).1, (h.ev x hx).2⟩⟩
  rcases hF with hF | hF
  · have := h.ge k hF; omega
  · have := h.below.size; omega

/-- What a step told is held, too. -/
theorem Held.seen (h : Held w0 w' F m rs B E) {v : Value} {evs : List Ev} (hv : w'.ownsRow w.heap.size 47 2 v evs.length (evs.map evRow).flatten) (hw : Held w0 w F m rs' B E) : Held w0 w' F m rs B ((v, evs) :: E) := by
  refine ⟨h.below, h.mem, h.lt, h.ge, h.nd, h.box, fun x hx => ?_⟩
  rcases List.mem_cons.1 hx with rfl | hx
  · refine ⟨own_base_le hv hw.below.size, fun g hg => ?_⟩
    have hge := (own_lt hv g hg).2
    exact ⟨fun hF => by have := hw.lt g hF; omega, fun y hy e => by have := hw.lt_box hy; omega⟩
  · exact h.ev x hx

theorem nodup_ne {B : List (Nat × St)} (hn : (B.map (·.1)).Nodup) {i j : Nat} {x y : Nat × St} (hi : B[i]? = some x) (hj : B[j]? = some y) (hij : i ≠ j) : x.1 ≠ y.1 := by
  intro e
  have h1 : (B.map (·.1))[i]? = some x.1 := by rw [List.getElem?_map, hi]; rfl
  have h2 : (B.map (·.1))[j]? = some x.1 := by rw [List.getElem?_map, hj, e]; rfl
  have hl : i < (B.map (·.1)).length := (List.getElem?_eq_some_iff.1 h1).1
  exact hij ((List.getElem?_inj hl hn).1 (h1.trans h2.symm))

/-- Another state in a box. -/
theorem Held.put (h : Held w0 w F m rs B E) {i g : Nat} {s s' : St} (hi : B[i]? = some (g, s)) (hs : StOk s') (hb : Below w0.heap.size w0 w') (hz : w'.heap.size = w.heap.size) (hg : w'.heap[g]? = some (.cells (stRow s').toArray 25 (0, 0))) (ho : ∀ k, k ≠ g → w'.heap[k]? = w.heap[k]?) : Held w0 w' F m rs (B.set i (g, s')) E := by
  obtain ⟨_, _, hF, hge⟩ := h.get hi
  have hil : i < B.length := (List.getElem?_eq_some_iff.1 hi).1
  have hmap : (B.set i (g, s')).map (·.1) = B.map (·.1) := by
    rw [List.map_set]
    refine List.ext_getElem? fun j => ?_
    rw [List.getElem?_set]
    split
    · rename_i e; subst e; rw [if_pos (by simpa using hil), List.getElem?_map, hi]; rfl
    · rfl
  have hmem : ∀ x, x ∈ B.set i (g, s') → x = (g, s') ∨ (x ∈ B ∧ x.1 ≠ g) := fun x hx => by
    obtain ⟨j, hj⟩ := List.mem_iff_getElem?.1 hx
    rw [List.getElem?_set] at hj
    split at hj
    · (try rw [if_pos hil] at hj); exact .inl (Option.some.inj hj).symm
    · rename_i hij
      exact .inr ⟨List.mem_of_getElem? hj, nodup_ne h.nd hj hi (fun e => hij e.symm)⟩
  refine ⟨hb, h.mem.keep (fun k hk => ho k fun e => hF (e ▸ hk)), fun k hk => by rw [hz]; exact h.lt k hk, h.ge, by rw [hmap]; exact h.nd, fun x hx => ?_, fun x hx => ⟨own_keep2 (h.ev x hx).1 fun k hk => ho k fun e => ((h.ev x hx).2 k hk).2 _ (List.mem_of_getElem? hi) e.symm, fun k hk => ⟨((h.ev x hx).2 k hk).1, fun y hy => ?_⟩⟩⟩
  · rcases hmem x hx with rfl | ⟨hx, hne⟩
    · exact ⟨hg, hs, hF, hge⟩
    · exact ⟨(ho _ hne).trans (h.box x hx).1, (h.box x hx).2⟩
  · rcases hmem y hy with rfl | ⟨hy, _⟩
    · exact ((h.ev x hx).2 k hk).2 (g, s) (List.mem_of_getElem? hi)
    · exact ((h.ev x hx).2 k hk).2 y hy

theorem Held.setRow (h : Held w0 w F m rs B E) {i g : Nat} {s s' : St} (hi : B[i]? = some (g, s)) (hs : StOk s') : Held w0 (w.setRow g (stRow s').toArray) F m rs (B.set i (g, s')) E :=
  h.put hi hs (Below.setRow h.below (h.get hi).2.2.2 _) (by simp [World.setRow]) (setRow_heap _ _ _ _ _ _ (h.get hi).1) fun k hk => setRow_other _ _ _ _ hk
theorem Held.setCell (h : Held w0 w F m rs B E) {i g : Nat} {s s' : St} (hi : B[i]? = some (g, s)) (k : Nat) (v : Value) (hv : (stRow s).set k v = stRow s') (hs : StOk s') : Held w0 (w.setCell ⟨g, k, none⟩ v) F m rs (B.set i (g, s')) E := by
  refine h.put hi hs (h.below.setCell (h.get hi).2.2.2 _) (by simp [World.setCell]) ?_ fun k hk => Below.heap_setCell _ _ _ _ hk
  rw [World.setCell, ← hv]
  simp only [Array.getElem?_modify, if_pos, (h.get hi).1, Option.map_some]
  simp

/-- A box more. -/
theorem Held.fresh (h : Held w0 w F m rs B E) (zs : Array Value) {s : St} (hs : StOk s) : Held w0 ((w.alloc (.cells zs 25)).setRow w.heap.size (stRow s).toArray) F m rs ((w.heap.size, s) :: B) E := by
  have h1 := h.next ((Below.refl w.heap.size w).alloc (Nat.le_refl _) (.cells zs 25))
  have hne : ∀ k, k < w.heap.size → ((w.alloc (.cells zs 25)).setRow w.heap.size (stRow s).toArray).heap[k]? = (w.alloc (.cells zs 25)).heap[k]? := fun k hk => setRow_other _ _ _ _ (by omega)
  refine ⟨Below.setRow h1.below h.below.size _, h1.mem.keep (fun k hk => hne k (h.lt k hk)), fun k hk => by have := h1.lt k hk; simpa [World.setRow] using this, h.ge, ?_, fun x hx => ?_, fun x hx => ⟨own_keep2 (h1.ev x hx).1 fun k hk => hne k (own_lt (h.ev x hx).1 k hk).1, fun k hk => ⟨((h.ev x hx).2 k hk).1, fun y hy => ?_⟩⟩⟩
  · rw [List.map_cons, List.nodup_cons]
    refine ⟨fun hm => ?_, h.nd⟩
    obtain ⟨x, hx, e⟩ := List.mem_map.1 hm
    have := h.lt_box hx
    simp only at e
    omega
  · rcases List.mem_cons.1 hx with rfl | hx
    · exact ⟨setRow_heap _ _ _ _ _ _ (heap_alloc_new w _), hs, fun hF => by have := h.lt _ hF; omega, h.below.size⟩
    · exact ⟨(hne _ (h.lt_box hx)).trans (h1.box x hx).1, (h.box x hx).2⟩
  · rcases List.mem_cons.1 hy with rfl | hy
    · intro e; have := (own_lt (h.ev x hx).1 k hk).1; simp only at e; omega
    · exact ((h.ev x hx).2 k hk).2 y hy

/-- A step from a box. -/
theorem Held.Do (h : Held w0 w F m rs B E) (i : Nat) {g : Nat} {s : St} (hi : B[i]? = some (g, s)) (ins : Ins) (hio : InsOk ins) (size : Int) {code : Int} {s2 : St} {evs : List Ev} (hr : stepF s ins size rs = ⟨code, s2, evs, rs'⟩) :
    Calls Tryz.prog 11 #[.agg (stRow s).toArray, .agg (insRow ins).toArray, .int .i64 size, m] w fun e w' => ∃ A c, e = .returned (.tuple #[.agg (stRow s2).toArray, .slice A evs.length c, .int .i64 code]) ∧ Held w0 w' F m rs' B ((.slice A evs.length c, evs) :: E) := by
  refine (Do_any s ins size m w F rs (h.ok i hi) hio h.mem h.lt).mono ?_
  rintro e w' ⟨v, rfl, hc, hm, hrow⟩
  rw [hr] at hm hrow ⊢
  obtain ⟨A, c, rfl⟩ : ∃ A c, v = .slice A evs.length c := by
    rcases hrow.2 with ⟨h1, h2⟩ | ⟨g', cap', cur, hv, _⟩
    · exact ⟨none, 0, by rw [h1, h2]⟩
    · exact ⟨_, _, hv⟩
  exact ⟨A, c, rfl, (h.step hc hm).seen hrow h⟩

variable {ops : Array Oper} {rest : List Oper} {o : Oper} {a : Act} {Q : Exit → Act → World → Prop}
theorem Held.load_row (h : Held w0 w F m rs B E) (i : Nat) {g : Nat} {s : St} (hi : B[i]? = some (g, s)) (hg : o.guard = none) (y : Operand) (ho : o.op = .load 25 y) (hx : a.eval y = .pointer (some ⟨g, 0, none⟩)) (k : wpList Tryz.prog ops Q rest (a.put o.dst (.agg (stRow s).toArray)) w) : wpList Tryz.prog ops Q (o :: rest) a w :=
  wpList_val_ex hg (exec_load_row 25 y ho g hx _ _ _ (h.get hi).1 _ Tryz.underlying25 rfl (by rw [stRow_size (h.ok i hi)]; exact infoSt)) k
theorem Held.load_regs (h : Held w0 w F m rs B E) (i : Nat) {g : Nat} {s : St} (hi : B[i]? = some (g, s)) (y : Operand) (ho : o.op = .load 23 y) (hx : a.eval y = .pointer (some ⟨g, 0, none⟩)) (hw : Region.wanted o (yielded ops a.tmps) = true) {X : Array Value} (hX : X = (s.regs.map fun r => Value.int .u64 (r : Nat)).toArray) (k : wpList Tryz.prog ops Q rest (a.put o.dst (.agg X)) w) : wpList Tryz.prog ops Q (o :: rest) a w :=
  wpList_val_w hw (by unfold execOp; simp only [ho, hx, Sem.run_bind, h.regs i hi hX, Result.andThen_ok, Sem.run_pure]) k
theorem Held.store_fresh (h : Held w0 w F m rs B E) {s : St} (hs : StOk s) (hg : o.guard = none) (x y : Operand) (ho : o.op = .store 25 x y) (zs : Array Value) (hz : zs.size = 20) (hx : a.eval x = .pointer (some ⟨w.heap.size, 0, none⟩)) (hy : a.eval y = .agg (stRow s).toArray)
    (k : ∀ W, Held w0 W F m rs ((w.heap.size, s) :: B) E → wpList Tryz.prog ops Q rest (a.put o.dst undef) W) : wpList Tryz.prog ops Q (o :: rest) a (w.alloc (.cells zs 25)) :=
  wpList_skip_ex hg (exec_store_row 25 x y ho w.heap.size _ hx hy 25 zs (heap_alloc_new w _) (by rw [stRow_size hs]; exact infoSt) (by rw [stRow_size hs, hz]) (stRow_one _)) (k _ (h.fresh zs hs))
theorem Held.store_row (h : Held w0 w F m rs B E) (i : Nat) {g : Nat} {s0 s : St} (hi : B[i]? = some (g, s0)) (hs : StOk s) (hg : o.guard = none) (x y : Operand) (ho : o.op = .store 25 x y) (hx : a.eval x = .pointer (some ⟨g, 0, none⟩)) (hy : a.eval y = .agg (stRow s).toArray)
    (k : ∀ W, Held w0 W F m rs (B.set i (g, s)) E → wpList Tryz.prog ops Q rest (a.put o.dst undef) W) : wpList Tryz.prog ops Q (o :: rest) a w :=
  wpList_skip_ex hg (exec_store_row 25 x y ho g _ hx hy 25 _ (h.get hi).1 (by rw [stRow_size hs]; exact infoSt) (by rw [stRow_size hs, stRow_size (h.ok i hi)]) (stRow_one _)) (k _ (h.setRow hi hs))
end
end Go.Proofs.YtmanhikpccnfaaaGreat
