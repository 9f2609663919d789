/- Parts of memory: the walk's arms. -/
import Derived.Test.YtjbabpnepjhllaaGreatSep
import Derived.Maps.AppendAt
import Derived.Tactics
namespace Go.Proofs.YtjbabpnepjhllaaGreat
open Go.RowKit

theorem sep_load {P : Program} {o : Oper} {a : Act} {w : World} (ty : TypeId) (y : Operand) (ho : o.op = .load ty y) (ad : Addr) (hx : a.eval y = .pointer (some ad)) (cs : Array Value) (d : TypeDesc)
    (hu : P.underlying ty = some d) (hd : (match d with | .struct _ | .array _ _ => true | _ => false) = true) (hi : (P.info? ty).map (·.size) = some cs.size)
    (hc : ∀ (j : Nat) (v : Value), cs.toList[j]? = some v → w.cell? (ad.add j) = some v) : (execOp a.eval o).run P w = .ok (.value (.agg cs)) w := by
  have hl : (loadCells ad cs.toList.length).run P w = .ok cs.toList.toArray w := run_loadCells_list (P := P) w ad cs.toList hc
  have hv : (loadVar ty ad).run P w = .ok (.agg cs) w := by
    cases hq : P.info? ty with
    | none => simp [hq] at hi
    | some i =>
      have hs : i.size = cs.size := by simpa [hq] using hi
      have hagg : (isAgg ty).run P w = .ok true w := by
        unfold isAgg
        rw [Sem.run_bind, run_underlying hu w]
        cases d <;> simp_all
      simp only [Array.length_toList, Array.toArray_toList] at hl
      simp [loadVar, Sem.run_bind, hagg, sizeOf, typeInfo, hq, hs, hl]
  unfold execOp
  simp only [ho, hx, Instr.loadAt, Instr.sureAddr, Sem.run_bind, Sem.run_pure, Result.andThen_ok, hv]
theorem sep_add (b o j : Nat) : Addr.add ⟨b, o, none⟩ j = ⟨b, o + j, none⟩ := by unfold Addr.add; split <;> simp_all
theorem sep_store {P : Program} {o : Oper} {a : Act} {w : World} (ty : TypeId) (x y : Operand) (ho : o.op = .store ty x y) (g : Nat) (cells : Array Value) (hx : a.eval x = .pointer (some ⟨g, 0, none⟩)) (hy : a.eval y = .agg cells)
    (t : TypeId) (old : Array Value) (hg : w.heap[g]? = some (.cells old t (0, 0))) (hi : (P.info? ty).map (·.size) = some cells.size) (hold : old.size = cells.size) (h1 : cells.all (·.oneCell') = true) :
    (execOp a.eval o).run P w = .ok .skip (w.setRow g cells) := by
  unfold execOp
  simp only [ho, hx, hy, Instr.storeAt, Instr.sureAddr, Sem.run_bind, Sem.run_pure, Result.andThen_ok, run_storeVar_row w g t ty old cells hg hi hold h1]

section
variable {P : Program} {ops : Array Oper} {rest : List Oper} {o : Oper} {a : Act} {w w0 : World} {Q : Exit → Act → World → Prop} {F0 : Nat → Prop} {R : List Res}
theorem sep_val (hw : Region.wanted o (yielded ops a.tmps) = true) {v : Value} (h : (execOp a.eval o).run P w = .ok (.value v) w) (k : wpList P ops Q rest (a.put o.dst v) w) : wpList P ops Q (o :: rest) a w :=
  wpList_step fun K hK => by rw [if_pos hw]; unfold Oper.wp; rw [h]; exact hK _ _ k
theorem sep_skip (hw : Region.wanted o (yielded ops a.tmps) = true) {w' : World} (h : (execOp a.eval o).run P w = .ok .skip w') (k : wpList P ops Q rest (a.put o.dst undef) w') : wpList P ops Q (o :: rest) a w :=
  wpList_step fun K hK => by rw [if_pos hw]; unfold Oper.wp; rw [h]; exact hK _ _ k

/-- A box, loaded whole. -/
theorem Sep.exec (h : Sep w0 F0 w R) (i : Nat) {g : Nat} {ty : TypeId} {row : List Value} (hi : R[i]? = some (boxR g ty row)) (y : Operand) (ho : o.op = .load ty y) (hx : a.eval y = .pointer (some ⟨g, 0, none⟩))
    {d : TypeDesc} (hu : P.underlying ty = some d) (hd : (match d with | .struct _ | .array _ _ => true | _ => false) = true) (hs : (P.info? ty).map (·.size) = some row.toArray.size) : (execOp a.eval o).run P w = .ok (.value (.agg row.toArray)) w :=
  sep_load ty y ho ⟨g, 0, none⟩ hx _ _ hu hd hs fun j v hv => by
    rw [sep_add, Nat.zero_add]
    exact h.cell i j hi (by simpa using hv)
theorem Sep.load (h : Sep w0 F0 w R) (i : Nat) {g : Nat} {ty : TypeId} {row : List Value} (hi : R[i]? = some (boxR g ty row)) (y : Operand) (ho : o.op = .load ty y) (hx : a.eval y = .pointer (some ⟨g, 0, none⟩)) (hw : Region.wanted o (yielded ops a.tmps) = true)
    {d : TypeDesc} (hu : P.underlying ty = some d) (hd : (match d with | .struct _ | .array _ _ => true | _ => false) = true) (hs : (P.info? ty).map (·.size) = some row.toArray.size)
    (k : wpList P ops Q rest (a.put o.dst (.agg row.toArray)) w) : wpList P ops Q (o :: rest) a w :=
  sep_val hw (h.exec i hi y ho hx hu hd hs) k
theorem Sep.storeFresh (h : Sep w0 F0 w R) {ty : TypeId} {row : List Value} (x y : Operand) (ho : o.op = .store ty x y) (zs : Array Value) (hz : zs.size = row.length) (hx : a.eval x = .pointer (some ⟨w.heap.size, 0, none⟩)) (hy : a.eval y = .agg row.toArray)
    (hw : Region.wanted o (yielded ops a.tmps) = true) (hs : (P.info? ty).map (·.size) = some row.toArray.size) (h1 : row.toArray.all (·.oneCell') = true)
    (k : ∀ W, Sep w0 F0 W (boxR w.heap.size ty row :: R) → wpList P ops Q rest (a.put o.dst undef) W) : wpList P ops Q (o :: rest) a (w.alloc (.cells zs ty)) :=
  sep_skip hw (sep_store ty x y ho w.heap.size _ hx hy ty zs (heap_alloc_new w _) hs (by simp [hz]) h1) (k _ (h.fresh ty zs row))
theorem Sep.storeBox (h : Sep w0 F0 w R) (i : Nat) {g : Nat} {ty : TypeId} {row row' : List Value} (hi : R[i]? = some (boxR g ty row)) (hl : row.length = row'.length) (x y : Operand) (ho : o.op = .store ty x y) (hx : a.eval x = .pointer (some ⟨g, 0, none⟩)) (hy : a.eval y = .agg row'.toArray)
    (hw : Region.wanted o (yielded ops a.tmps) = true) (hs : (P.info? ty).map (·.size) = some row'.toArray.size) (h1 : row'.toArray.all (·.oneCell') = true)
    (k : ∀ W, Sep w0 F0 W (R.set i (boxR g ty row')) → wpList P ops Q rest (a.put o.dst undef) W) : wpList P ops Q (o :: rest) a w :=
  sep_skip hw (sep_store ty x y ho g _ hx hy ty _ (h.at_ i hi) hs (by simp [hl]) h1) (k _ (h.setRow i hi row'))
end
theorem sep_name {P : Program} {c : Code} {Q : Exit → Act → World → Prop} {a : Act} {w : World} (h : ∀ W, W = w → c.wp P Q a W) : c.wp P Q a w := h w rfl
theorem sep_lname {P : Program} {ops : Array Oper} {l : List Oper} {Q : Exit → Act → World → Prop} {a : Act} {w : World} (h : ∀ W, W = w → wpList P ops Q l a W) : wpList P ops Q l a w := h w rfl
theorem sep_id {P : Program} {ops : Array Oper} {l : List Oper} {a : Act} {w : World} {Q : Exit → Act → World → Prop} (h : wpList P ops Q l a w) : wpList P ops Q l a w := h
theorem two_results {P : Program} {fn : Func} {p q : Tmp} {ty : TypeId} (h : fn.results = #[.cell p ty, .tmp q]) (tmps : Array Value) (w : World) (g : Nat) (t : TypeId) (cs : Array Value) (fr : Nat × Nat) (d : TypeDesc)
    (hp : tmps.getD p undef = .pointer (some ⟨g, 0, none⟩)) (hg : w.heap[g]? = some (.cells cs t fr))
    (hu : P.underlying ty = some d) (hd : (match d with | .struct _ | .array _ _ => true | _ => false) = true) (hi : (P.info? ty).map (·.size) = some cs.size) :
    (results fn tmps).run P w = .ok (.tuple #[.agg cs, tmps.getD q undef]) w := by
  have hp' : tmps[p]?.getD undef = .pointer (some ⟨g, 0, none⟩) := by simpa using hp
  simp [results, h, hp', asAddr, run_loadVar_row w g t ty cs fr d hg hu hd hi]
theorem one_result {P : Program} {fn : Func} {p : Tmp} {ty : TypeId} (h : fn.results = #[.cell p ty]) (tmps : Array Value) (w : World) (g : Nat) (t : TypeId) (cs : Array Value) (fr : Nat × Nat) (d : TypeDesc)
    (hp : tmps.getD p undef = .pointer (some ⟨g, 0, none⟩)) (hg : w.heap[g]? = some (.cells cs t fr))
    (hu : P.underlying ty = some d) (hd : (match d with | .struct _ | .array _ _ => true | _ => false) = true) (hi : (P.info? ty).map (·.size) = some cs.size) :
    (results fn tmps).run P w = .ok (.agg cs) w := by
  have hp' : tmps[p]?.getD undef = .pointer (some ⟨g, 0, none⟩) := by simpa using hp
  simp [results, h, hp', asAddr, run_loadVar_row w g t ty cs fr d hg hu hd hi]
end Go.Proofs.YtjbabpnepjhllaaGreat
