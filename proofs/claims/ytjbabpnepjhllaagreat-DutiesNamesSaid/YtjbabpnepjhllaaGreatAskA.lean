/- Facts onto a slice of one's own, in a region that draws. -/
import Derived.Test.YtjbabpnepjhllaaGreatBothA
namespace Go.Proofs.YtjbabpnepjhllaaGreat
open Go.RowKit

variable {o : Oper} {a : Act} {w : World}
theorem exec_fact1 {f : Fct} (x : Operand) (ho : o.op = .buildSlice 39 1 #[(0, x)]) (hx : a.eval x = .agg #[.int .i64 f.kind, .int .i64 f.a, .int .i64 f.b]) :
    (execOp a.eval o).run Tryz.prog w = .ok (.value (.slice (some ⟨w.heap.size, 0, none⟩) 1 1)) (w.alloc (.cells (factRow f).toArray 45)) := by
  obtain ⟨j0, hie, hy0, hy1, hy2⟩ := info_parts infoFact
  have h := run_buildSlice (P := Tryz.prog) w 39 45 1 #[(0, .agg #[.int .i64 f.kind, .int .i64 f.a, .int .i64 f.b])] #[.int .i64 f.kind, .int .i64 f.a, .int .i64 f.b] j0 _ Tryz.underlying39 hie hy0 (by rw [hy1]; decide) (by rw [hy1]; decide) (by rw [hy1]; kernel_rfl)
  unfold execOp
  simp only [ho, hx, List.map_toArray, List.map_cons, List.map_nil, Sem.run_bind, h, Result.andThen_ok, Sem.run_pure, factRow]
theorem exec_appendF {base n : Nat} {v : Value} {l : List Fct} {f : Fct} {g : Nat} (s x : Operand) (ho : o.op = .call { callee := .builtin .append, args := #[s, x], argTypes := #[39, 39] })
    (hs : a.eval s = v) (hown : w.ownsRow base 45 3 v n (cellsOfF l)) (hx : a.eval x = .slice (some ⟨g, 0, none⟩) 1 1) (hg : w.heap[g]? = some (.cells (factRow f).toArray 45 (0, 0))) (h63 : n ≤ 1000000) (hbase : base ≤ w.heap.size) :
    ∃ v' w', (execOp a.eval o).run Tryz.prog w = .ok (.value v') w' ∧ w'.ownsRow base 45 3 v' (n + 1) (cellsOfF (l ++ [f])) ∧ w.grownBy w' v.ownBlock ∧ (v'.ownBlock = v.ownBlock ∨ v'.ownBlock = some w.heap.size) := by
  obtain ⟨j0, hie, hy0, hy1, hy2⟩ := info_parts infoFact
  obtain ⟨v', w', h1, h2, h3, _, h5⟩ := run_append_own_at (P := Tryz.prog) w base 39 o.type 45 j0 (.agg #[.int .i64 0, .int .i64 0, .int .i64 0]) 3 24 Tryz.underlying39 hie hy0 hy1 hy2 rfl (by decide) v n (cellsOfF l) hown ⟨g, 0, none⟩ 1 1 (factRow f) rfl
    (by simpa using World.news_of_block (cs := (factRow f).toArray) (t := 45) (fr := (0, 0)) hg) (by simp [Value.oneCell', factRow]) (by unfold maxLen; omega) (by omega) hbase
  refine ⟨v', w', ?_, by rw [cellsOf_snoc]; exact h2, h3, h5⟩
  unfold execOp
  simp only [ho, resolve, invoke, builtin, hs, hx, List.map_toArray, List.map_cons, List.map_nil, Sem.run_bind, h1, Result.andThen_ok, Sem.run_pure]
theorem runL_appendF {ops : Array Oper} {Q : Act → World → Prop} {S : World → Prop} {o : Oper} {l : List Oper} {a : Act} {w : World} (hT : isT o = true) (hw : Region.wanted o (yielded ops a.tmps) = true) {base n : Nat} {v : Value} {xs : List Fct} {f : Fct} {g : Nat}
    (s x : Operand) (ho : o.op = .call { callee := .builtin .append, args := #[s, x], argTypes := #[39, 39] }) (hs : a.eval s = v) (hown : w.ownsRow base 45 3 v n (cellsOfF xs)) (hx : a.eval x = .slice (some ⟨g, 0, none⟩) 1 1)
    (hg : w.heap[g]? = some (.cells (factRow f).toArray 45 (0, 0))) (h63 : n ≤ 1000000) (hbase : base ≤ w.heap.size)
    (k : ∀ v' w', w'.ownsRow base 45 3 v' (n + 1) (cellsOfF (xs ++ [f])) → w.grownBy w' v.ownBlock → (v'.ownBlock = v.ownBlock ∨ v'.ownBlock = some w.heap.size) → S w' ∧ runL Tryz.prog ops S Q l (a.put o.dst v') w') : runL Tryz.prog ops S Q (o :: l) a w := by
  obtain ⟨v', w', h1, h2, h3, h4⟩ := exec_appendF s x ho hs hown hx hg h63 hbase
  obtain ⟨k1, k2⟩ := k v' w' h2 h3 h4
  exact runL_op hT hw h1 (.inr k1) k2
end Go.Proofs.YtjbabpnepjhllaaGreat
