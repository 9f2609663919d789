/- Slices of ints: one's own, shorter ones, longer ones; the operations that make them. -/
import Derived.Test.YtjbabpnepjhllaaGreatSepOps
import Derived.Test.YtjbabpnepjhllaaGreatWords21
import Derived.Great.BuildSlice
namespace Go.Proofs.YtjbabpnepjhllaaGreat
open Go.RowKit

theorem infoI : (Tryz.prog.info? 3).map (fun i => (i.zero, i.size, i.bytes)) = some (some (.int .i64 0), 1, 8) := by kernel_rfl
theorem infoI1 : (Tryz.prog.info? 3).map (·.size) = some 1 := by kernel_rfl
def intV (l : List Int) : List Value := l.map (Value.int .i64)
theorem intV_len (l : List Int) : (intV l).length = l.length := by simp [intV]
theorem flat_ints (l : List Int) : (l.map fun n => [Value.int .i64 n]).flatten = intV l := by
  unfold intV
  induction l with
  | nil => rfl
  | cons a l ih => simp only [List.map_cons, List.flatten_cons, ih]; rfl
theorem own_form {w : World} {base e sz n : Nat} {v : Value} {xs : List Value} (h : w.ownsRow base e sz v n xs) : ∃ A c, v = .slice A n c := by
  rcases h.2 with ⟨rfl, rfl⟩ | ⟨g, cap, cur, rfl, _⟩
  · exact ⟨none, 0, rfl⟩
  · exact ⟨_, _, rfl⟩
theorem own_lt {w : World} {base e sz n : Nat} {v : Value} {xs : List Value} (h : w.ownsRow base e sz v n xs) : ∀ g, v.ownBlock = some g → g < w.heap.size ∧ base ≤ g := by
  intro k hk
  rcases h.2 with ⟨h1, _⟩ | ⟨g, cap, cur, h1, hg, h2, _⟩
  · rw [h1] at hk; cases hk
  · rw [h1] at hk
    cases hk
    rcases Nat.lt_or_ge g w.heap.size with h' | h'
    · exact ⟨h', hg⟩
    · rw [Array.getElem?_eq_none h'] at h2; cases h2
/-- A shorter one. -/
theorem own_take {w : World} {base e : Nat} {A : Option Addr} {n c : Nat} {xs : List Value} (h : w.ownsRow base e 1 (.slice A n c) n xs) {k : Nat} (hk : k ≤ n) : w.ownsRow base e 1 (.slice A k c) k (xs.take k) := by
  have hlen := h.1
  refine ⟨by rw [List.length_take, hlen]; omega, ?_⟩
  rcases h.2 with ⟨h1, h2⟩ | ⟨g, cap, cur, hv, hg, hh, hnc, hcm, hcs, htk⟩
  · cases h1
    obtain rfl : k = 0 := by omega
    exact .inl ⟨rfl, rfl⟩
  · cases hv
    refine .inr ⟨g, c, cur, rfl, hg, hh, by omega, hcm, hcs, ?_⟩
    rw [← htk, List.take_take]
    congr 1
    omega
theorem nums_own {w : World} {base : Nat} {v : Value} {l : List Int} (h : w.ownsRow base 3 1 v l.length (intV l)) : NumsAt w (fun k => v.ownBlock = some k) v l := by
  have hsz : ∀ r ∈ (l.map fun n => [Value.int .i64 n]), r.length = 1 := by intro r hr; obtain ⟨x, _, rfl⟩ := List.mem_map.1 hr; rfl
  have hfl := flat_ints l
  rcases Nat.eq_zero_or_pos l.length with h0 | hpos
  · obtain rfl := List.eq_nil_of_length_eq_zero h0
    rcases h.2 with ⟨rfl, _⟩ | ⟨g, cap, cur, rfl, _, _, hnc, _⟩
    · exact ⟨none, 0, rfl, by simp, by simp, fun h => absurd rfl h⟩
    · exact ⟨_, cap, rfl, by simp, by simp, fun h => absurd rfl h⟩
  · rw [← hfl] at h
    obtain ⟨g, cap, rfl, hg, hnc, hrow⟩ := rowsBlk_of_own h hsz hpos
    refine ⟨_, cap, by simp, by simpa using hnc, hsz, fun _ => ⟨g, 0, rfl, rfl, fun i j r u hr hu => ?_⟩⟩
    rw [Nat.zero_add]
    exact hrow.cell hr hu
/-- A block of ints that was just made. -/
theorem nums_blk {w : World} {g : Nat} {l : List Int} {t : Nat} (h : w.heap[g]? = some (.cells (intV l).toArray t (0, 0))) : NumsAt w (fun k => k = g) (.slice (some ⟨g, 0, none⟩) l.length l.length) l := by
  refine ⟨_, l.length, by simp, by simp, by intro r hr; obtain ⟨x, _, rfl⟩ := List.mem_map.1 hr; rfl, fun _ => ⟨g, 0, rfl, rfl, fun i j r u hr hu => ?_⟩⟩
  have hm := List.mem_of_getElem? hr
  obtain ⟨x, _, rfl⟩ := List.mem_map.1 hm
  obtain ⟨rfl, rfl⟩ : j = 0 ∧ u = .int .i64 x := by
    cases j with
    | zero => simp at hu; exact ⟨rfl, hu.symm⟩
    | succ j => simp at hu
  rw [List.getElem?_map] at hr
  simp only [World.cell?, h]
  cases hi : l[i]? with
  | none => rw [hi] at hr; cases hr
  | some y =>
    rw [hi] at hr
    simp only [Option.map_some, Option.some.injEq, List.cons.injEq, and_true] at hr
    unfold intV
    simp [hi, hr]

variable {o : Oper} {a : Act} {w : World}
theorem exec_int1 {p : Int} (x : Operand) (ho : o.op = .buildSlice 50 1 #[(0, x)]) (hx : a.eval x = .int .i64 p) :
    (execOp a.eval o).run Tryz.prog w = .ok (.value (.slice (some ⟨w.heap.size, 0, none⟩) 1 1)) (w.alloc (.cells (intV [p]).toArray 3)) := by
  obtain ⟨j0, hie, hy0, hy1, hy2⟩ := info_parts infoI
  have h := run_buildSlice (P := Tryz.prog) w 50 3 1 #[(0, .int .i64 p)] #[.int .i64 p] j0 _ Tryz.underlying50 hie hy0 (by rw [hy1]; decide) (by rw [hy1]; decide) (by rw [hy1]; kernel_rfl)
  unfold execOp
  simp only [ho, hx, List.map_toArray, List.map_cons, List.map_nil, Sem.run_bind, h, Result.andThen_ok, Sem.run_pure, intV]
theorem exec_int2 {p q : Int} (x y : Operand) (ho : o.op = .buildSlice 50 2 #[(0, x), (1, y)]) (hx : a.eval x = .int .i64 p) (hy : a.eval y = .int .i64 q) :
    (execOp a.eval o).run Tryz.prog w = .ok (.value (.slice (some ⟨w.heap.size, 0, none⟩) 2 2)) (w.alloc (.cells (intV [p, q]).toArray 3)) := by
  obtain ⟨j0, hie, hy0, hy1, hy2⟩ := info_parts infoI
  have h := run_buildSlice (P := Tryz.prog) w 50 3 2 #[(0, .int .i64 p), (1, .int .i64 q)] #[.int .i64 p, .int .i64 q] j0 _ Tryz.underlying50 hie hy0 (by rw [hy1]; decide) (by rw [hy1]; decide) (by rw [hy1]; kernel_rfl)
  unfold execOp
  simp only [ho, hx, hy, List.map_toArray, List.map_cons, List.map_nil, Sem.run_bind, h, Result.andThen_ok, Sem.run_pure, intV]
theorem exec_int3 {p q r : Int} (x y z : Operand) (ho : o.op = .buildSlice 50 3 #[(0, x), (1, y), (2, z)]) (hx : a.eval x = .int .i64 p) (hy : a.eval y = .int .i64 q) (hz : a.eval z = .int .i64 r) :
    (execOp a.eval o).run Tryz.prog w = .ok (.value (.slice (some ⟨w.heap.size, 0, none⟩) 3 3)) (w.alloc (.cells (intV [p, q, r]).toArray 3)) := by
  obtain ⟨j0, hie, hy0, hy1, hy2⟩ := info_parts infoI
  have h := run_buildSlice (P := Tryz.prog) w 50 3 3 #[(0, .int .i64 p), (1, .int .i64 q), (2, .int .i64 r)] #[.int .i64 p, .int .i64 q, .int .i64 r] j0 _ Tryz.underlying50 hie hy0 (by rw [hy1]; decide) (by rw [hy1]; decide) (by rw [hy1]; kernel_rfl)
  unfold execOp
  simp only [ho, hx, hy, hz, List.map_toArray, List.map_cons, List.map_nil, Sem.run_bind, h, Result.andThen_ok, Sem.run_pure, intV]
/-- append of one int onto a slice of one's own. -/
theorem exec_append1 {base n : Nat} {v : Value} {l : List Int} {p : Int} {g : Nat} (s x : Operand) (ho : o.op = .call { callee := .builtin .append, args := #[s, x], argTypes := #[50, 50] })
    (hs : a.eval s = v) (hn : l.length = n) (hown : w.ownsRow base 3 1 v n (intV l)) (hx : a.eval x = .slice (some ⟨g, 0, none⟩) 1 1) (hg : w.heap[g]? = some (.cells (intV [p]).toArray 3 (0, 0))) (h63 : n ≤ 1000000000) (hbase : base ≤ w.heap.size) :
    ∃ v' w', (execOp a.eval o).run Tryz.prog w = .ok (.value v') w' ∧ w'.ownsRow base 3 1 v' (n + 1) (intV (l ++ [p])) ∧ w.grownBy w' v.ownBlock ∧ (v'.ownBlock = v.ownBlock ∨ v'.ownBlock = some w.heap.size) := by
  obtain ⟨j0, hie, hy0, hy1, hy2⟩ := info_parts infoI
  obtain ⟨v', w', h1, h2, h3, _, h5⟩ := run_append_own_at (P := Tryz.prog) w base 50 o.type 3 j0 (.int .i64 0) 1 8 Tryz.underlying50 hie hy0 hy1 hy2 rfl (by decide) v n (intV l) hown ⟨g, 0, none⟩ 1 1 [.int .i64 p] rfl
    (by simpa [intV] using World.news_of_block (cs := (intV [p]).toArray) (t := 3) (fr := (0, 0)) hg) (by simp [Value.oneCell']) (by unfold maxLen; omega) (by omega) hbase
  refine ⟨v', w', ?_, by simpa [intV] using h2, h3, h5⟩
  unfold execOp
  simp only [ho, resolve, invoke, builtin, hs, hx, List.map_toArray, List.map_cons, List.map_nil, Sem.run_bind, h1, Result.andThen_ok, Sem.run_pure]
theorem exec_store1 {P : Program} {o : Oper} {a : Act} {w : World} (ty : TypeId) (x y : Operand) (ho : o.op = .store ty x y) (g k : Nat) (v : Value) (hx : a.eval x = .pointer (some ⟨g, k, none⟩)) (hy : a.eval y = v) (hi : (P.info? ty).map (·.size) = some 1)
    (hc : (w.cell? ⟨g, k, none⟩).isSome = true) (hf : w.frozen? ⟨g, k, none⟩ = false) (h1 : v.oneCell' = true) : (execOp a.eval o).run P w = .ok .skip (w.setCell ⟨g, k, none⟩ v) := by
  have hs : (storeVar ty ⟨g, k, none⟩ v).run P w = .ok () (w.setCell ⟨g, k, none⟩ v) := by
    have := run_storeCells_cells (P := P) g k [v] 0 w (fun j hj => by
      obtain rfl : j = 0 := by simpa using hj
      simpa using hc) (fun j hj => by
      obtain rfl : j = 0 := by simpa using hj
      simpa using hf) (fun u hu => by simp at hu; subst hu; exact h1)
    have hcs : v.cells = #[v] := by cases v <;> first | rfl | cases h1
    cases hq : P.info? ty with
    | none => simp [hq] at hi
    | some i =>
      have hs : i.size = 1 := by simpa [hq] using hi
      simp only [Nat.add_zero, World.setCells] at this
      simp [storeVar, sizeOf, typeInfo, hq, hcs, hs, this]
  unfold execOp
  simp only [ho, hx, hy, Instr.storeAt, Instr.sureAddr, Sem.run_bind, Sem.run_pure, Result.andThen_ok, hs]
end Go.Proofs.YtjbabpnepjhllaaGreat
