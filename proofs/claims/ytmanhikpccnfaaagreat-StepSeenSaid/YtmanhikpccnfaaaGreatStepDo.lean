/- step.Do. -/
import Derived.Test.YtmanhikpccnfaaaGreatStepPl
import Derived.Deep.WholeRow
import Derived.Outline
namespace Go.Proofs.YtmanhikpccnfaaaGreat
open Go.RowKit

def DoPost (w : World) (F : Nat → Prop) (m : Value) (r : StepR) (e : Ending) (w' : World) : Prop :=
  ∃ v, e = .returned (.tuple #[.agg (stRow r.st).toArray, v, .int .i64 r.code]) ∧ Chg (Over F w.heap.size) w w' ∧ MemAt w' F m r.rs ∧ w'.ownsRow w.heap.size 47 2 v r.evs.length (r.evs.map evRow).flatten

theorem exec_store_row {P : Program} {o : Oper} {a : Act} {w : World} (ty : TypeId) (x y : Operand) (ho : o.op = .store ty x y) (g : Nat) (cells : Array Value) (hx : a.eval x = .pointer (some ⟨g, 0, none⟩)) (hy : a.eval y = .agg cells)
    (t : TypeId) (old : Array Value) (hg : w.heap[g]? = some (.cells old t (0, 0))) (hi : (P.info? ty).map (·.size) = some cells.size) (hold : old.size = cells.size) (h1 : cells.all (·.oneCell') = true) :
    (execOp a.eval o).run P w = .ok .skip (w.setRow g cells) := by
  unfold execOp
  simp only [ho, hx, hy, Instr.storeAt, Instr.sureAddr, Sem.run_bind, Sem.run_pure, Result.andThen_ok, run_storeVar_row w g t ty old cells hg hi hold h1]

theorem stRow_size {s : St} (h : StOk s) : (stRow s).toArray.size = 20 := by simp [stRow, h.len]
theorem stRow_one (s : St) : (stRow s).toArray.all (·.oneCell') = true := by
  simp only [stRow, List.all_toArray, List.all_append, List.all_map, Bool.and_eq_true]
  refine ⟨?_, rfl⟩
  rw [List.all_eq_true]
  intro r _; rfl
theorem infoSt : (Tryz.prog.info? 25).map (·.size) = some 20 := by kernel_rfl
theorem infoIns : (Tryz.prog.info? 29).map (·.size) = some 9 := by kernel_rfl
def zeroSt : List Value := List.replicate 17 (.int .u64 0) ++ [.bool false, .bool false, .bool false]
theorem zeroInfoSt : (Tryz.prog.info? 25).map (fun i => (i.zero, i.size)) = some (some (.agg zeroSt.toArray), 20) := by kernel_rfl

theorem wpList_built {P : Program} {ops : Array Oper} {rest : List Oper} {o : Oper} {a : Act} {w : World} {Q : Exit → Act → World → Prop} (hg : o.guard = none) (t : TypeId) (parts : Array (Nat × Operand)) (ho : o.op = .build t parts) (arr : Array Value)
    (hf : P.built t (parts.map fun (i, x) => (i, a.eval x)).toList = some arr)
    (h : wpList P ops Q rest (a.put o.dst (.agg arr)) w) : wpList P ops Q (o :: rest) a w :=
  wpList_build hg t parts ho (by rw [hf]; rfl) (by rw [hf]; exact h)

theorem built_stp (s : St) (i : Ins) (bm : Nat) (h : s.regs.length = 16) : Tryz.prog.built 78 [(0, .agg (stRow s).toArray), (1, .agg (insRow i).toArray), (2, .pointer (some ⟨bm, 0, none⟩))] = some (stpRow ⟨s, i, .pointer (some ⟨bm, 0, none⟩), .slice none 0 0, 0⟩).toArray := by
  rcases s with ⟨regs, pc, cf, of_, zf⟩
  obtain ⟨a0, a1, a2, a3, a4, a5, a6, a7, a8, a9, a10, a11, a12, a13, a14, a15, rfl⟩ := sixteen regs h
  kernel_rfl

theorem Chg.setRow {F : Nat → Prop} {a b : World} (h : Chg F a b) {g : Nat} (hg : F g ∨ a.heap.size ≤ g) (cs : Array Value) : Chg F a (b.setRow g cs) :=
  ⟨h.os, h.tape, h.output, by rw [show (b.setRow g cs).heap.size = b.heap.size by simp [World.setRow]]; exact h.size, fun k hk hF => by
    rw [setRow_other _ _ _ _ (by rcases hg with h' | h'; exact fun e => hF (e ▸ h'); omega)]; exact h.block k hk hF⟩
theorem Run.setRow {w : World} {base b : Nat} {x : Stp} {evs : List Ev} (h : Run w base b x evs) {g : Nat} (hg : g < base) (cs : Array Value) : Run (w.setRow g cs) base b x evs :=
  h.chg (F := fun k => k = g) ((Chg.refl (fun k => k = g) _).setRow (.inl rfl) cs) (fun k hk => by omega)

theorem results3 {P : Program} {fn : Func} {p q r : Tmp} {ty : TypeId} (h : fn.results = #[.cell p ty, .tmp q, .tmp r]) (tmps : Array Value) (w : World) (g : Nat) (t : TypeId) (cs : Array Value) (fr : Nat × Nat) (d : TypeDesc)
    (hp : tmps.getD p undef = .pointer (some ⟨g, 0, none⟩)) (hg : w.heap[g]? = some (.cells cs t fr))
    (hu : P.underlying ty = some d) (hd : (match d with | .struct _ | .array _ _ => true | _ => false) = true) (hi : (P.info? ty).map (·.size) = some cs.size) :
    (results fn tmps).run P w = .ok (.tuple #[.agg cs, tmps.getD q undef, tmps.getD r undef]) w := by
  have hp' : tmps[p]?.getD undef = .pointer (some ⟨g, 0, none⟩) := by simpa using hp
  simp [results, h, hp', asAddr, run_loadVar_row w g t ty cs fr d hg hu hd hi]

theorem exec_load_row {P : Program} {o : Oper} {a : Act} {w : World} (ty : TypeId) (y : Operand) (ho : o.op = .load ty y) (g : Nat) (hx : a.eval y = .pointer (some ⟨g, 0, none⟩)) (cs : Array Value) (t : TypeId) (fr : Nat × Nat) (hg : w.heap[g]? = some (.cells cs t fr)) (d : TypeDesc)
    (hu : P.underlying ty = some d) (hd : (match d with | .struct _ | .array _ _ => true | _ => false) = true) (hi : (P.info? ty).map (·.size) = some cs.size) : (execOp a.eval o).run P w = .ok (.value (.agg cs)) w :=
  exec_load ty y ho _ hx cs d hu hd hi fun j v hv => by
    rw [add_plain, Nat.zero_add]
    simp only [World.cell?, hg]
    simpa using hv
theorem own_base_le {w : World} {base base' e sz n : Nat} {v : Value} {xs : List Value} (h : w.ownsRow base e sz v n xs) (hb : base' ≤ base) : w.ownsRow base' e sz v n xs := by
  rcases h.2 with h1 | ⟨g, cap, cur, h1, hg, h2, h3⟩
  · exact ⟨h.1, .inl h1⟩
  · exact ⟨h.1, .inr ⟨g, cap, cur, h1, Nat.le_trans hb hg, h2, h3⟩⟩
/-- What stood below a block that a step began with, and was not the memory's, stands. -/
theorem Chg.far {F : Nat → Prop} {base : Nat} {a b : World} (h : Chg (Over F base) a b) {g : Nat} (hg : g < a.heap.size) (h1 : g < base) (h2 : ¬ F g) : b.heap[g]? = a.heap[g]? :=
  h.block g hg fun h' => by rcases h' with h' | h'; exact h2 h'; omega

theorem Run.ecell {w : World} {base b : Nat} {x : Stp} {evs : List Ev} (h : Run w base b x evs) : w.cell? ⟨b, 31, none⟩ = some (.int .i64 x.e) := h.cells.2.2.2.2.2.2.2.2.2.2.2.2.2.2.2
theorem Run.lcell {w : World} {base b : Nat} {x : Stp} {evs : List Ev} (h : Run w base b x evs) : w.cell? ⟨b, 30, none⟩ = some x.l := h.cells.2.2.2.2.2.2.2.2.2.2.2.2.2.2.1
/-- Where a step ends: a stepper, and what it told. -/
structure StepEnd (w : World) (base : Nat) (F : Nat → Prop) (m : Value) (i : Ins) (cs zs : Array Value) (r : StepR) (s : St) (s2 : St) (v : Value) (e : Int) (evs : List Ev) (rs : List Reg) (w' : World) : Prop where
  run : Run w' base base ⟨s2, i, m, v, e⟩ evs
  chg : Chg (Over F w.heap.size) w w'
  mem : MemAt w' F m rs
  c0 : w'.heap[w.heap.size]? = some (.cells cs 25 (0, 0))
  c2 : w'.heap[w.heap.size + 1 + 1]? = some (.cells zs 25 (0, 0))
  code : (e = 0 ∧ r = ⟨0, s2, evs, rs⟩) ∨ (e ≠ 0 ∧ r = ⟨e, s, [], rs⟩)

structure StepLate (w : World) (base : Nat) (F : Nat → Prop) (m : Value) (i : Ins) (s2 : St) (v : Value) (e : Int) (evs : List Ev) (rs : List Reg) (w' : World) : Prop where
  run : Run w' base base ⟨s2, i, m, v, e⟩ evs
  chg : Chg (Over F w.heap.size) w w'
  mem : MemAt w' F m rs
theorem StepEnd.late {w w' : World} {base : Nat} {F : Nat → Prop} {m : Value} {i : Ins} {cs zs : Array Value} {r : StepR} {s s2 : St} {v : Value} {e : Int} {evs : List Ev} {rs : List Reg} (h : StepEnd w base F m i cs zs r s s2 v e evs rs w') : StepLate w base F m i s2 v e evs rs w'.drew :=
  ⟨h.run.next ((Below.refl _ _).drew), h.chg.drew, h.mem.keep (fun _ _ => rfl)⟩
theorem StepLate.setRow {w w' : World} {base : Nat} {F : Nat → Prop} {m : Value} {i : Ins} {s2 : St} {v : Value} {e : Int} {evs : List Ev} {rs : List Reg} (h : StepLate w base F m i s2 v e evs rs w') {g : Nat} (hg : w.heap.size ≤ g) (hb : g < base) (hF : ∀ k, F k → k < w.heap.size) (cs : Array Value) : StepLate w base F m i s2 v e evs rs (w'.setRow g cs) :=
  ⟨h.run.setRow hb cs, h.chg.setRow (.inl (.inr hg)) cs, h.mem.keep fun k hk => setRow_other _ _ _ _ (by have := hF k hk; omega)⟩
theorem StepLate.post {w w' : World} {base : Nat} {F : Nat → Prop} {m : Value} {i : Ins} {s2 : St} {v : Value} {evs : List Ev} {rs : List Reg} (h : StepLate w base F m i s2 v 0 evs rs w') (hb : w.heap.size ≤ base) {r : StepR} (hr : r = ⟨0, s2, evs, rs⟩) : DoPost w F m r (.returned (.tuple #[.agg (stRow s2).toArray, v, .int .i64 0])) w' := by
  subst hr
  exact ⟨v, rfl, h.chg, h.mem, own_base_le h.run.row hb⟩
theorem StepLate.bad {w w' : World} {base : Nat} {F : Nat → Prop} {m : Value} {i : Ins} {s s2 : St} {v : Value} {e : Int} {evs : List Ev} {rs : List Reg} (h : StepLate w base F m i s2 v e evs rs w') {r : StepR} (hr : r = ⟨e, s, [], rs⟩) : DoPost w F m r (.returned (.tuple #[.agg (stRow s).toArray, .slice none 0 0, .int .i64 e])) w' := by
  subst hr
  exact ⟨.slice none 0 0, rfl, h.chg, h.mem, by simp, .inl ⟨rfl, rfl⟩⟩

set_option maxRecDepth 100000 in
set_option maxHeartbeats 1600000 in
theorem Do_bad (s : St) (i : Ins) (size : Int) (m : Value) (w : World) (F : Nat → Prop) (rs : List Reg) (hs : StOk s) (hi : InsOk i) (hm : MemAt w F m rs) (hF : ∀ k, F k → k < w.heap.size) (hgood : ¬ (chkP i && (decide (1 ≤ size) && decide (size ≤ 15))) = true) :
    Calls Tryz.prog 11 #[.agg (stRow s).toArray, .agg (insRow i).toArray, .int .i64 size, m] w (DoPost w F m (stepF s i size rs)) := by
  obtain ⟨bm, rfl⟩ : ∃ bm, m = .pointer (some ⟨bm, 0, none⟩) := by obtain ⟨bm, v, h, _⟩ := hm; exact ⟨bm, h⟩
  obtain ⟨r, hr⟩ : ∃ r, r = stepF s i size rs := ⟨_, rfl⟩
  rw [← hr]
  have HR := Lib.hid hr
  have HM := Lib.hid hm
  have HF := Lib.hid hF
  have HS := Lib.hid hs
  have HCHK := Lib.hid (fun w => iCheck_any i hi w)
  obtain ⟨hz, _⟩ := zero_of_info zeroInfoSt
  obtain ⟨W1, hW1, hb1, hs1, _, _⟩ := boxed w (stRow s).toArray 25
  have k1 : W1.heap[w.heap.size]? = some (.cells (stRow s).toArray 25 (0, 0)) := by rw [hW1]; exact heap_alloc_new w _
  obtain ⟨W2, hW2, hb2, hs2, hn2, _⟩ := boxed W1 (insRow i).toArray 29
  obtain ⟨W3, hW3, hb3, hs3, _, _⟩ := boxed W2 zeroSt.toArray 25
  have HSZ := Lib.hid (stRow_size hs)
  have HONE := Lib.hid (stRow_one s)
  generalize hcs : (stRow s).toArray = cs at *
  generalize hzs : zeroSt.toArray = zs at *
  have HCS := Lib.hid hcs
  have HZS := Lib.hid hzs
  have e1 : W1.heap.size = w.heap.size + 1 := hs1
  have e2 : W2.heap.size = w.heap.size + 1 + 1 := by omega
  have e3 : W3.heap.size = w.heap.size + 1 + 1 + 1 := by omega
  have b0 : W3.heap[w.heap.size]? = some (.cells cs 25 (0, 0)) := (hb3.block _ (by omega)).trans ((hb2.block _ (by omega)).trans k1)
  have b1 : W3.heap[w.heap.size + 1]? = some (.cells (insRow i).toArray 29 (0, 0)) := (hb3.block _ (by omega)).trans (by rw [hW2, ← e1]; exact heap_alloc_new W1 _)
  have b2 : W3.heap[w.heap.size + 1 + 1]? = some (.cells zs 25 (0, 0)) := by rw [hW3, ← e2]; exact heap_alloc_new W2 _
  have HB0 := Lib.hid b0
  have HB1 := Lib.hid b1
  have HB2 := Lib.hid b2
  have HW := Lib.hid (show W3 = ((w.alloc (.cells cs 25)).alloc (.cells (insRow i).toArray 29)).alloc (.cells zs 25) by rw [hW3, hW2, hW1])
  have HBW := Lib.hid (hb1.trans ((hb2.trans (hb3.mono (by omega))).mono (by omega)))
  have HE3 := Lib.hid e3
  clear hm hF hs hi hr hW1 hW2 hW3 hb1 hb2 hb3 hs1 hs2 hs3 k1 hn2 e1 e2 e3 hcs hzs b0 b1 b2
  go_enter Tryz.func11, Tryz.ntmps11
  go_wp2_with (rw [← HW.out]; refine wpList_load_row rfl 29 _ rfl (w.heap.size + 1) rfl 29 (insRow i).toArray (0, 0) _ HB1.out Tryz.underlying29 rfl infoIns ?_)
  refine (HCHK.out W3).mono ?_
  rintro e w4 ⟨rfl, hb4⟩
  have C0 := Lib.hid ((hb4.block _ (by have := HE3.out; omega)).trans HB0.out)
  have C1 := Lib.hid ((hb4.block _ (by have := HE3.out; omega)).trans HB1.out)
  have C2 := Lib.hid ((hb4.block _ (by have := HE3.out; omega)).trans HB2.out)
  have HB4 := Lib.hid (HBW.out.trans (hb4.mono (by have := HE3.out; omega)))
  have HSZ4 := Lib.hid (show w.heap.size + 1 + 1 + 1 ≤ w4.heap.size by have := hb4.size; have := HE3.out; omega)
  clear hb4 HB0 HB1 HB2 HW HBW hz
  have hcode : r = ⟨2, s, [], rs⟩ := by rw [HR.out]; unfold stepF; rw [if_neg hgood]
  have HCODE := Lib.hid hcode
  have hbad : DoPost w F (.pointer (some ⟨bm, 0, none⟩)) r (.returned (.tuple #[.agg cs, .slice none 0 0, .int .i64 2])) (w4.setRow (w.heap.size + 1 + 1) cs) := by
    have hb5 : Below w.heap.size w (w4.setRow (w.heap.size + 1 + 1) cs) := Below.setRow HB4.out (by omega) _
    rw [hcode]
    exact ⟨.slice none 0 0, by rw [← HCS.out], Over.below hb5, HM.out.keep (SameOn.of_below hb5 HF.out), by simp, .inl ⟨rfl, rfl⟩⟩
  have HBAD := Lib.hid hbad
  clear hcode hbad
  cases hc : chkP i with
  | false =>
    have HX := Lib.hid hc
    clear hc hgood
    unfold errOf
    go_wp2_with (first | (refine wpList_load_row rfl 25 _ rfl w.heap.size rfl 25 cs (0, 0) _ C0.out Tryz.underlying25 rfl (by rw [HSZ.out]; exact infoSt) ?_) | (refine wpList_store_row rfl 25 _ _ rfl (w.heap.size + 1 + 1) cs rfl rfl 25 zs C2.out (by rw [HSZ.out]; exact infoSt) (by rw [HSZ.out, ← HZS.out]; rfl) HONE.out ?_))
    refine bodyPost_ret (results3 (ty := 25) rfl _ _ (w.heap.size + 1 + 1) 25 cs (0, 0) _ rfl (setRow_heap _ _ _ _ _ _ C2.out) Tryz.underlying25 rfl (by rw [HSZ.out]; exact infoSt)) rfl ?_
    exact HBAD.out
  | true =>
    have hsz : size < 1 ∨ 15 < size := by
      rw [hc] at hgood
      simp at hgood
      omega
    unfold errOf
    clear hgood
    by_cases h1 : size < 1
    · have d1 : decide (size < 1) = true := by simpa using h1
      clear h1 hsz hc
      go_wp2_with (first | (refine wpList_load_row rfl 25 _ rfl w.heap.size rfl 25 cs (0, 0) _ C0.out Tryz.underlying25 rfl (by rw [HSZ.out]; exact infoSt) ?_) | (refine wpList_store_row rfl 25 _ _ rfl (w.heap.size + 1 + 1) cs rfl rfl 25 zs C2.out (by rw [HSZ.out]; exact infoSt) (by rw [HSZ.out, ← HZS.out]; rfl) HONE.out ?_))
      refine bodyPost_ret (results3 (ty := 25) rfl _ _ (w.heap.size + 1 + 1) 25 cs (0, 0) _ rfl (setRow_heap _ _ _ _ _ _ C2.out) Tryz.underlying25 rfl (by rw [HSZ.out]; exact infoSt)) rfl ?_
      exact HBAD.out
    · have d1 : decide (size < 1) = false := by simpa using h1
      have d2 : decide (15 < size) = true := by simp; omega
      clear h1 hsz hc
      go_wp2_with (first | (refine wpList_load_row rfl 25 _ rfl w.heap.size rfl 25 cs (0, 0) _ C0.out Tryz.underlying25 rfl (by rw [HSZ.out]; exact infoSt) ?_) | (refine wpList_store_row rfl 25 _ _ rfl (w.heap.size + 1 + 1) cs rfl rfl 25 zs C2.out (by rw [HSZ.out]; exact infoSt) (by rw [HSZ.out, ← HZS.out]; rfl) HONE.out ?_))
      refine bodyPost_ret (results3 (ty := 25) rfl _ _ (w.heap.size + 1 + 1) 25 cs (0, 0) _ rfl (setRow_heap _ _ _ _ _ _ C2.out) Tryz.underlying25 rfl (by rw [HSZ.out]; exact infoSt)) rfl ?_
      exact HBAD.out

set_option maxRecDepth 100000 in
set_option maxHeartbeats 1600000 in
theorem Do_good (s : St) (i : Ins) (size : Int) (m : Value) (w : World) (F : Nat → Prop) (rs : List Reg) (hs : StOk s) (hi : InsOk i) (hm : MemAt w F m rs) (hF : ∀ k, F k → k < w.heap.size) (hgood : (chkP i && (decide (1 ≤ size) && decide (size ≤ 15))) = true) :
    Calls Tryz.prog 11 #[.agg (stRow s).toArray, .agg (insRow i).toArray, .int .i64 size, m] w (DoPost w F m (stepF s i size rs)) := by
  obtain ⟨bm, rfl⟩ : ∃ bm, m = .pointer (some ⟨bm, 0, none⟩) := by obtain ⟨bm, v, h, _⟩ := hm; exact ⟨bm, h⟩
  obtain ⟨r, hr⟩ : ∃ r, r = stepF s i size rs := ⟨_, rfl⟩
  rw [← hr]
  have HR := Lib.hid hr
  have HM := Lib.hid hm
  have HF := Lib.hid hF
  have HS := Lib.hid hs
  have HCHK := Lib.hid (fun w => iCheck_any i hi w)
  obtain ⟨hz, _⟩ := zero_of_info zeroInfoSt
  obtain ⟨W1, hW1, hb1, hs1, _, _⟩ := boxed w (stRow s).toArray 25
  have k1 : W1.heap[w.heap.size]? = some (.cells (stRow s).toArray 25 (0, 0)) := by rw [hW1]; exact heap_alloc_new w _
  obtain ⟨W2, hW2, hb2, hs2, hn2, _⟩ := boxed W1 (insRow i).toArray 29
  obtain ⟨W3, hW3, hb3, hs3, _, _⟩ := boxed W2 zeroSt.toArray 25
  have HSZ := Lib.hid (stRow_size hs)
  have HONE := Lib.hid (stRow_one s)
  generalize hcs : (stRow s).toArray = cs at *
  generalize hzs : zeroSt.toArray = zs at *
  have HCS := Lib.hid hcs
  have HZS := Lib.hid hzs
  have e1 : W1.heap.size = w.heap.size + 1 := hs1
  have e2 : W2.heap.size = w.heap.size + 1 + 1 := by omega
  have e3 : W3.heap.size = w.heap.size + 1 + 1 + 1 := by omega
  have b0 : W3.heap[w.heap.size]? = some (.cells cs 25 (0, 0)) := (hb3.block _ (by omega)).trans ((hb2.block _ (by omega)).trans k1)
  have b1 : W3.heap[w.heap.size + 1]? = some (.cells (insRow i).toArray 29 (0, 0)) := (hb3.block _ (by omega)).trans (by rw [hW2, ← e1]; exact heap_alloc_new W1 _)
  have b2 : W3.heap[w.heap.size + 1 + 1]? = some (.cells zs 25 (0, 0)) := by rw [hW3, ← e2]; exact heap_alloc_new W2 _
  have HB0 := Lib.hid b0
  have HB1 := Lib.hid b1
  have HB2 := Lib.hid b2
  have HW := Lib.hid (show W3 = ((w.alloc (.cells cs 25)).alloc (.cells (insRow i).toArray 29)).alloc (.cells zs 25) by rw [hW3, hW2, hW1])
  have HBW := Lib.hid (hb1.trans ((hb2.trans (hb3.mono (by omega))).mono (by omega)))
  have HE3 := Lib.hid e3
  clear hm hF hs hi hr hW1 hW2 hW3 hb1 hb2 hb3 hs1 hs2 hs3 k1 hn2 e1 e2 e3 hcs hzs b0 b1 b2
  go_enter Tryz.func11, Tryz.ntmps11
  go_wp2_with (rw [← HW.out]; refine wpList_load_row rfl 29 _ rfl (w.heap.size + 1) rfl 29 (insRow i).toArray (0, 0) _ HB1.out Tryz.underlying29 rfl infoIns ?_)
  refine (HCHK.out W3).mono ?_
  rintro e w4 ⟨rfl, hb4⟩
  have C0 := Lib.hid ((hb4.block _ (by have := HE3.out; omega)).trans HB0.out)
  have C1 := Lib.hid ((hb4.block _ (by have := HE3.out; omega)).trans HB1.out)
  have C2 := Lib.hid ((hb4.block _ (by have := HE3.out; omega)).trans HB2.out)
  have HB4 := Lib.hid (HBW.out.trans (hb4.mono (by have := HE3.out; omega)))
  have HSZ4 := Lib.hid (show w.heap.size + 1 + 1 + 1 ≤ w4.heap.size by have := hb4.size; have := HE3.out; omega)
  clear hb4 HB0 HB1 HB2 HW HBW hz
  have hcode := HR.out
  unfold stepF at hcode
  rw [if_pos hgood] at hcode
  rw [Bool.and_eq_true, Bool.and_eq_true, decide_eq_true_eq, decide_eq_true_eq] at hgood
  obtain ⟨hc, hz1, hz2⟩ := hgood
  have u1 := wrap_u64 size
  have hp64 := HS.out.pc
  have w1 : IntKind.u64.wrap ((s.pc : Int) + (u64 size : Int)) = (((s.pc + u64 size) % 18446744073709551616 : Nat) : Int) := by rw [wrapU']; omega
  have hq64 : (s.pc + u64 size) % 18446744073709551616 < 18446744073709551616 := Nat.mod_lt _ (by decide)
  generalize (s.pc + u64 size) % 18446744073709551616 = q at *
  have HCODE := Lib.hid hcode
  have HC := Lib.hid hc
  have HQ := Lib.hid hq64
  have hbu := built_stp s i bm HS.out.len
  rw [HCS.out] at hbu
  have HBU := Lib.hid hbu
  have d1 : decide (size < 1) = false := by simp; omega
  have d2 : decide (15 < size) = false := by simp; omega
  obtain ⟨W5, hW5, hb5, hs5, _, _⟩ := boxed w4 (stpRow ⟨s, i, .pointer (some ⟨bm, 0, none⟩), .slice none 0 0, 0⟩).toArray 78
  have hrun : Run W5 w4.heap.size w4.heap.size ⟨s, i, .pointer (some ⟨bm, 0, none⟩), .slice none 0 0, 0⟩ [] := ⟨by rw [hW5]; exact heap_alloc_new w4 _, HS.out, Nat.le_refl _, ⟨rfl, .inl ⟨rfl, rfl⟩⟩, by simp⟩
  generalize hst : (stpRow ⟨s, i, .pointer (some ⟨bm, 0, none⟩), .slice none 0 0, 0⟩).toArray = sa at *
  have HRUN := Lib.hid hrun
  have HW5 := Lib.hid hW5
  have c16 : w4.cell? ⟨w.heap.size, 16, none⟩ = some (.int .u64 s.pc) := by
    rw [cell_of_row w4 w.heap.size 16 cs _ _ C0.out, ← HCS.out, List.getElem?_toArray, stRow, List.getElem?_append_right (by simp [HS.out.len])]
    simp [HS.out.len]
  have hlt0 : w.heap.size < w4.heap.size := by have := HSZ4.out; omega
  have HB5 := Lib.hid hb5
  clear hcode hc hq64 hbu hz1 hz2 hW5 hb5 hs5 hrun hst hp64
  rw [HC.out]
  unfold errOf
  go_wp2_with (first | (refine wpList_load_row rfl 25 _ rfl w.heap.size rfl 25 cs (0, 0) _ C0.out Tryz.underlying25 rfl (by rw [HSZ.out]; exact infoSt) ?_) | (refine wpList_load_row rfl 29 _ rfl (w.heap.size + 1) rfl 29 (insRow i).toArray (0, 0) _ C1.out Tryz.underlying29 rfl infoIns ?_) | (refine wpList_built rfl 78 _ rfl sa (Eq.trans (congrArg (Tryz.prog.built 78) (a₂ := [(0, .agg cs), (1, .agg (insRow i).toArray), (2, .pointer (some ⟨bm, 0, none⟩))]) (by as_aux_lemma => kernel_rfl)) HBU.out) ?_))
  rw [← HW5.out]
  refine (see_any HRUN.out 1 s.pc (by simp)).mono ?_
  rintro e w6 ⟨rfl, hb6, v6, hr6⟩
  have c16' := hr6.cells.1
  have f16 := hr6.frozen 16
  have HR6 := Lib.hid (hr6.setPc HQ.out)
  have HB6 := Lib.hid (HB5.out.trans hb6)
  clear hb6 hr6 c16 hlt0
  go_wp2_with fail
  clear u1 w1 c16' f16
  cases ho : overF { s with pc := q } i with
  | some s2 =>
    have HO := Lib.hid ho
    clear ho
    refine (over_yes HR6.out HC.out HO.out).mono ?_
    rintro e w8 ⟨rfl, hb8, hr8⟩
    have hall : StepEnd w w4.heap.size F (.pointer (some ⟨bm, 0, none⟩)) i cs zs r s s2 v6 0 [⟨1, s.pc⟩] rs w8 := by
      have hb : Below w4.heap.size w4 w8 := (HB6.out.setCell (Nat.le_refl _) _).trans hb8
      have hcode := HCODE.out
      rw [HO.out] at hcode
      refine ⟨hr8, Over.below (HB4.out.trans (hb.mono (by have := HB4.out.size; omega))), HM.out.keep (SameOn.of_below (HB4.out.trans (hb.mono (by have := HB4.out.size; omega))) HF.out), (hb.block _ (by have := HSZ4.out; omega)).trans C0.out, (hb.block _ (by have := HSZ4.out; omega)).trans C2.out, .inl ⟨rfl, hcode⟩⟩
    have HALL := Lib.hid hall
    have c31 := hr8.ecell
    have HOK : Hid (StOk s2) := Lib.hid hr8.ok
    clear hall hb8 hr8
    go_wp2
    clear c31
    (refine wp_region_lines (StepLate w w4.heap.size F (.pointer (some ⟨bm, 0, none⟩)) i s2 v6 0 [⟨1, s.pc⟩] rs) (by kernel_rfl) (by kernel_rfl) HALL.out.late ?_)
    (try simp only [])
    repeat (first | (refine runL_no (by rfl) ?_; (try simp only [Act.put, List.setIfInBounds_toArray, List.set_cons_zero, List.set_cons_succ])) | (refine runL_val (v := ?_) (by rfl) ?_ ?_; rotate_left; (focus (intro w_ hw_; have k30 := hw_.run.lcell; have k31 := hw_.run.ecell; go_simp; (try with_reducible rfl); done)); (try simp only [Act.put, List.setIfInBounds_toArray, List.set_cons_zero, List.set_cons_succ])) | (refine runL_val (v := .agg (stRow s2).toArray) (by rfl) (fun w_ hw_ => hw_.run.loadSt _ rfl rfl) ?_; (try simp only [Act.put, List.setIfInBounds_toArray, List.set_cons_zero, List.set_cons_succ])) | (refine runL_skip (w1 := w8.drew.setRow (w.heap.size + 1 + 1) (stRow s2).toArray) (by rfl) (by rfl) (exec_store_row 25 _ _ rfl (w.heap.size + 1 + 1) (stRow s2).toArray rfl rfl 25 zs HALL.out.c2 (by rw [stRow_size HOK.out]; exact infoSt) (by rw [stRow_size HOK.out, ← HZS.out]; rfl) (stRow_one _)) (.inr (HALL.out.late.setRow (g := w.heap.size + 1 + 1) (by omega) (by have := HSZ4.out; omega) HF.out _)) ?_; (try simp only [Act.put])))
    (refine runL_nil ?_)
    go_wp2
    refine bodyPost_ret (results3 (ty := 25) rfl _ _ (w.heap.size + 1 + 1) 25 (stRow s2).toArray (0, 0) _ rfl (setRow_heap w8.drew _ _ _ _ _ HALL.out.c2) Tryz.underlying25 rfl (by rw [stRow_size HOK.out]; exact infoSt)) rfl ?_
    refine (HALL.out.late.setRow (g := w.heap.size + 1 + 1) (by omega) (by have := HSZ4.out; omega) HF.out _).post (by have := HSZ4.out; omega) ?_
    rcases HALL.out.code with ⟨_, h⟩ | ⟨h, _⟩
    · exact h
    · exact absurd rfl h
  | none =>
    have HO := Lib.hid ho
    clear ho
    have hb7 : Below w4.heap.size w4 (w6.setCell ⟨w4.heap.size, 16, none⟩ (.int .u64 q)) := HB6.out.setCell (Nat.le_refl _) _
    have hb9 := HB4.out.trans (hb7.mono (by have := HB4.out.size; omega))
    have HD := Lib.hid (do_says HR6.out HC.out (HM.out.keep (SameOn.of_below hb9 HF.out)) (fun k hk => by have := HF.out k hk; have := HB4.out.size; omega) (by simp) HO.out)
    have HB7 := Lib.hid hb7
    have HB9 := Lib.hid hb9
    clear hb7 hb9
    refine (over_no HR6.out HC.out HO.out).mono ?_
    rintro e w7 ⟨rfl, rfl⟩
    go_wp2_with fail
    refine HD.out.mono ?_
    rintro e w8 ⟨rfl, v8, hch, hm8, hr8⟩
    have hcode := HCODE.out
    rw [HO.out] at hcode
    clear HCODE HD
    generalize doF { s with pc := q } i rs 0 = d at *
    obtain ⟨st8, ev8, e8, rs8⟩ := d
    have hall : StepEnd w w4.heap.size F (.pointer (some ⟨bm, 0, none⟩)) i cs zs r s st8 v8 e8 ([⟨1, s.pc⟩] ++ ev8) rs8 w8 := by
      have hz := HSZ4.out
      have hz7 := HB7.out.size
      refine ⟨hr8, (Over.below HB9.out).trans (hch.mono fun k _ h => h.imp id fun h => by omega), hm8, ?_, ?_, ?_⟩
      · rw [hch.far (by omega) (by omega) (fun h => by have := HF.out _ h; omega)]; exact (HB7.out.block _ (by omega)).trans C0.out
      · rw [hch.far (by omega) (by omega) (fun h => by have := HF.out _ h; omega)]; exact (HB7.out.block _ (by omega)).trans C2.out
      · by_cases he : e8 = 0
        · exact .inl ⟨he, by rw [hcode]; simp [he]⟩
        · exact .inr ⟨he, by rw [hcode]; simp [he]⟩
    have HALL := Lib.hid hall
    have c31 : w8.cell? ⟨w4.heap.size, 31, none⟩ = some (.int .i64 e8) := hr8.ecell
    have HOK : Hid (StOk st8) := Lib.hid hr8.ok
    clear hall hr8 hch hm8 hcode
    by_cases he : e8 = 0
    · subst he
      go_wp2
      clear c31
      (refine wp_region_lines (StepLate w w4.heap.size F (.pointer (some ⟨bm, 0, none⟩)) i st8 v8 0 ([⟨1, s.pc⟩] ++ ev8) rs8) (by kernel_rfl) (by kernel_rfl) HALL.out.late ?_)
      (try simp only [])
      repeat (first | (refine runL_no (by rfl) ?_; (try simp only [Act.put, List.setIfInBounds_toArray, List.set_cons_zero, List.set_cons_succ])) | (refine runL_val (v := ?_) (by rfl) ?_ ?_; rotate_left; (focus (intro w_ hw_; have k30 := hw_.run.lcell; have k31 := hw_.run.ecell; go_simp; (try with_reducible rfl); done)); (try simp only [Act.put, List.setIfInBounds_toArray, List.set_cons_zero, List.set_cons_succ])) | (refine runL_val (v := .agg (stRow st8).toArray) (by rfl) (fun w_ hw_ => hw_.run.loadSt _ rfl rfl) ?_; (try simp only [Act.put, List.setIfInBounds_toArray, List.set_cons_zero, List.set_cons_succ])) | (refine runL_skip (w1 := w8.drew.setRow (w.heap.size + 1 + 1) (stRow st8).toArray) (by rfl) (by rfl) (exec_store_row 25 _ _ rfl (w.heap.size + 1 + 1) (stRow st8).toArray rfl rfl 25 zs HALL.out.c2 (by rw [stRow_size HOK.out]; exact infoSt) (by rw [stRow_size HOK.out, ← HZS.out]; rfl) (stRow_one _)) (.inr (HALL.out.late.setRow (g := w.heap.size + 1 + 1) (by omega) (by have := HSZ4.out; omega) HF.out _)) ?_; (try simp only [Act.put])))
      (refine runL_nil ?_)
      go_wp2
      refine bodyPost_ret (results3 (ty := 25) rfl _ _ (w.heap.size + 1 + 1) 25 (stRow st8).toArray (0, 0) _ rfl (setRow_heap w8.drew _ _ _ _ _ HALL.out.c2) Tryz.underlying25 rfl (by rw [stRow_size HOK.out]; exact infoSt)) rfl ?_
      refine (HALL.out.late.setRow (g := w.heap.size + 1 + 1) (by omega) (by have := HSZ4.out; omega) HF.out _).post (by have := HSZ4.out; omega) ?_
      rcases HALL.out.code with ⟨_, h⟩ | ⟨h, _⟩
      · exact h
      · exact absurd rfl h
    · have hz : (e8 != 0) = true := by simpa using he
      have HE := Lib.hid he
      clear he
      go_wp2
      clear c31 hz
      (refine wp_region_lines (fun w_ => StepLate w w4.heap.size F (.pointer (some ⟨bm, 0, none⟩)) i st8 v8 e8 ([⟨1, s.pc⟩] ++ ev8) rs8 w_ ∧ w_.heap[w.heap.size]? = some (.cells cs 25 (0, 0))) (by kernel_rfl) (by kernel_rfl) (And.intro HALL.out.late HALL.out.c0) ?_)
      (try simp only [])
      repeat (first | (refine runL_no (by rfl) ?_; (try simp only [Act.put, List.setIfInBounds_toArray, List.set_cons_zero, List.set_cons_succ])) | (refine runL_val (v := ?_) (by rfl) ?_ ?_; rotate_left; (focus (intro w_ hw_; have k30 := hw_.1.run.lcell; have k31 := hw_.1.run.ecell; go_simp; (try with_reducible rfl); done)); (try simp only [Act.put, List.setIfInBounds_toArray, List.set_cons_zero, List.set_cons_succ])) | (refine runL_val (v := .agg cs) (by rfl) (fun w_ hw_ => exec_load_row 25 _ rfl w.heap.size rfl cs 25 (0, 0) hw_.2 _ Tryz.underlying25 rfl (by rw [HSZ.out]; exact infoSt)) ?_; (try simp only [Act.put, List.setIfInBounds_toArray, List.set_cons_zero, List.set_cons_succ])) | (refine runL_skip (w1 := w8.drew.setRow (w.heap.size + 1 + 1) cs) (by rfl) (by rfl) (exec_store_row 25 _ _ rfl (w.heap.size + 1 + 1) cs rfl rfl 25 zs HALL.out.c2 (by rw [HSZ.out]; exact infoSt) (by rw [HSZ.out, ← HZS.out]; rfl) HONE.out) (.inr ⟨HALL.out.late.setRow (g := w.heap.size + 1 + 1) (by omega) (by have := HSZ4.out; omega) HF.out _, (setRow_other _ _ _ _ (by omega)).trans HALL.out.c0⟩) ?_; (try simp only [Act.put])))
      (refine runL_nil ?_)
      go_wp2
      refine bodyPost_ret (results3 (ty := 25) rfl _ _ (w.heap.size + 1 + 1) 25 cs (0, 0) _ rfl (setRow_heap w8.drew _ _ _ _ _ HALL.out.c2) Tryz.underlying25 rfl (by rw [HSZ.out]; exact infoSt)) rfl ?_
      have h := (HALL.out.late.setRow (g := w.heap.size + 1 + 1) (by omega) (by have := HSZ4.out; omega) HF.out cs).bad (r := r) (s := s) (by
        rcases HALL.out.code with ⟨h, _⟩ | ⟨_, h⟩
        · exact absurd h HE.out
        · exact h)
      rw [HCS.out] at h
      exact h

/-- step.Do: of any state, instruction, size, memory that is there. -/
theorem Do_any (s : St) (i : Ins) (size : Int) (m : Value) (w : World) (F : Nat → Prop) (rs : List Reg) (hs : StOk s) (hi : InsOk i) (hm : MemAt w F m rs) (hF : ∀ k, F k → k < w.heap.size) :
    Calls Tryz.prog 11 #[.agg (stRow s).toArray, .agg (insRow i).toArray, .int .i64 size, m] w (DoPost w F m (stepF s i size rs)) := by
  by_cases hgood : (chkP i && (decide (1 ≤ size) && decide (size ≤ 15))) = true
  · exact Do_good s i size m w F rs hs hi hm hF hgood
  · exact Do_bad s i size m w F rs hs hi hm hF hgood
end Go.Proofs.YtmanhikpccnfaaaGreat
