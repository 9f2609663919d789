/- An argument that is a slice of structs, opened as rows. -/
import Derived.Test.YtmanhikpccnfaaaGreatBc12
import Derived.Test.YtmanhikpccnfaaaGreatBc8
import Derived.Test.YtmanhikpccnfaaaGreatBc9
import Derived.Test.YtmanhikpccnfaaaGreatBc1
import Derived.Deep.WholeRow
import Derived.Deep.MidRow
import Derived.Maps.AppendAt
import Derived.Tactics
import Derived.Deep.DeepCutAuto
namespace Go.Proofs.YtmanhikpccnfaaaGreat
open Go.ChangeShapes Go.WideShapes Go.Deep Go.RowKit

section
variable {H : Type} {enc : TypeId × Value → H} {w : World}

theorem open_rows {α : Type} {T St sz : Nat} (row : α → List Value) (Q : α → Prop) (hT : Tryz.prog.underlying T = some (.slice St)) (hC : Tryz.prog.cellsOf St = sz) (h0 : 0 < sz) (hrow : ∀ x, (row x).length = sz)
    (each : ∀ fuel cs y, DataW.trod enc Tryz.prog w 0 (fun _ => true) true fuel St cs = some y → cs.length = sz → ∃ x, cs = row x ∧ Q x)
    {A : Option Addr} {n c : Nat} {d : DataW H} {ps : List MemPlace} (h : DataW.Trod enc Tryz.prog w 0 (fun _ => true) true T (.slice A n c) d ps) :
    ∃ l : List α, Rows w (fun k => k < w.heap.size) sz (.slice A n c) (l.map row) ∧ (∀ x ∈ l, Q x) ∧ l.length ≤ 9223372036854775807 := by
  obtain ⟨fuel, hf⟩ := h
  rcases open_slice hT hf with ⟨hcs, _⟩ | ⟨a, len, cap, m, q, D, Pl, hcs, _, hl, hm, hmm, _, hi⟩
  · simp [Value.cells] at hcs
    obtain ⟨rfl, rfl, rfl⟩ := hcs
    exact ⟨[], ⟨none, 0, rfl, by simp, by simp, fun h => absurd rfl h⟩, by simp, by simp⟩
  · simp [Value.cells] at hcs
    obtain ⟨rfl, rfl, rfl⟩ := hcs
    simp only [if_true] at hmm
    have ech : ∀ i, i < n → ∃ x : α, Q x ∧ ∀ (j : Nat) (u : Value), (row x)[j]? = some u → w.cell? (a.add (i * sz + j)) = some u := fun i hin => by
      obtain ⟨cs', hc, ht⟩ := hi i (by omega)
      rw [hC] at hc
      obtain ⟨_, hlen, hat⟩ := World.cells?_some hc
      obtain ⟨x, rfl, hq⟩ := each _ _ _ ht hlen
      refine ⟨x, hq, fun j u hu => ?_⟩
      have := hat j (by rw [← hlen]; exact (List.getElem?_eq_some_iff.1 hu).1)
      rw [← add_add, this, hu]
    obtain ⟨L, hL, hq⟩ := list_of_all _ n ech
    refine ⟨L, ⟨some a, c, by simp [hL], by simp [hL]; omega, fun r hr => by obtain ⟨x, _, rfl⟩ := List.mem_map.1 hr; exact hrow x, fun hne => ?_⟩, fun x hx => ?_, by rw [hL]; unfold maxLen at hm; omega⟩
    · have hpos : 0 < L.length := by
        cases L with
        | nil => simp at hne
        | cons => simp
      have hl0 := hrow L[0]
      obtain ⟨u0, hu0⟩ : ∃ u, (row L[0])[0]? = some u := by
        cases hx : row L[0] with
        | nil => rw [hx] at hl0; simp at hl0; omega
        | cons u us => exact ⟨u, rfl⟩
      have hp0 := (hq 0 L[0] (List.getElem?_eq_getElem hpos)).2 0 u0 hu0
      have h00 : ∃ u, w.cell? a = some u := ⟨_, by simpa [Addr.add] using hp0⟩
      obtain ⟨ha, hb, _⟩ := plain_addr hp0 h00
      refine ⟨a.block, a.off, by rw [← ha], hb, fun i j r u hr hu => ?_⟩
      rw [List.getElem?_map] at hr
      cases hpi : L[i]? with
      | none => rw [hpi] at hr; cases hr
      | some x =>
        rw [hpi] at hr
        cases hr
        have hc := (hq i x hpi).2 j u hu
        obtain ⟨_, _, hadd⟩ := plain_addr hc h00
        rw [hadd] at hc
        rw [show a.off + i * sz + j = a.off + (i * sz + j) from by omega]
        exact hc
    · obtain ⟨i, hi⟩ := List.mem_iff_getElem?.1 hx
      exact (hq i x hi).1

theorem trod_u64 {fuel : Nat} {cs : List Value} {y : DataW H × List MemPlace} (h : DataW.trod enc Tryz.prog w 0 (fun _ => true) true fuel 22 cs = some y) : ∃ n : Nat, cs = [.int .u64 n] ∧ n < 18446744073709551616 := by
  obtain ⟨z, hz, _, hwf⟩ := DataW.trod_int Tryz.underlying22 h
  have hzb : 0 ≤ z ∧ z ≤ 18446744073709551615 := by simpa [Lit.wf, IntKind.min, IntKind.max, IntKind.bits, IntKind.signed] using hwf
  exact ⟨z.toNat, by rw [hz]; congr 2; omega, by omega⟩
theorem trod_i64 {fuel : Nat} {cs : List Value} {y : DataW H × List MemPlace} (h : DataW.trod enc Tryz.prog w 0 (fun _ => true) true fuel 3 cs = some y) : ∃ z : Int, cs = [.int .i64 z] ∧ -9223372036854775808 ≤ z ∧ z ≤ 9223372036854775807 := by
  obtain ⟨z, hz, _, hwf⟩ := DataW.trod_int Tryz.underlying3 h
  have hzb : -9223372036854775808 ≤ z ∧ z ≤ 9223372036854775807 := by simpa [Lit.wf, IntKind.min, IntKind.max, IntKind.bits, IntKind.signed] using hwf
  exact ⟨z, hz, hzb⟩
end
end Go.Proofs.YtmanhikpccnfaaaGreat

/- Arguments of type State and Inst, opened. -/
namespace Go.Proofs.YtmanhikpccnfaaaGreat
open Go.ChangeShapes Go.WideShapes Go.Deep Go.RowKit

section
variable {H : Type} {enc : TypeId × Value → H} {w : World} {P : Program} {base : Nat} {spare : Nat → Bool} {held : Bool}
theorem trod_array {t e : TypeId} {n fuel : Nat} {cs : List Value} {x : DataW H × List MemPlace} (ht : P.underlying t = some (.array n e)) (h : DataW.trod enc P w base spare held fuel t cs = some x) :
    ∃ m, cs.length = P.cellsOf t ∧ ∀ i, i < n → ∃ y, DataW.trod enc P w base spare held m e ((cs.drop (i * P.cellsOf e)).take (P.cellsOf e)) = some y := by
  cases fuel with
  | zero => simp [DataW.trod] at h
  | succ m =>
    unfold DataW.trod at h
    rw [ht] at h
    split at h <;> simp_all
    obtain ⟨hl, xs, hp, hd⟩ := h
    refine ⟨m, fun i hi => ?_⟩
    have hx := mapM_some_get hp i i (by simp [hi])
    have hlen := mapM_some_length hp
    simp only [List.length_range] at hlen
    rw [List.getElem?_eq_getElem (by omega)] at hx
    exact ⟨_, _, hx⟩
theorem one_at {L : List Value} {k : Nat} {v : Value} (h : (L.drop k).take 1 = [v]) : L[k]? = some v := by
  have h1 : ((L.drop k).take 1)[0]? = some v := by rw [h]; rfl
  rw [List.getElem?_take_of_lt (by decide), List.getElem?_drop] at h1
  exact h1
end
section
variable {H : Type} {enc : TypeId × Value → H} {w : World}
theorem open_u64 {f k : Nat} {L : List Value} {y : DataW H × List MemPlace} (h : DataW.trod enc Tryz.prog w 0 (fun _ => true) true f 22 ((L.drop k).take 1) = some y) : ∃ n : Nat, L[k]? = some (.int .u64 n) ∧ n < 18446744073709551616 := by
  obtain ⟨z, hz, _, hw⟩ := DataW.trod_int Tryz.underlying22 h
  have hb : 0 ≤ z ∧ z ≤ 18446744073709551615 := by simpa [Lit.wf, IntKind.min, IntKind.max, IntKind.bits, IntKind.signed] using hw
  obtain ⟨n, rfl⟩ : ∃ n : Nat, z = n := ⟨z.toNat, by omega⟩
  exact ⟨n, one_at hz, by omega⟩
theorem open_b {f k : Nat} {L : List Value} {y : DataW H × List MemPlace} (h : DataW.trod enc Tryz.prog w 0 (fun _ => true) true f 4 ((L.drop k).take 1) = some y) : ∃ b, L[k]? = some (.bool b) := by
  obtain ⟨b, hz, _⟩ := DataW.trod_bool Tryz.underlying4 h
  exact ⟨b, one_at hz⟩
theorem open_i {f k : Nat} {L : List Value} {y : DataW H × List MemPlace} {t : TypeId} (ht : Tryz.prog.underlying t = some (.int .i64)) (h : DataW.trod enc Tryz.prog w 0 (fun _ => true) true f t ((L.drop k).take 1) = some y) : ∃ z : Int, L[k]? = some (.int .i64 z) ∧ -9223372036854775808 ≤ z ∧ z ≤ 9223372036854775807 := by
  obtain ⟨z, hz, _, hw⟩ := DataW.trod_int ht h
  have hb : -9223372036854775808 ≤ z ∧ z ≤ 9223372036854775807 := by simpa [Lit.wf, IntKind.min, IntKind.max, IntKind.bits, IntKind.signed] using hw
  exact ⟨z, one_at hz, hb⟩
theorem st_get {R : List Nat} {pc : Nat} {a b c : Bool} (hR : R.length = 16) {L : List Value} (hL : L.length = 20) (h : ∀ (i : Nat) (n : Nat), R[i]? = some n → L[i]? = some (.int .u64 n)) (h16 : L[16]? = some (.int .u64 pc)) (h17 : L[17]? = some (.bool a)) (h18 : L[18]? = some (.bool b)) (h19 : L[19]? = some (.bool c)) :
    L = stRow ⟨R, pc, a, b, c⟩ := by
  apply List.ext_getElem?
  intro i
  rw [stRow]
  by_cases hi : i < 16
  · have hg : R[i]? = some R[i] := List.getElem?_eq_getElem (by omega)
    rw [h i _ hg, List.getElem?_append_left (by simpa [hR] using hi), List.getElem?_map, hg]
    rfl
  · rw [List.getElem?_append_right (by simp [hR]; omega)]
    simp only [List.length_map, hR]
    by_cases h20 : i < 20
    · obtain rfl | rfl | rfl | rfl : i = 16 ∨ i = 17 ∨ i = 18 ∨ i = 19 := by omega
      · rw [h16]; rfl
      · rw [h17]; rfl
      · rw [h18]; rfl
      · rw [h19]; rfl
    · rw [List.getElem?_eq_none (by omega), List.getElem?_eq_none (by simp; omega)]

set_option maxRecDepth 100000 in
theorem open_st {cs : Array Value} {d : DataW H} {ps : List MemPlace} (h : DataW.Trod enc Tryz.prog w 0 (fun _ => true) true 25 (.agg cs) d ps) : ∃ s : St, cs = (stRow s).toArray ∧ StOk s := by
  obtain ⟨fuel, hf⟩ := h
  obtain ⟨xs, f, _, _, hlen, hxl, hfs⟩ := DataW.trod_struct Tryz.underlying25 hf
  rw [show Tryz.prog.cellsOf 25 = 20 by kernel_rfl] at hlen
  have hcs : (Value.agg cs).cells.toList = cs.toList := rfl
  rw [hcs] at hlen hfs
  generalize hL : cs.toList = L at *
  match xs, hxl with
  | [y0, y1, y2, y3, y4], _ =>
    have k1 : Tryz.prog.cellsOf 22 = 1 := by kernel_rfl
    have kb : Tryz.prog.cellsOf 4 = 1 := by kernel_rfl
    have kr : Tryz.prog.cellsOf 23 = 16 := by kernel_rfl
    have t0 : DataW.trod enc Tryz.prog w 0 (fun _ => true) true f 23 ((L.drop 0).take (Tryz.prog.cellsOf 23)) = some y0 := hfs 0 _ rfl
    have t1 : DataW.trod enc Tryz.prog w 0 (fun _ => true) true f 22 ((L.drop 16).take (Tryz.prog.cellsOf 22)) = some y1 := hfs 1 _ rfl
    have t2 : DataW.trod enc Tryz.prog w 0 (fun _ => true) true f 4 ((L.drop 17).take (Tryz.prog.cellsOf 4)) = some y2 := hfs 2 _ rfl
    have t3 : DataW.trod enc Tryz.prog w 0 (fun _ => true) true f 4 ((L.drop 18).take (Tryz.prog.cellsOf 4)) = some y3 := hfs 3 _ rfl
    have t4 : DataW.trod enc Tryz.prog w 0 (fun _ => true) true f 4 ((L.drop 19).take (Tryz.prog.cellsOf 4)) = some y4 := hfs 4 _ rfl
    rw [k1] at t1
    rw [kb] at t2 t3 t4
    rw [kr, List.drop_zero] at t0
    obtain ⟨m, _, ha⟩ := trod_array Tryz.underlying23 t0
    rw [k1] at ha
    obtain ⟨R, hR, hRq⟩ := list_of_all (fun i n => L[i]? = some (.int .u64 (n : Nat)) ∧ n < 18446744073709551616) 16 fun i hi => by
      obtain ⟨y, hy⟩ := ha i hi
      obtain ⟨n, h1, h2⟩ := open_u64 hy
      rw [Nat.mul_one, List.getElem?_take_of_lt hi] at h1
      exact ⟨n, h1, h2⟩
    obtain ⟨pc, h1, h1'⟩ := open_u64 t1
    obtain ⟨a, h2⟩ := open_b t2
    obtain ⟨b, h3⟩ := open_b t3
    obtain ⟨c, h4⟩ := open_b t4
    refine ⟨⟨R, pc, a, b, c⟩, ?_, hR, fun r hr => ?_, h1'⟩
    · rw [← st_get hR hlen (fun i n hi => (hRq i n hi).1) h1 h2 h3 h4, ← hL]
    · obtain ⟨i, hi⟩ := List.mem_iff_getElem?.1 hr
      exact (hRq i r hi).2

set_option maxRecDepth 100000 in
theorem open_ins {cs : Array Value} {d : DataW H} {ps : List MemPlace} (h : DataW.Trod enc Tryz.prog w 0 (fun _ => true) true 29 (.agg cs) d ps) : ∃ i : Ins, cs = (insRow i).toArray ∧ InsOk i := by
  obtain ⟨fuel, hf⟩ := h
  obtain ⟨xs, f, _, _, hlen, hxl, hfs⟩ := DataW.trod_struct Tryz.underlying29 hf
  rw [show Tryz.prog.cellsOf 29 = 9 by kernel_rfl] at hlen
  have hcs : (Value.agg cs).cells.toList = cs.toList := rfl
  rw [hcs] at hlen hfs
  generalize hL : cs.toList = L at *
  match xs, hxl with
  | [y0, y1, y2, y3, y4, y5], _ =>
    have k1 : Tryz.prog.cellsOf 3 = 1 := by kernel_rfl
    have k8 : Tryz.prog.cellsOf 2 = 1 := by kernel_rfl
    have km : Tryz.prog.cellsOf 27 = 4 := by kernel_rfl
    have t0 : DataW.trod enc Tryz.prog w 0 (fun _ => true) true f 3 ((L.drop 0).take (Tryz.prog.cellsOf 3)) = some y0 := hfs 0 _ rfl
    have t1 : DataW.trod enc Tryz.prog w 0 (fun _ => true) true f 3 ((L.drop 1).take (Tryz.prog.cellsOf 3)) = some y1 := hfs 1 _ rfl
    have t2 : DataW.trod enc Tryz.prog w 0 (fun _ => true) true f 3 ((L.drop 2).take (Tryz.prog.cellsOf 3)) = some y2 := hfs 2 _ rfl
    have t3 : DataW.trod enc Tryz.prog w 0 (fun _ => true) true f 3 ((L.drop 3).take (Tryz.prog.cellsOf 3)) = some y3 := hfs 3 _ rfl
    have t4 : DataW.trod enc Tryz.prog w 0 (fun _ => true) true f 27 ((L.drop 4).take (Tryz.prog.cellsOf 27)) = some y4 := hfs 4 _ rfl
    have t5 : DataW.trod enc Tryz.prog w 0 (fun _ => true) true f 2 ((L.drop 8).take (Tryz.prog.cellsOf 2)) = some y5 := hfs 5 _ rfl
    obtain ⟨zs, g, _, _, _, hzl, hgs⟩ := DataW.trod_struct Tryz.underlying27 t4
    rw [km] at hgs
    match zs, hzl with
    | [z0, z1, z2, z3], _ =>
      have m0 : DataW.trod enc Tryz.prog w 0 (fun _ => true) true g 3 ((((L.drop 4).take 4).drop 0).take (Tryz.prog.cellsOf 3)) = some z0 := hgs 0 _ rfl
      have m1 : DataW.trod enc Tryz.prog w 0 (fun _ => true) true g 3 ((((L.drop 4).take 4).drop 1).take (Tryz.prog.cellsOf 3)) = some z1 := hgs 1 _ rfl
      have m2 : DataW.trod enc Tryz.prog w 0 (fun _ => true) true g 3 ((((L.drop 4).take 4).drop 2).take (Tryz.prog.cellsOf 3)) = some z2 := hgs 2 _ rfl
      have m3 : DataW.trod enc Tryz.prog w 0 (fun _ => true) true g 2 ((((L.drop 4).take 4).drop 3).take (Tryz.prog.cellsOf 2)) = some z3 := hgs 3 _ rfl
      rw [k1] at t0 t1 t2 t3 m0 m1 m2
      rw [k8] at t5 m3
      obtain ⟨a0, e0, _⟩ := open_i Tryz.underlying3 t0
      obtain ⟨a1, e1, _⟩ := open_i Tryz.underlying3 t1
      obtain ⟨a2, e2, _⟩ := open_i Tryz.underlying3 t2
      obtain ⟨a3, e3, _⟩ := open_i Tryz.underlying3 t3
      obtain ⟨a4, e4, _⟩ := open_i Tryz.underlying3 m0
      obtain ⟨a5, e5, _⟩ := open_i Tryz.underlying3 m1
      obtain ⟨a6, e6, _⟩ := open_i Tryz.underlying3 m2
      obtain ⟨a7, e7, b7⟩ := open_i Tryz.underlying2 m3
      obtain ⟨a8, e8, b8⟩ := open_i Tryz.underlying2 t5
      rw [List.getElem?_take_of_lt (by decide), List.getElem?_drop] at e4 e5 e6 e7
      refine ⟨⟨a0, a1, a2, a3, a4, a5, a6, a7, a8⟩, ?_, b7, b8⟩
      apply Array.ext'
      rw [hL]
      match L, hlen with
      | [c0, c1, c2, c3, c4, c5, c6, c7, c8], _ =>
        simp at e0 e1 e2 e3 e4 e5 e6 e7 e8
        subst e0 e1 e2 e3 e4 e5 e6 e7 e8
        rfl
end
def witSt : Value := .agg #[.int .u64 0, .int .u64 0, .int .u64 0, .int .u64 0, .int .u64 0, .int .u64 0, .int .u64 0, .int .u64 0, .int .u64 0, .int .u64 0, .int .u64 0, .int .u64 0, .int .u64 0, .int .u64 0, .int .u64 0, .int .u64 0, .int .u64 0, .bool false, .bool false, .bool false]
def witIns : Value := .agg #[.int .i64 0, .int .i64 0, .int .i64 0, .int .i64 0, .int .i64 0, .int .i64 0, .int .i64 0, .int .i64 0, .int .i64 0]
end Go.Proofs.YtmanhikpccnfaaaGreat

/- Arguments of type []Event and Mem, opened. -/
namespace Go.Proofs.YtmanhikpccnfaaaGreat
open Go.ChangeShapes Go.WideShapes Go.Deep Go.RowKit

section
variable {H : Type} {enc : TypeId × Value → H} {w : World}
set_option maxRecDepth 100000 in
theorem trod_ev (fuel : Nat) (cs : List Value) (y : DataW H × List MemPlace) (h : DataW.trod enc Tryz.prog w 0 (fun _ => true) true fuel 47 cs = some y) (hlen : cs.length = 2) : ∃ x : Ev, cs = evRow x ∧ True := by
  obtain ⟨xs, f, _, _, _, hxl, hfs⟩ := DataW.trod_struct Tryz.underlying47 h
  generalize hL : cs = L at *
  match xs, hxl with
  | [y0, y1], _ =>
    have k1 : Tryz.prog.cellsOf 3 = 1 := by kernel_rfl
    have k8 : Tryz.prog.cellsOf 22 = 1 := by kernel_rfl
    have t0 : DataW.trod enc Tryz.prog w 0 (fun _ => true) true f 3 ((L.drop 0).take (Tryz.prog.cellsOf 3)) = some y0 := hfs 0 _ rfl
    have t1 : DataW.trod enc Tryz.prog w 0 (fun _ => true) true f 22 ((L.drop 1).take (Tryz.prog.cellsOf 22)) = some y1 := hfs 1 _ rfl
    rw [k1] at t0
    rw [k8] at t1
    obtain ⟨a0, e0, _⟩ := open_i Tryz.underlying3 t0
    obtain ⟨a1, e1, _⟩ := open_u64 t1
    refine ⟨⟨a0, a1⟩, ?_, trivial⟩
    match L, hlen with
    | [c0, c1], _ =>
      simp at e0 e1
      subst e0 e1
      rfl
theorem open_evs {A : Option Addr} {n c : Nat} {d : DataW H} {ps : List MemPlace} (h : DataW.Trod enc Tryz.prog w 0 (fun _ => true) true 42 (.slice A n c) d ps) :
    ∃ l : List Ev, EvsAt w (fun k => k < w.heap.size) (.slice A n c) l ∧ l.length ≤ 9223372036854775807 := by
  obtain ⟨l, h1, _, h3⟩ := open_rows evRow (fun _ => True) Tryz.underlying42 (by kernel_rfl) (by decide) (fun _ => rfl) trod_ev h
  exact ⟨l, h1, h3⟩

/-- A place, as the instruction that has it. -/
def memRow (i : Ins) : List Value := [.int .i64 i.base, .int .i64 i.index, .int .i64 i.scale, .int .i64 i.disp]
set_option maxRecDepth 100000 in
theorem open_place {cs : Array Value} {d : DataW H} {ps : List MemPlace} (h : DataW.Trod enc Tryz.prog w 0 (fun _ => true) true 27 (.agg cs) d ps) : ∃ i : Ins, cs = (memRow i).toArray ∧ True := by
  obtain ⟨fuel, hf⟩ := h
  obtain ⟨xs, f, _, _, hlen, hxl, hfs⟩ := DataW.trod_struct Tryz.underlying27 hf
  rw [show Tryz.prog.cellsOf 27 = 4 by kernel_rfl] at hlen
  have hcs : (Value.agg cs).cells.toList = cs.toList := rfl
  rw [hcs] at hlen hfs
  generalize hL : cs.toList = L at *
  match xs, hxl with
  | [y0, y1, y2, y3], _ =>
    have k1 : Tryz.prog.cellsOf 3 = 1 := by kernel_rfl
    have k8 : Tryz.prog.cellsOf 2 = 1 := by kernel_rfl
    have t0 : DataW.trod enc Tryz.prog w 0 (fun _ => true) true f 3 ((L.drop 0).take (Tryz.prog.cellsOf 3)) = some y0 := hfs 0 _ rfl
    have t1 : DataW.trod enc Tryz.prog w 0 (fun _ => true) true f 3 ((L.drop 1).take (Tryz.prog.cellsOf 3)) = some y1 := hfs 1 _ rfl
    have t2 : DataW.trod enc Tryz.prog w 0 (fun _ => true) true f 3 ((L.drop 2).take (Tryz.prog.cellsOf 3)) = some y2 := hfs 2 _ rfl
    have t3 : DataW.trod enc Tryz.prog w 0 (fun _ => true) true f 2 ((L.drop 3).take (Tryz.prog.cellsOf 2)) = some y3 := hfs 3 _ rfl
    rw [k1] at t0 t1 t2
    rw [k8] at t3
    obtain ⟨a0, e0, _⟩ := open_i Tryz.underlying3 t0
    obtain ⟨a1, e1, _⟩ := open_i Tryz.underlying3 t1
    obtain ⟨a2, e2, _⟩ := open_i Tryz.underlying3 t2
    obtain ⟨a3, e3, _⟩ := open_i Tryz.underlying2 t3
    refine ⟨⟨0, 0, 0, 0, a0, a1, a2, a3, 0⟩, ?_, trivial⟩
    apply Array.ext'
    rw [hL]
    match L, hlen with
    | [c0, c1, c2, c3], _ =>
      simp at e0 e1 e2 e3
      subst e0 e1 e2 e3
      rfl
end
def witMem : Value := .agg #[.int .i64 0, .int .i64 0, .int .i64 0, .int .i64 0]
end Go.Proofs.YtmanhikpccnfaaaGreat

/- Parts of memory, side by side: what a call holds on its way. -/
namespace Go.Proofs.YtmanhikpccnfaaaGreat
open Go.RowKit

/-- A part of memory: its blocks, and what holds of them. -/
structure Res where
  F : Nat → Prop
  P : World → Prop
  st : ∀ {w w' : World}, SameOn F w w' → P w → P w'
def Ov (F : Nat → Prop) (base : Nat) : Nat → Prop := fun k => F k ∨ base ≤ k

theorem row_keep {w w' : World} {base e sz n : Nat} {v : Value} {xs : List Value} (hk : ∀ g, v.ownBlock = some g → w'.heap[g]? = w.heap[g]?) (h : w.ownsRow base e sz v n xs) : w'.ownsRow base e sz v n xs := by
  rcases h.2 with ⟨h1, h2⟩ | ⟨g', cap', cur, hv, hg, hh, hr⟩
  · exact ⟨h.1, .inl ⟨h1, h2⟩⟩
  · exact ⟨h.1, .inr ⟨g', cap', cur, hv, hg, (hk g' (by rw [hv]; rfl)).trans hh, hr⟩⟩

/-- A block with one row. -/
def boxR (g : Nat) (ty : TypeId) (row : List Value) : Res := ⟨fun k => k = g, fun w => w.heap[g]? = some (.cells row.toArray ty (0, 0)), fun h hp => (h g rfl).trans hp⟩
/-- A slice of one's own. -/
def rowR (base : Nat) (ty : TypeId) (sz n : Nat) (v : Value) (xs : List Value) : Res := ⟨fun k => v.ownBlock = some k, fun w => w.ownsRow base ty sz v n xs, fun h hp => row_keep h hp⟩

/-- Since w0 only blocks of F0 and new ones may have changed; R's parts stand, apart from each other. -/
structure Sep (w0 : World) (F0 : Nat → Prop) (w : World) (R : List Res) : Prop where
  chg : Chg (Ov F0 w0.heap.size) w0 w
  lt : ∀ r ∈ R, ∀ k, r.F k → k < w.heap.size
  over : ∀ r ∈ R, ∀ k, r.F k → Ov F0 w0.heap.size k
  dis : R.Pairwise fun r q => ∀ k, r.F k → ¬ q.F k
  holds : ∀ r ∈ R, r.P w

section
variable {w0 w w' : World} {F0 : Nat → Prop} {R : List Res}

theorem Sep.nil (w : World) (F0 : Nat → Prop) : Sep w F0 w [] := ⟨Chg.refl _ _, by simp, by simp, by simp, by simp⟩
theorem Sep.cast (h : Sep w0 F0 w R) (e : w' = w) : Sep w0 F0 w' R := e ▸ h
theorem Sep.get (h : Sep w0 F0 w R) (i : Nat) {r : Res} (hi : R[i]? = some r) : r.P w := h.holds r (List.mem_of_getElem? hi)
theorem Sep.size (h : Sep w0 F0 w R) : w0.heap.size ≤ w.heap.size := h.chg.size
theorem Sep.below (h : Sep w0 (fun _ => False) w R) : Below w0.heap.size w0 w := h.chg.below (fun k hk hF => by rcases hF with hF | hF; exact hF; omega) (Nat.le_refl _)

/-- A later world that has turned none of the parts. -/
theorem Sep.keep (h : Sep w0 F0 w R) (hc : Chg (Ov F0 w0.heap.size) w w') (hk : ∀ r ∈ R, SameOn r.F w w') : Sep w0 F0 w' R :=
  ⟨h.chg.trans hc, fun r hr k hF => Nat.lt_of_lt_of_le (h.lt r hr k hF) hc.size, h.over, h.dis, fun r hr => r.st (hk r hr) (h.holds r hr)⟩
theorem Sep.next (h : Sep w0 F0 w R) (hb : Below w.heap.size w w') : Sep w0 F0 w' R :=
  h.keep (Chg.of_below hb) fun r hr k hF => hb.block k (h.lt r hr k hF)
theorem Sep.drew (h : Sep w0 F0 w R) : Sep w0 F0 w.drew R := h.next (Below.refl _ _).drew

theorem pair_apart {R : List Res} (hd : R.Pairwise fun r q => ∀ k, r.F k → ¬ q.F k) {i j : Nat} {r q : Res} (hi : R[i]? = some r) (hj : R[j]? = some q) (hij : i ≠ j) : ∀ k, r.F k → ¬ q.F k := by
  obtain ⟨h1, rfl⟩ := List.getElem?_eq_some_iff.1 hi
  obtain ⟨h2, rfl⟩ := List.getElem?_eq_some_iff.1 hj
  have hp := List.pairwise_iff_getElem.1 hd
  rcases Nat.lt_or_gt_of_ne hij with h | h
  · exact hp i j h1 h2 h
  · intro k hk hq
    exact hp j i h2 h1 h k hq hk

/-- One part becomes another one. -/
theorem Sep.put (h : Sep w0 F0 w R) (i : Nat) {r r' : Res} (hi : R[i]? = some r) (hc : Chg (Ov r.F w.heap.size) w w') (hP : r'.P w') (hF : ∀ k, r'.F k → (r.F k ∨ w.heap.size ≤ k) ∧ k < w'.heap.size) : Sep w0 F0 w' (R.set i r') := by
  have hir := List.mem_of_getElem? hi
  have hil : i < R.length := (List.getElem?_eq_some_iff.1 hi).1
  have hmem : ∀ x, x ∈ R.set i r' → x = r' ∨ ∃ j, j ≠ i ∧ R[j]? = some x := fun x hx => by
    obtain ⟨j, hj⟩ := List.mem_iff_getElem?.1 hx
    rw [List.getElem?_set] at hj
    split at hj
    · (try rw [if_pos hil] at hj); exact .inl (Option.some.inj hj).symm
    · rename_i hij; exact .inr ⟨j, fun e => hij e.symm, hj⟩
  have hsame : ∀ j q, j ≠ i → R[j]? = some q → SameOn q.F w w' := fun j q hj hq k hk =>
    hc.block k (h.lt q (List.mem_of_getElem? hq) k hk) fun hF => by
      rcases hF with hF | hF
      · exact pair_apart h.dis hi hq (fun e => hj e.symm) k hF hk
      · have := h.lt q (List.mem_of_getElem? hq) k hk; omega
  have hov : ∀ k, r'.F k → Ov F0 w0.heap.size k := fun k hk => by
    rcases (hF k hk).1 with h1 | h1
    · exact h.over r hir k h1
    · exact .inr (Nat.le_trans h.size h1)
  refine ⟨h.chg.trans' hc fun k hk hG => ?_, fun x hx k hk => ?_, fun x hx k hk => ?_, ?_, fun x hx => ?_⟩
  · rcases hG with hG | hG
    · exact h.over r hir k hG
    · exact .inr (Nat.le_trans h.size hG)
  · rcases hmem x hx with rfl | ⟨j, _, hj⟩
    · exact (hF k hk).2
    · exact Nat.lt_of_lt_of_le (h.lt x (List.mem_of_getElem? hj) k hk) hc.size
  · rcases hmem x hx with rfl | ⟨j, _, hj⟩
    · exact hov k hk
    · exact h.over x (List.mem_of_getElem? hj) k hk
  · refine List.pairwise_iff_getElem.2 fun a b ha hb hab => ?_
    simp only [List.length_set] at ha hb
    have hp := List.pairwise_iff_getElem.1 h.dis a b ha hb hab
    intro k hk hk'
    by_cases ea : i = a
    · subst ea
      rw [List.getElem_set_self] at hk
      rw [List.getElem_set_ne (by omega)] at hk'
      rcases (hF k hk).1 with h1 | h1
      · exact pair_apart h.dis hi (List.getElem?_eq_getElem hb) (by omega) k h1 hk'
      · have := h.lt _ (List.getElem_mem hb) k hk'; omega
    · by_cases eb : i = b
      · subst eb
        rw [List.getElem_set_self] at hk'
        rw [List.getElem_set_ne ea] at hk
        rcases (hF k hk').1 with h1 | h1
        · exact pair_apart h.dis hi (List.getElem?_eq_getElem ha) (by omega) k h1 hk
        · have := h.lt _ (List.getElem_mem ha) k hk; omega
      · rw [List.getElem_set_ne ea] at hk
        rw [List.getElem_set_ne eb] at hk'
        exact hp k hk hk'
  · rcases hmem x hx with rfl | ⟨j, hne, hj⟩
    · exact hP
    · exact x.st (hsame j x hne hj) (h.get j hj)

/-- A new part, in new blocks. -/
theorem Sep.push (h : Sep w0 F0 w R) {r' : Res} (hb : Below w.heap.size w w') (hP : r'.P w') (hF : ∀ k, r'.F k → w.heap.size ≤ k ∧ k < w'.heap.size) : Sep w0 F0 w' (r' :: R) := by
  have h1 := h.next hb
  refine ⟨h1.chg, fun x hx k hk => ?_, fun x hx k hk => ?_, List.pairwise_cons.2 ⟨fun q hq k hk hk' => ?_, h.dis⟩, fun x hx => ?_⟩
  · rcases List.mem_cons.1 hx with rfl | hx
    · exact (hF k hk).2
    · exact h1.lt x hx k hk
  · rcases List.mem_cons.1 hx with rfl | hx
    · exact .inr (Nat.le_trans h.size (hF k hk).1)
    · exact h1.over x hx k hk
  · have := h.lt q hq k hk'; have := (hF k hk).1; omega
  · rcases List.mem_cons.1 hx with rfl | hx
    · exact hP
    · exact h1.holds x hx
/-- A part that stood when the call began. -/
theorem Sep.take (h : Sep w0 F0 w R) {r' : Res} (hP : r'.P w) (hF : ∀ k, r'.F k → F0 k ∧ k < w.heap.size) (hd : ∀ q ∈ R, ∀ k, r'.F k → ¬ q.F k) : Sep w0 F0 w (r' :: R) :=
  ⟨h.chg, fun x hx k hk => by
    rcases List.mem_cons.1 hx with rfl | hx
    · exact (hF k hk).2
    · exact h.lt x hx k hk, fun x hx k hk => by
    rcases List.mem_cons.1 hx with rfl | hx
    · exact .inl (hF k hk).1
    · exact h.over x hx k hk, List.pairwise_cons.2 ⟨hd, h.dis⟩, fun x hx => by
    rcases List.mem_cons.1 hx with rfl | hx
    · exact hP
    · exact h.holds x hx⟩
/-- Some of the parts. -/
theorem Sep.sub {R' : List Res} (h : Sep w0 F0 w R) (hs : R'.Sublist R) : Sep w0 F0 w R' :=
  ⟨h.chg, fun r hr => h.lt r (hs.subset hr), fun r hr => h.over r (hs.subset hr), h.dis.sublist hs, fun r hr => h.holds r (hs.subset hr)⟩

/-! Boxes. -/
theorem Sep.box (h : Sep w0 F0 w R) (ty : TypeId) (row : List Value) : Sep w0 F0 (w.alloc (.cells row.toArray ty)) (boxR w.heap.size ty row :: R) :=
  h.push ((Below.refl _ _).alloc (Nat.le_refl _) _) (heap_alloc_new w _) fun k hk => by cases hk; simp
theorem Sep.fresh (h : Sep w0 F0 w R) (ty : TypeId) (zs : Array Value) (row : List Value) : Sep w0 F0 ((w.alloc (.cells zs ty)).setRow w.heap.size row.toArray) (boxR w.heap.size ty row :: R) := by
  rw [World.setRow_alloc_new]
  exact h.box ty row
theorem Sep.at_ (h : Sep w0 F0 w R) (i : Nat) {g : Nat} {ty : TypeId} {row : List Value} (hi : R[i]? = some (boxR g ty row)) : w.heap[g]? = some (.cells row.toArray ty (0, 0)) := h.get i hi
theorem Sep.cell (h : Sep w0 F0 w R) (i k : Nat) {g : Nat} {ty : TypeId} {row : List Value} (hi : R[i]? = some (boxR g ty row)) {v : Value} (hv : row[k]? = some v) : w.cell? ⟨g, k, none⟩ = some v := by
  have h1 := h.at_ i hi
  simp only [World.cell?, h1]
  simpa using hv
theorem Sep.frozen (h : Sep w0 F0 w R) (i k : Nat) {g : Nat} {ty : TypeId} {row : List Value} (hi : R[i]? = some (boxR g ty row)) : w.frozen? ⟨g, k, none⟩ = false := by
  have h1 := h.at_ i hi
  simp [World.frozen?, h1]
theorem Sep.setCell (h : Sep w0 F0 w R) (i : Nat) {g : Nat} {ty : TypeId} {row row' : List Value} (hi : R[i]? = some (boxR g ty row)) (k : Nat) (v : Value) (hr : row.set k v = row') : Sep w0 F0 (w.setCell ⟨g, k, none⟩ v) (R.set i (boxR g ty row')) := by
  have h1 := h.at_ i hi
  refine h.put i hi ((Chg.refl _ _).setCell (.inl (.inl rfl)) v) ?_ fun k' hk => ⟨.inl hk, ?_⟩
  · show (w.setCell ⟨g, k, none⟩ v).heap[g]? = _
    rw [World.setCell, ← hr]
    simp only [Array.getElem?_modify, if_pos, h1, Option.map_some]
    simp
  · have := h.lt _ (List.mem_of_getElem? hi) k' hk
    simpa [World.setCell] using this
theorem Sep.setRow (h : Sep w0 F0 w R) (i : Nat) {g : Nat} {ty : TypeId} {row : List Value} (hi : R[i]? = some (boxR g ty row)) (row' : List Value) : Sep w0 F0 (w.setRow g row'.toArray) (R.set i (boxR g ty row')) := by
  have h1 := h.at_ i hi
  refine h.put i hi ⟨rfl, rfl, rfl, by simp, fun k _ hk => setRow_other _ _ _ _ fun e => hk (.inl e)⟩ (setRow_heap _ _ _ _ _ _ h1) fun k' hk => ⟨.inl hk, ?_⟩
  have := h.lt _ (List.mem_of_getElem? hi) k' hk
  simpa using this

/-! Slices of one's own. -/
theorem Sep.row (h : Sep w0 F0 w R) {base e sz n : Nat} {v : Value} {xs : List Value} (hb : Below w.heap.size w w') (hv : w'.ownsRow base e sz v n xs) (hge : w.heap.size ≤ base) : Sep w0 F0 w' (rowR base e sz n v xs :: R) :=
  h.push hb hv fun k hk => by have := hv.lt k hk; omega
theorem Sep.rowNil (h : Sep w0 F0 w R) (base e sz : Nat) : Sep w0 F0 w (rowR base e sz 0 (.slice none 0 0) [] :: R) :=
  h.push (Below.refl _ _) (World.ownsRow_nil w base e sz) fun k hk => by cases hk
theorem Sep.grown (h : Sep w0 F0 w R) (i : Nat) {base e sz n n' : Nat} {v v' : Value} {xs xs' : List Value} (hi : R[i]? = some (rowR base e sz n v xs)) (hv : w'.ownsRow base e sz v' n' xs') (hg : w.grownBy w' v.ownBlock)
    (hn : ∀ k, v'.ownBlock = some k → v.ownBlock = some k ∨ w.heap.size ≤ k) : Sep w0 F0 w' (R.set i (rowR base e sz n' v' xs')) :=
  h.put i hi ⟨hg.os, hg.tape, hg.output, hg.size, fun k hk hF => hg.block k hk fun e => hF (.inl e.symm)⟩ hv fun k hk => ⟨hn k hk, (hv.lt k hk).2⟩
end
end Go.Proofs.YtmanhikpccnfaaaGreat

/- Parts of memory: the walk's arms. -/
namespace Go.Proofs.YtmanhikpccnfaaaGreat
open Go.RowKit

theorem sep_load {P : Program} {o : Oper} {a : Act} {w : World} (ty : TypeId) (y : Operand) (ho : o.op = .load ty y) (ad : Addr) (hx : a.eval y = .pointer (some ad)) (cs : Array Value) (d : TypeDesc)
    (hu : P.underlying ty = some d) (hd : (match d with | .struct _ | .array _ _ => true | _ => false) = true) (hi : (P.info? ty).map (·.size) = some cs.size)
    (hc : ∀ (j : Nat) (v : Value), cs.toList[j]? = some v → w.cell? (ad.add j) = some v) : (execOp a.eval o).run P w = .ok (.value (.agg cs)) w := by
  have hl : (loadCells ad cs.toList.length).run P w = .ok cs.toList.toArray w := run_loadCells_list (P := P) w ad cs.toList hc
  have hv : (loadVar ty ad).run P w = .ok (.agg cs) w := by
    cases hq : P.info? ty with
    | none => simp [hq] at hi
    | some i =>
      have hs : i.size = cs.size := by simpa [hq] using hi
      have hagg : (isAgg ty).run P w = .ok true w := by
        unfold isAgg
        rw [Sem.run_bind, run_underlying hu w]
        cases d <;> simp_all
      simp only [Array.length_toList, Array.toArray_toList] at hl
      simp [loadVar, Sem.run_bind, hagg, sizeOf, typeInfo, hq, hs, hl]
  unfold execOp
  simp only [ho, hx, Instr.loadAt, Instr.sureAddr, Sem.run_bind, Sem.run_pure, Result.andThen_ok, hv]
theorem sep_add (b o j : Nat) : Addr.add ⟨b, o, none⟩ j = ⟨b, o + j, none⟩ := by unfold Addr.add; split <;> simp_all
theorem sep_store {P : Program} {o : Oper} {a : Act} {w : World} (ty : TypeId) (x y : Operand) (ho : o.op = .store ty x y) (g : Nat) (cells : Array Value) (hx : a.eval x = .pointer (some ⟨g, 0, none⟩)) (hy : a.eval y = .agg cells)
    (t : TypeId) (old : Array Value) (hg : w.heap[g]? = some (.cells old t (0, 0))) (hi : (P.info? ty).map (·.size) = some cells.size) (hold : old.size = cells.size) (h1 : cells.all (·.oneCell') = true) :
    (execOp a.eval o).run P w = .ok .skip (w.setRow g cells) := by
  unfold execOp
  simp only [ho, hx, hy, Instr.storeAt, Instr.sureAddr, Sem.run_bind, Sem.run_pure, Result.andThen_ok, run_storeVar_row w g t ty old cells hg hi hold h1]

section
variable {P : Program} {ops : Array Oper} {rest : List Oper} {o : Oper} {a : Act} {w w0 : World} {Q : Exit → Act → World → Prop} {F0 : Nat → Prop} {R : List Res}
theorem sep_val (hw : Region.wanted o (yielded ops a.tmps) = true) {v : Value} (h : (execOp a.eval o).run P w = .ok (.value v) w) (k : wpList P ops Q rest (a.put o.dst v) w) : wpList P ops Q (o :: rest) a w :=
  wpList_step fun K hK => by rw [if_pos hw]; unfold Oper.wp; rw [h]; exact hK _ _ k
theorem sep_skip (hw : Region.wanted o (yielded ops a.tmps) = true) {w' : World} (h : (execOp a.eval o).run P w = .ok .skip w') (k : wpList P ops Q rest (a.put o.dst undef) w') : wpList P ops Q (o :: rest) a w :=
  wpList_step fun K hK => by rw [if_pos hw]; unfold Oper.wp; rw [h]; exact hK _ _ k

/-- A box, loaded whole. -/
theorem Sep.exec (h : Sep w0 F0 w R) (i : Nat) {g : Nat} {ty : TypeId} {row : List Value} (hi : R[i]? = some (boxR g ty row)) (y : Operand) (ho : o.op = .load ty y) (hx : a.eval y = .pointer (some ⟨g, 0, none⟩))
    {d : TypeDesc} (hu : P.underlying ty = some d) (hd : (match d with | .struct _ | .array _ _ => true | _ => false) = true) (hs : (P.info? ty).map (·.size) = some row.toArray.size) : (execOp a.eval o).run P w = .ok (.value (.agg row.toArray)) w :=
  sep_load ty y ho ⟨g, 0, none⟩ hx _ _ hu hd hs fun j v hv => by
    rw [sep_add, Nat.zero_add]
    exact h.cell i j hi (by simpa using hv)
theorem Sep.load (h : Sep w0 F0 w R) (i : Nat) {g : Nat} {ty : TypeId} {row : List Value} (hi : R[i]? = some (boxR g ty row)) (y : Operand) (ho : o.op = .load ty y) (hx : a.eval y = .pointer (some ⟨g, 0, none⟩)) (hw : Region.wanted o (yielded ops a.tmps) = true)
    {d : TypeDesc} (hu : P.underlying ty = some d) (hd : (match d with | .struct _ | .array _ _ => true | _ => false) = true) (hs : (P.info? ty).map (·.size) = some row.toArray.size)
    (k : wpList P ops Q rest (a.put o.dst (.agg row.toArray)) w) : wpList P ops Q (o :: rest) a w :=
  sep_val hw (h.exec i hi y ho hx hu hd hs) k
theorem Sep.storeFresh (h : Sep w0 F0 w R) {ty : TypeId} {row : List Value} (x y : Operand) (ho : o.op = .store ty x y) (zs : Array Value) (hz : zs.size = row.length) (hx : a.eval x = .pointer (some ⟨w.heap.size, 0, none⟩)) (hy : a.eval y = .agg row.toArray)
    (hw : Region.wanted o (yielded ops a.tmps) = true) (hs : (P.info? ty).map (·.size) = some row.toArray.size) (h1 : row.toArray.all (·.oneCell') = true)
    (k : ∀ W, Sep w0 F0 W (boxR w.heap.size ty row :: R) → wpList P ops Q rest (a.put o.dst undef) W) : wpList P ops Q (o :: rest) a (w.alloc (.cells zs ty)) :=
  sep_skip hw (sep_store ty x y ho w.heap.size _ hx hy ty zs (heap_alloc_new w _) hs (by simp [hz]) h1) (k _ (h.fresh ty zs row))
theorem Sep.storeBox (h : Sep w0 F0 w R) (i : Nat) {g : Nat} {ty : TypeId} {row row' : List Value} (hi : R[i]? = some (boxR g ty row)) (hl : row.length = row'.length) (x y : Operand) (ho : o.op = .store ty x y) (hx : a.eval x = .pointer (some ⟨g, 0, none⟩)) (hy : a.eval y = .agg row'.toArray)
    (hw : Region.wanted o (yielded ops a.tmps) = true) (hs : (P.info? ty).map (·.size) = some row'.toArray.size) (h1 : row'.toArray.all (·.oneCell') = true)
    (k : ∀ W, Sep w0 F0 W (R.set i (boxR g ty row')) → wpList P ops Q rest (a.put o.dst undef) W) : wpList P ops Q (o :: rest) a w :=
  sep_skip hw (sep_store ty x y ho g _ hx hy ty _ (h.at_ i hi) hs (by simp [hl]) h1) (k _ (h.setRow i hi row'))
end
theorem sep_name {P : Program} {c : Code} {Q : Exit → Act → World → Prop} {a : Act} {w : World} (h : ∀ W, W = w → c.wp P Q a W) : c.wp P Q a w := h w rfl
theorem sep_lname {P : Program} {ops : Array Oper} {l : List Oper} {Q : Exit → Act → World → Prop} {a : Act} {w : World} (h : ∀ W, W = w → wpList P ops Q l a W) : wpList P ops Q l a w := h w rfl
theorem sep_id {P : Program} {ops : Array Oper} {l : List Oper} {a : Act} {w : World} {Q : Exit → Act → World → Prop} (h : wpList P ops Q l a w) : wpList P ops Q l a w := h
theorem two_results {P : Program} {fn : Func} {p q : Tmp} {ty : TypeId} (h : fn.results = #[.cell p ty, .tmp q]) (tmps : Array Value) (w : World) (g : Nat) (t : TypeId) (cs : Array Value) (fr : Nat × Nat) (d : TypeDesc)
    (hp : tmps.getD p undef = .pointer (some ⟨g, 0, none⟩)) (hg : w.heap[g]? = some (.cells cs t fr))
    (hu : P.underlying ty = some d) (hd : (match d with | .struct _ | .array _ _ => true | _ => false) = true) (hi : (P.info? ty).map (·.size) = some cs.size) :
    (results fn tmps).run P w = .ok (.tuple #[.agg cs, tmps.getD q undef]) w := by
  have hp' : tmps[p]?.getD undef = .pointer (some ⟨g, 0, none⟩) := by simpa using hp
  simp [results, h, hp', asAddr, run_loadVar_row w g t ty cs fr d hg hu hd hi]
theorem one_result {P : Program} {fn : Func} {p : Tmp} {ty : TypeId} (h : fn.results = #[.cell p ty]) (tmps : Array Value) (w : World) (g : Nat) (t : TypeId) (cs : Array Value) (fr : Nat × Nat) (d : TypeDesc)
    (hp : tmps.getD p undef = .pointer (some ⟨g, 0, none⟩)) (hg : w.heap[g]? = some (.cells cs t fr))
    (hu : P.underlying ty = some d) (hd : (match d with | .struct _ | .array _ _ => true | _ => false) = true) (hi : (P.info? ty).map (·.size) = some cs.size) :
    (results fn tmps).run P w = .ok (.agg cs) w := by
  have hp' : tmps[p]?.getD undef = .pointer (some ⟨g, 0, none⟩) := by simpa using hp
  simp [results, h, hp', asAddr, run_loadVar_row w g t ty cs fr d hg hu hd hi]
end Go.Proofs.YtmanhikpccnfaaaGreat

/- keysmithref08's small functions. -/
namespace Go.Proofs.YtmanhikpccnfaaaGreat
open Go.RowKit

set_option maxHeartbeats 400000 in
theorem Rreg_any (s : St) (h : StOk s) (r : Int) (w : World) :
    Calls Tryz.prog 49 #[.agg (stRow s).toArray, .int .i64 r] w fun e w' => e = .returned (.int .u64 (regF s r)) ∧ Below w.heap.size w w' := by
  obtain ⟨W1, hW1, hb1, hs1, hn1, ho1⟩ := boxed w (stRow s).toArray 25
  clear hn1 ho1
  have hst : StAt W1 w.heap.size s := by rw [hW1]; exact stAt_new w s h
  have HW1 := Lib.hid hW1
  have HB := Lib.hid hb1
  generalize hcs : (stRow s).toArray = cs at *
  clear hW1 hb1 hs1 hcs
  by_cases h0 : r < 0
  · have e1 : regF s r = 0 := by simp [regF, ugly, h0]
    have d1 : decide (r < 0) = true := by simpa using h0
    rw [e1]
    clear h h0 e1 hst
    go_enter Tryz.func49, Tryz.ntmps49
    go_upto_region 1 with fail
    rw [← HW1.out]
    go_wp2
    go_ret
    exact ⟨rfl, HB.out⟩
  · have d1 : decide (r < 0) = false := by simpa using h0
    by_cases h1 : 15 < r
    · have e1 : regF s r = 0 := by simp [regF, ugly, h1]
      have d2 : decide (15 < r) = true := by simpa using h1
      rw [e1]
      clear h h0 h1 e1 hst
      go_enter Tryz.func49, Tryz.ntmps49
      go_upto_region 1 with fail
      rw [← HW1.out]
      go_wp2
      go_ret
      exact ⟨rfl, HB.out⟩
    · have d2 : decide (15 < r) = false := by simpa using h1
      obtain ⟨k, rfl⟩ : ∃ k : Nat, r = k := ⟨r.toNat, by omega⟩
      obtain ⟨v, hv⟩ : ∃ v, s.regs[k]? = some v := ⟨_, List.getElem?_eq_getElem (by rw [h.len]; omega)⟩
      have e1 : regF s k = v := by
        have : ugly (k : Int) = false := by simp [ugly]; omega
        simp [regF, this, hv]
      have c := hst.reg hv
      have i0 : (0 : Int) ≤ (k : Int) := by omega
      have i1 : (k : Int) < 16 := by omega
      rw [e1]
      clear h h0 h1 e1 hv hst
      go_enter Tryz.func49, Tryz.ntmps49
      go_upto_region 1 with fail
      rw [← HW1.out]
      go_wp2
      go_ret
      exact ⟨rfl, HB.out⟩

set_option maxRecDepth 100000 in
set_option maxHeartbeats 800000 in
theorem RAddress_any (s : St) (i : Ins) (h : StOk s) (w : World) :
    Calls Tryz.prog 24 #[.agg (stRow s).toArray, .agg #[.int .i64 i.base, .int .i64 i.index, .int .i64 i.scale, .int .i64 i.disp]] w fun e w' => e = .returned (.int .u64 (addrF s i)) ∧ Below w.heap.size w w' := by
  obtain ⟨W1, hW1, hb1, hs1, _, _⟩ := boxed w (stRow s).toArray 25
  have hst : StAt W1 w.heap.size s := by rw [hW1]; exact stAt_new w s h
  obtain ⟨W2, hW2, hb2, hs2, hn2, _⟩ := boxed W1 #[.int .i64 i.base, .int .i64 i.index, .int .i64 i.scale, .int .i64 i.disp] 27
  have n0 := hn2 0
  have n1 := hn2 1
  have n2 := hn2 2
  have n3 := hn2 3
  have m0 : W1.heap.size < W2.heap.size := by omega
  have hst2 : StAt W2 w.heap.size s := ⟨(hb2.block _ (by omega)).trans hst.1, hst.2⟩
  have HST := Lib.hid hst2
  have HB := Lib.hid (hb1.trans (hb2.mono (by omega)))
  have HLT := Lib.hid (show w.heap.size < W2.heap.size by omega)
  have HSZ := Lib.hid (show (Tryz.prog.info? 25).map (·.size) = some (stRow s).toArray.size by rw [stRow_size h]; exact infoSt)
  have HB1 := Lib.hid (fun w' => Rreg_any s h i.base w')
  have HB2 := Lib.hid (fun w' => Rreg_any s h i.index w')
  have HB0 := Lib.hid hst2.1
  generalize hcs : (stRow s).toArray = cs at *
  have HW1 := Lib.hid hW1
  have HW2 := Lib.hid hW2
  have HS1 := Lib.hid hs1
  have a1 := regF_lt h i.base
  have a2 := regF_lt h i.index
  have u1 := wrap_u64 i.scale
  have u2 := wrap_u64 i.disp
  have e1 : IntKind.u64.wrap ((regF s i.index : Int) * (u64 i.scale : Int)) = ((regF s i.index * u64 i.scale % 18446744073709551616 : Nat) : Int) := by rw [wrapU']; simp
  generalize hq1 : regF s i.index * u64 i.scale % 18446744073709551616 = q1 at *
  have e2 : IntKind.u64.wrap ((regF s i.base : Int) + (q1 : Int)) = (((regF s i.base + q1) % 18446744073709551616 : Nat) : Int) := by rw [wrapU']; omega
  generalize hq2 : (regF s i.base + q1) % 18446744073709551616 = q2 at *
  have e3 : IntKind.u64.wrap ((q2 : Int) + (u64 i.disp : Int)) = ((addrF s i : Nat) : Int) := by
    rw [wrapU']; unfold addrF
    have h1 := Nat.add_mod (regF s i.base + regF s i.index * u64 i.scale) (u64 i.disp) 18446744073709551616
    have h2 := Nat.add_mod (regF s i.base) (regF s i.index * u64 i.scale) 18446744073709551616
    omega
  generalize hq3 : addrF s i = q3 at *
  generalize hr1 : regF s i.base = r1 at *
  generalize hr2 : regF s i.index = r2 at *
  generalize u64 i.scale = us at *
  generalize u64 i.disp = ud at *
  clear hq1 hq2 hq3 hW1 hW2 hs1 hs2 hn2 hb1 hb2 hst hst2 hcs hr1 hr2 h
  go_enter Tryz.func24, Tryz.ntmps24
  go_wp2
  rw [← HW1.out, ← HS1.out, ← HW2.out]
  have hS := (Below.refl W2.heap.size W2).drew
  (refine wp_region_lines (Below W2.heap.size W2) (by kernel_rfl) (by kernel_rfl) (Below.refl W2.heap.size W2).drew ?_)
  (try simp only [])
  repeat (first | (refine runL_no (by rfl) ?_; (try simp only [Act.put, List.setIfInBounds_toArray, List.set_cons_zero, List.set_cons_succ])) | (refine runL_val (v := ?_) (by rfl) ?_ ?_; rotate_left; (focus (intro w_ hw_; have hc_ := bcell hw_; go_simp; (try with_reducible rfl); done)); (try simp only [Act.put, List.setIfInBounds_toArray, List.set_cons_zero, List.set_cons_succ])) | (refine runL_call (f := ?_) (args := ?_) (w1 := ?_) (by rfl) (by rfl) ?_ ?_; rotate_left 3; (focus (go_simp; refine ⟨⟨?_, ?_⟩, ?_⟩ <;> with_reducible rfl)); with_reducible refine (HB1.out _).mono ?_; rintro e w1 ⟨rfl, hb1⟩; replace hS := hS.trans (hb1.mono hS.size); clear hb1; refine ⟨_, rfl, .inr hS, ?_⟩; (try simp only [Act.put, List.setIfInBounds_toArray, List.set_cons_zero, List.set_cons_succ])) | (refine runL_call (f := ?_) (args := ?_) (w1 := ?_) (by rfl) (by rfl) ?_ ?_; rotate_left 3; (focus (go_simp; refine ⟨⟨?_, ?_⟩, ?_⟩ <;> with_reducible rfl)); with_reducible refine (HB2.out _).mono ?_; rintro e w1 ⟨rfl, hb1⟩; replace hS := hS.trans (hb1.mono hS.size); clear hb1; refine ⟨_, rfl, .inr hS, ?_⟩; (try simp only [Act.put, List.setIfInBounds_toArray, List.set_cons_zero, List.set_cons_succ])) | (refine runL_val (v := .agg cs) (by rfl) (fun w_ hw_ => exec_load_row 25 _ rfl w.heap.size rfl _ _ _ ((hw_.block _ HLT.out).trans HB0.out) _ Tryz.underlying25 rfl HSZ.out) ?_; (try simp only [Act.put, List.setIfInBounds_toArray, List.set_cons_zero, List.set_cons_succ])))
  (refine runL_nil ?_)
  go_wp2
  go_ret
  exact ⟨rfl, HB.out.trans (hS.mono (Nat.le_of_lt HLT.out))⟩

theorem Rtop_any (a : Nat) (ha : a < 18446744073709551616) (w : World) :
    Calls Tryz.prog 108 #[.int .u64 a] w fun e w' => e = .returned (.bool (topB a)) ∧ w = w' := by
  have e1 := top_int (topB_div ha)
  generalize topB a = t at *
  clear ha
  go_enter Tryz.func108, Tryz.ntmps108
  go_wp2
  go_ret
  exact ⟨rfl, rfl⟩

def evR (k : Int) (a : Nat) : Value := .agg #[.int .i64 k, .int .u64 (a : Nat)]
set_option maxHeartbeats 400000 in
theorem Revent_any (k : Int) (a : Nat) (w : World) :
    Calls Tryz.prog 43 #[.int .i64 k, .int .u64 a] w fun e w' => e = .returned (.agg #[.int .i64 k, .int .u64 (a : Nat)]) ∧ Below w.heap.size w w' := by
  go_enter Tryz.func43, Tryz.ntmps43
  go_wp2
  exact bodyPost_ret (v := .agg #[.int .i64 k, .int .u64 (a : Nat)]) (by simp [results, Tryz.results43, go_sem]) rfl ⟨rfl, (Below.refl _ _).alloc (Nat.le_refl _) _⟩
end Go.Proofs.YtmanhikpccnfaaaGreat

/- A state's row, read and set. -/
namespace Go.Proofs.YtmanhikpccnfaaaGreat
open Go.RowKit

theorem sr_hi {s : St} (h : s.regs.length = 16) (k : Nat) : (stRow s)[16 + k]? = [Value.int .u64 s.pc, .bool s.cf, .bool s.of_, .bool s.zf][k]? := by
  rw [stRow, List.getElem?_append_right (by simp [h])]; simp [h]
theorem sr_get {s : St} {k r : Nat} (h : s.regs[k]? = some r) : (stRow s)[k]? = some (.int .u64 r) := by
  have hk := (List.getElem?_eq_some_iff.1 h).1
  simp only [stRow]
  rw [List.getElem?_append_left (by simpa using hk), List.getElem?_map, h]
  rfl
theorem sr_tail {t : St} (h : t.regs.length = 16) (k : Nat) (v : Value) : (stRow t).set (16 + k) v = t.regs.map (fun r => Value.int .u64 (r : Nat)) ++ [Value.int .u64 t.pc, .bool t.cf, .bool t.of_, .bool t.zf].set k v := by
  rw [stRow, List.set_append_right _ _ (by simp [h])]
  simp [h]
theorem sr_pc {t : St} {n : Nat} (h : t.regs.length = 16) : (stRow t).set 16 (.int .u64 (n : Nat)) = stRow { t with pc := n } := sr_tail h 0 _
theorem sr_cf {t : St} {b : Bool} (h : t.regs.length = 16) : (stRow t).set 17 (.bool b) = stRow { t with cf := b } := sr_tail h 1 _
theorem sr_of {t : St} {b : Bool} (h : t.regs.length = 16) : (stRow t).set 18 (.bool b) = stRow { t with of_ := b } := sr_tail h 2 _
theorem sr_zf {t : St} {b : Bool} (h : t.regs.length = 16) : (stRow t).set 19 (.bool b) = stRow { t with zf := b } := sr_tail h 3 _
theorem sr_reg (s : St) (k : Nat) (hk : k < s.regs.length) (n : Nat) : (stRow s).set k (.int .u64 n) = stRow { s with regs := s.regs.set k n } := by
  rw [stRow, List.set_append_left _ _ (by simpa using hk), stRow, List.map_set]
theorem sr_len {s : St} (h : StOk s) : (stRow s).length = 20 := by simp [stRow, h.len]
theorem zeroSt_len : zeroSt.length = 20 := rfl
theorem sr_size {s : St} (h : StOk s) : (Tryz.prog.info? 25).map (·.size) = some (stRow s).toArray.size := by rw [stRow_size h]; exact infoSt
theorem sr_reg_of {s : St} (h : StOk s) {k : Nat} (hk : k < 16) : ∃ q, s.regs[k]? = some q ∧ q < 18446744073709551616 := by
  have hl := h.len
  have h1 : s.regs[k]? = some s.regs[k] := List.getElem?_eq_getElem (by omega)
  exact ⟨_, h1, h.regs _ (List.mem_of_getElem? h1)⟩
end Go.Proofs.YtmanhikpccnfaaaGreat

/- keysmithref08's sum, rest, plain. -/
namespace Go.Proofs.YtmanhikpccnfaaaGreat
open Go.RowKit

theorem rst_two (w : World) (s : St) : ∃ W, W = (w.alloc (.cells (stRow s).toArray 25)).alloc (.cells zeroSt.toArray 25) ∧ Sep w (fun _ => False) W [boxR (w.heap.size + 1) 25 zeroSt, boxR w.heap.size 25 (stRow s)] := by
  refine ⟨_, rfl, ?_⟩
  have h := ((Sep.nil w fun _ => False).box 25 (stRow s)).box 25 zeroSt
  rw [show (w.alloc (.cells (stRow s).toArray 25)).heap.size = w.heap.size + 1 from by simp] at h
  exact h

def RPair (w : World) (p : St × Nat) (e : Ending) (w' : World) : Prop := e = .returned (.tuple #[.agg (stRow p.1).toArray, .int .u64 (p.2 : Nat)]) ∧ Below w.heap.size w w'


set_option maxRecDepth 100000 in
set_option maxHeartbeats 1600000 in
theorem Rsum_any (s : St) (h : StOk s) (a b : Nat) (c : Bool) (ha : a < 18446744073709551616) (hb : b < 18446744073709551616) (w : World) :
    Calls Tryz.prog 72 #[.agg (stRow s).toArray, .int .u64 a, .int .u64 b, .bool c] w (RPair w (valueF.sumS s a b c)) := by
  obtain ⟨W, hW, hH⟩ := rst_two w s
  obtain ⟨hz, _⟩ := zero_of_info zeroInfoSt
  have hr := addF_lt a b c
  have HA := Lib.hid (RAdd_any a b c W ha hb)
  have hp : valueF.sumS s a b c = ({ s with cf := (addF a b c).2, of_ := (topB a == topB b) && (topB (addF a b c).1 != topB a), zf := (addF a b c).1 == 0 }, (addF a b c).1) := rfl
  have HTA := Lib.hid (Rtop_any a ha)
  have HTB := Lib.hid (Rtop_any b hb)
  have HTR := Lib.hid (Rtop_any _ hr)
  generalize (addF a b c).1 = r at *
  generalize (addF a b c).2 = q at *
  have hz0 : ((r : Int) == 0) = (r == 0) := by rw [Bool.eq_iff_iff, beq_iff_eq, beq_iff_eq]; omega
  generalize (r == 0) = z at *
  generalize topB a = ta at *
  generalize topB b = tb at *
  generalize topB r = tr at *
  have HP := Lib.hid hp
  have HS := Lib.hid h
  have HW := Lib.hid hW
  have k17 := hH.cell 1 17 rfl (sr_hi h.len 1)
  have k18 := hH.cell 1 18 rfl (sr_hi h.len 2)
  have k19 := hH.cell 1 19 rfl (sr_hi h.len 3)
  have f17 := hH.frozen 1 17 rfl
  have f18 := hH.frozen 1 18 rfl
  have f19 := hH.frozen 1 19 rfl
  have H := Lib.hid hH
  clear hp h hW hH ha hb hr
  have hzs : zeroSt.toArray.size = 20 := rfl
  generalize hzz : zeroSt.toArray = zs at *
  clear hzs
  go_enter Tryz.func72, Tryz.ntmps72
  go_upto_region 1 with fail
  rw [← HW.out]
  clear hz hzz
  go_wp2_with fail
  refine HA.out.mono ?_
  rintro e w1 ⟨rfl, rfl⟩
  cases ta <;> cases tb
  · go_upto_region 3 with (first | (go_at_call 108; refine (HTA.out _).mono ?_; rintro e w_ ⟨rfl, rfl⟩) | (go_at_call 108; refine (HTB.out _).mono ?_; rintro e w_ ⟨rfl, rfl⟩) | (go_at_call 108; refine (HTR.out _).mono ?_; rintro e w_ ⟨rfl, rfl⟩))
    refine sep_name ?_
    intro W2 hW2
    have hH := ((((H.out.setCell 1 rfl 17 (.bool q) (sr_cf HS.out.len)).setCell 1 rfl 18 (.bool (tr)) (sr_of (t := { s with cf := q }) HS.out.len)).setCell 1 rfl 19 (.bool z) (sr_zf (t := { s with cf := q, of_ := (tr) }) HS.out.len))).cast hW2
    clear H hW2 k17 k18 k19 f17 f18 f19
    have H := Lib.hid hH
    have HOK := Lib.hid (show StOk { s with cf := q, of_ := (tr), zf := z } from ⟨HS.out.len, HS.out.regs, HS.out.pc⟩)
    clear hH
    go_wp2_with (first | ((with_reducible refine sep_id ?_); refine H.out.load 1 rfl _ rfl rfl rfl Tryz.underlying25 rfl (sr_size HOK.out) ?_) | ((with_reducible refine sep_id ?_); refine H.out.storeBox 0 (row' := stRow { s with cf := q, of_ := (tr), zf := z }) rfl (by rw [sr_len HOK.out]; rfl) _ _ rfl rfl rfl rfl (sr_size HOK.out) (stRow_one _) ?_; intro W3 hW3; have HZ := Lib.hid hW3; clear hW3))
    refine bodyPost_ret (two_results rfl _ _ (w.heap.size + 1) 25 (stRow { s with cf := q, of_ := (tr), zf := z }).toArray (0, 0) _ rfl (HZ.out.at_ 0 rfl) Tryz.underlying25 rfl (sr_size HOK.out)) rfl ?_
    exact ⟨by rw [HP.out]; cases tr <;> rfl, HZ.out.below⟩
  · go_upto_region 3 with (first | (go_at_call 108; refine (HTA.out _).mono ?_; rintro e w_ ⟨rfl, rfl⟩) | (go_at_call 108; refine (HTB.out _).mono ?_; rintro e w_ ⟨rfl, rfl⟩) | (go_at_call 108; refine (HTR.out _).mono ?_; rintro e w_ ⟨rfl, rfl⟩))
    refine sep_name ?_
    intro W2 hW2
    have hH := ((((H.out.setCell 1 rfl 17 (.bool q) (sr_cf HS.out.len)).setCell 1 rfl 18 (.bool (false)) (sr_of (t := { s with cf := q }) HS.out.len)).setCell 1 rfl 19 (.bool z) (sr_zf (t := { s with cf := q, of_ := (false) }) HS.out.len))).cast hW2
    clear H hW2 k17 k18 k19 f17 f18 f19
    have H := Lib.hid hH
    have HOK := Lib.hid (show StOk { s with cf := q, of_ := (false), zf := z } from ⟨HS.out.len, HS.out.regs, HS.out.pc⟩)
    clear hH
    go_wp2_with (first | ((with_reducible refine sep_id ?_); refine H.out.load 1 rfl _ rfl rfl rfl Tryz.underlying25 rfl (sr_size HOK.out) ?_) | ((with_reducible refine sep_id ?_); refine H.out.storeBox 0 (row' := stRow { s with cf := q, of_ := (false), zf := z }) rfl (by rw [sr_len HOK.out]; rfl) _ _ rfl rfl rfl rfl (sr_size HOK.out) (stRow_one _) ?_; intro W3 hW3; have HZ := Lib.hid hW3; clear hW3))
    refine bodyPost_ret (two_results rfl _ _ (w.heap.size + 1) 25 (stRow { s with cf := q, of_ := (false), zf := z }).toArray (0, 0) _ rfl (HZ.out.at_ 0 rfl) Tryz.underlying25 rfl (sr_size HOK.out)) rfl ?_
    exact ⟨by rw [HP.out]; cases tr <;> rfl, HZ.out.below⟩
  · go_upto_region 3 with (first | (go_at_call 108; refine (HTA.out _).mono ?_; rintro e w_ ⟨rfl, rfl⟩) | (go_at_call 108; refine (HTB.out _).mono ?_; rintro e w_ ⟨rfl, rfl⟩) | (go_at_call 108; refine (HTR.out _).mono ?_; rintro e w_ ⟨rfl, rfl⟩))
    refine sep_name ?_
    intro W2 hW2
    have hH := ((((H.out.setCell 1 rfl 17 (.bool q) (sr_cf HS.out.len)).setCell 1 rfl 18 (.bool (false)) (sr_of (t := { s with cf := q }) HS.out.len)).setCell 1 rfl 19 (.bool z) (sr_zf (t := { s with cf := q, of_ := (false) }) HS.out.len))).cast hW2
    clear H hW2 k17 k18 k19 f17 f18 f19
    have H := Lib.hid hH
    have HOK := Lib.hid (show StOk { s with cf := q, of_ := (false), zf := z } from ⟨HS.out.len, HS.out.regs, HS.out.pc⟩)
    clear hH
    go_wp2_with (first | ((with_reducible refine sep_id ?_); refine H.out.load 1 rfl _ rfl rfl rfl Tryz.underlying25 rfl (sr_size HOK.out) ?_) | ((with_reducible refine sep_id ?_); refine H.out.storeBox 0 (row' := stRow { s with cf := q, of_ := (false), zf := z }) rfl (by rw [sr_len HOK.out]; rfl) _ _ rfl rfl rfl rfl (sr_size HOK.out) (stRow_one _) ?_; intro W3 hW3; have HZ := Lib.hid hW3; clear hW3))
    refine bodyPost_ret (two_results rfl _ _ (w.heap.size + 1) 25 (stRow { s with cf := q, of_ := (false), zf := z }).toArray (0, 0) _ rfl (HZ.out.at_ 0 rfl) Tryz.underlying25 rfl (sr_size HOK.out)) rfl ?_
    exact ⟨by rw [HP.out]; cases tr <;> rfl, HZ.out.below⟩
  · go_upto_region 3 with (first | (go_at_call 108; refine (HTA.out _).mono ?_; rintro e w_ ⟨rfl, rfl⟩) | (go_at_call 108; refine (HTB.out _).mono ?_; rintro e w_ ⟨rfl, rfl⟩) | (go_at_call 108; refine (HTR.out _).mono ?_; rintro e w_ ⟨rfl, rfl⟩))
    refine sep_name ?_
    intro W2 hW2
    have hH := ((((H.out.setCell 1 rfl 17 (.bool q) (sr_cf HS.out.len)).setCell 1 rfl 18 (.bool (!tr)) (sr_of (t := { s with cf := q }) HS.out.len)).setCell 1 rfl 19 (.bool z) (sr_zf (t := { s with cf := q, of_ := (!tr) }) HS.out.len))).cast hW2
    clear H hW2 k17 k18 k19 f17 f18 f19
    have H := Lib.hid hH
    have HOK := Lib.hid (show StOk { s with cf := q, of_ := (!tr), zf := z } from ⟨HS.out.len, HS.out.regs, HS.out.pc⟩)
    clear hH
    go_wp2_with (first | ((with_reducible refine sep_id ?_); refine H.out.load 1 rfl _ rfl rfl rfl Tryz.underlying25 rfl (sr_size HOK.out) ?_) | ((with_reducible refine sep_id ?_); refine H.out.storeBox 0 (row' := stRow { s with cf := q, of_ := (!tr), zf := z }) rfl (by rw [sr_len HOK.out]; rfl) _ _ rfl rfl rfl rfl (sr_size HOK.out) (stRow_one _) ?_; intro W3 hW3; have HZ := Lib.hid hW3; clear hW3))
    refine bodyPost_ret (two_results rfl _ _ (w.heap.size + 1) 25 (stRow { s with cf := q, of_ := (!tr), zf := z }).toArray (0, 0) _ rfl (HZ.out.at_ 0 rfl) Tryz.underlying25 rfl (sr_size HOK.out)) rfl ?_
    exact ⟨by rw [HP.out]; cases tr <;> rfl, HZ.out.below⟩

set_option maxRecDepth 100000 in
set_option maxHeartbeats 1600000 in
theorem Rrest_any (s : St) (h : StOk s) (a b : Nat) (c : Bool) (ha : a < 18446744073709551616) (hb : b < 18446744073709551616) (w : World) :
    Calls Tryz.prog 73 #[.agg (stRow s).toArray, .int .u64 a, .int .u64 b, .bool c] w (RPair w (valueF.restS s a b c)) := by
  obtain ⟨W, hW, hH⟩ := rst_two w s
  obtain ⟨hz, _⟩ := zero_of_info zeroInfoSt
  have hr := subF_lt a b c
  have HA := Lib.hid (RSub_any a b c W ha hb)
  have hp : valueF.restS s a b c = ({ s with cf := (subF a b c).2, of_ := (topB a != topB b) && (topB (subF a b c).1 != topB a), zf := (subF a b c).1 == 0 }, (subF a b c).1) := rfl
  have HTA := Lib.hid (Rtop_any a ha)
  have HTB := Lib.hid (Rtop_any b hb)
  have HTR := Lib.hid (Rtop_any _ hr)
  generalize (subF a b c).1 = r at *
  generalize (subF a b c).2 = q at *
  have hz0 : ((r : Int) == 0) = (r == 0) := by rw [Bool.eq_iff_iff, beq_iff_eq, beq_iff_eq]; omega
  generalize (r == 0) = z at *
  generalize topB a = ta at *
  generalize topB b = tb at *
  generalize topB r = tr at *
  have HP := Lib.hid hp
  have HS := Lib.hid h
  have HW := Lib.hid hW
  have k17 := hH.cell 1 17 rfl (sr_hi h.len 1)
  have k18 := hH.cell 1 18 rfl (sr_hi h.len 2)
  have k19 := hH.cell 1 19 rfl (sr_hi h.len 3)
  have f17 := hH.frozen 1 17 rfl
  have f18 := hH.frozen 1 18 rfl
  have f19 := hH.frozen 1 19 rfl
  have H := Lib.hid hH
  clear hp h hW hH ha hb hr
  have hzs : zeroSt.toArray.size = 20 := rfl
  generalize hzz : zeroSt.toArray = zs at *
  clear hzs
  go_enter Tryz.func73, Tryz.ntmps73
  go_upto_region 1 with fail
  rw [← HW.out]
  clear hz hzz
  go_wp2_with fail
  refine HA.out.mono ?_
  rintro e w1 ⟨rfl, rfl⟩
  cases ta <;> cases tb
  · go_upto_region 3 with (first | (go_at_call 108; refine (HTA.out _).mono ?_; rintro e w_ ⟨rfl, rfl⟩) | (go_at_call 108; refine (HTB.out _).mono ?_; rintro e w_ ⟨rfl, rfl⟩) | (go_at_call 108; refine (HTR.out _).mono ?_; rintro e w_ ⟨rfl, rfl⟩))
    refine sep_name ?_
    intro W2 hW2
    have hH := ((((H.out.setCell 1 rfl 17 (.bool q) (sr_cf HS.out.len)).setCell 1 rfl 18 (.bool (false)) (sr_of (t := { s with cf := q }) HS.out.len)).setCell 1 rfl 19 (.bool z) (sr_zf (t := { s with cf := q, of_ := (false) }) HS.out.len))).cast hW2
    clear H hW2 k17 k18 k19 f17 f18 f19
    have H := Lib.hid hH
    have HOK := Lib.hid (show StOk { s with cf := q, of_ := (false), zf := z } from ⟨HS.out.len, HS.out.regs, HS.out.pc⟩)
    clear hH
    go_wp2_with (first | ((with_reducible refine sep_id ?_); refine H.out.load 1 rfl _ rfl rfl rfl Tryz.underlying25 rfl (sr_size HOK.out) ?_) | ((with_reducible refine sep_id ?_); refine H.out.storeBox 0 (row' := stRow { s with cf := q, of_ := (false), zf := z }) rfl (by rw [sr_len HOK.out]; rfl) _ _ rfl rfl rfl rfl (sr_size HOK.out) (stRow_one _) ?_; intro W3 hW3; have HZ := Lib.hid hW3; clear hW3))
    refine bodyPost_ret (two_results rfl _ _ (w.heap.size + 1) 25 (stRow { s with cf := q, of_ := (false), zf := z }).toArray (0, 0) _ rfl (HZ.out.at_ 0 rfl) Tryz.underlying25 rfl (sr_size HOK.out)) rfl ?_
    exact ⟨by rw [HP.out]; cases tr <;> rfl, HZ.out.below⟩
  · go_upto_region 3 with (first | (go_at_call 108; refine (HTA.out _).mono ?_; rintro e w_ ⟨rfl, rfl⟩) | (go_at_call 108; refine (HTB.out _).mono ?_; rintro e w_ ⟨rfl, rfl⟩) | (go_at_call 108; refine (HTR.out _).mono ?_; rintro e w_ ⟨rfl, rfl⟩))
    refine sep_name ?_
    intro W2 hW2
    have hH := ((((H.out.setCell 1 rfl 17 (.bool q) (sr_cf HS.out.len)).setCell 1 rfl 18 (.bool (tr)) (sr_of (t := { s with cf := q }) HS.out.len)).setCell 1 rfl 19 (.bool z) (sr_zf (t := { s with cf := q, of_ := (tr) }) HS.out.len))).cast hW2
    clear H hW2 k17 k18 k19 f17 f18 f19
    have H := Lib.hid hH
    have HOK := Lib.hid (show StOk { s with cf := q, of_ := (tr), zf := z } from ⟨HS.out.len, HS.out.regs, HS.out.pc⟩)
    clear hH
    go_wp2_with (first | ((with_reducible refine sep_id ?_); refine H.out.load 1 rfl _ rfl rfl rfl Tryz.underlying25 rfl (sr_size HOK.out) ?_) | ((with_reducible refine sep_id ?_); refine H.out.storeBox 0 (row' := stRow { s with cf := q, of_ := (tr), zf := z }) rfl (by rw [sr_len HOK.out]; rfl) _ _ rfl rfl rfl rfl (sr_size HOK.out) (stRow_one _) ?_; intro W3 hW3; have HZ := Lib.hid hW3; clear hW3))
    refine bodyPost_ret (two_results rfl _ _ (w.heap.size + 1) 25 (stRow { s with cf := q, of_ := (tr), zf := z }).toArray (0, 0) _ rfl (HZ.out.at_ 0 rfl) Tryz.underlying25 rfl (sr_size HOK.out)) rfl ?_
    exact ⟨by rw [HP.out]; cases tr <;> rfl, HZ.out.below⟩
  · go_upto_region 3 with (first | (go_at_call 108; refine (HTA.out _).mono ?_; rintro e w_ ⟨rfl, rfl⟩) | (go_at_call 108; refine (HTB.out _).mono ?_; rintro e w_ ⟨rfl, rfl⟩) | (go_at_call 108; refine (HTR.out _).mono ?_; rintro e w_ ⟨rfl, rfl⟩))
    refine sep_name ?_
    intro W2 hW2
    have hH := ((((H.out.setCell 1 rfl 17 (.bool q) (sr_cf HS.out.len)).setCell 1 rfl 18 (.bool (!tr)) (sr_of (t := { s with cf := q }) HS.out.len)).setCell 1 rfl 19 (.bool z) (sr_zf (t := { s with cf := q, of_ := (!tr) }) HS.out.len))).cast hW2
    clear H hW2 k17 k18 k19 f17 f18 f19
    have H := Lib.hid hH
    have HOK := Lib.hid (show StOk { s with cf := q, of_ := (!tr), zf := z } from ⟨HS.out.len, HS.out.regs, HS.out.pc⟩)
    clear hH
    go_wp2_with (first | ((with_reducible refine sep_id ?_); refine H.out.load 1 rfl _ rfl rfl rfl Tryz.underlying25 rfl (sr_size HOK.out) ?_) | ((with_reducible refine sep_id ?_); refine H.out.storeBox 0 (row' := stRow { s with cf := q, of_ := (!tr), zf := z }) rfl (by rw [sr_len HOK.out]; rfl) _ _ rfl rfl rfl rfl (sr_size HOK.out) (stRow_one _) ?_; intro W3 hW3; have HZ := Lib.hid hW3; clear hW3))
    refine bodyPost_ret (two_results rfl _ _ (w.heap.size + 1) 25 (stRow { s with cf := q, of_ := (!tr), zf := z }).toArray (0, 0) _ rfl (HZ.out.at_ 0 rfl) Tryz.underlying25 rfl (sr_size HOK.out)) rfl ?_
    exact ⟨by rw [HP.out]; cases tr <;> rfl, HZ.out.below⟩
  · go_upto_region 3 with (first | (go_at_call 108; refine (HTA.out _).mono ?_; rintro e w_ ⟨rfl, rfl⟩) | (go_at_call 108; refine (HTB.out _).mono ?_; rintro e w_ ⟨rfl, rfl⟩) | (go_at_call 108; refine (HTR.out _).mono ?_; rintro e w_ ⟨rfl, rfl⟩))
    refine sep_name ?_
    intro W2 hW2
    have hH := ((((H.out.setCell 1 rfl 17 (.bool q) (sr_cf HS.out.len)).setCell 1 rfl 18 (.bool (false)) (sr_of (t := { s with cf := q }) HS.out.len)).setCell 1 rfl 19 (.bool z) (sr_zf (t := { s with cf := q, of_ := (false) }) HS.out.len))).cast hW2
    clear H hW2 k17 k18 k19 f17 f18 f19
    have H := Lib.hid hH
    have HOK := Lib.hid (show StOk { s with cf := q, of_ := (false), zf := z } from ⟨HS.out.len, HS.out.regs, HS.out.pc⟩)
    clear hH
    go_wp2_with (first | ((with_reducible refine sep_id ?_); refine H.out.load 1 rfl _ rfl rfl rfl Tryz.underlying25 rfl (sr_size HOK.out) ?_) | ((with_reducible refine sep_id ?_); refine H.out.storeBox 0 (row' := stRow { s with cf := q, of_ := (false), zf := z }) rfl (by rw [sr_len HOK.out]; rfl) _ _ rfl rfl rfl rfl (sr_size HOK.out) (stRow_one _) ?_; intro W3 hW3; have HZ := Lib.hid hW3; clear hW3))
    refine bodyPost_ret (two_results rfl _ _ (w.heap.size + 1) 25 (stRow { s with cf := q, of_ := (false), zf := z }).toArray (0, 0) _ rfl (HZ.out.at_ 0 rfl) Tryz.underlying25 rfl (sr_size HOK.out)) rfl ?_
    exact ⟨by rw [HP.out]; cases tr <;> rfl, HZ.out.below⟩

set_option maxRecDepth 100000 in
set_option maxHeartbeats 1600000 in
theorem Rplain_any (s : St) (h : StOk s) (r : Nat) (w : World) :
    Calls Tryz.prog 74 #[.agg (stRow s).toArray, .int .u64 r] w (RPair w (valueF.plainS s r)) := by
  obtain ⟨W, hW, hH⟩ := rst_two w s
  obtain ⟨hz, _⟩ := zero_of_info zeroInfoSt
  have hp : valueF.plainS s r = ({ s with cf := false, of_ := false, zf := r == 0 }, r) := rfl
  have hz0 : ((r : Int) == 0) = (r == 0) := by rw [Bool.eq_iff_iff, beq_iff_eq, beq_iff_eq]; omega
  generalize (r == 0) = z at *
  have HP := Lib.hid hp
  have HS := Lib.hid h
  have HW := Lib.hid hW
  have k17 := hH.cell 1 17 rfl (sr_hi h.len 1)
  have k18 := hH.cell 1 18 rfl (sr_hi h.len 2)
  have k19 := hH.cell 1 19 rfl (sr_hi h.len 3)
  have f17 := hH.frozen 1 17 rfl
  have f18 := hH.frozen 1 18 rfl
  have f19 := hH.frozen 1 19 rfl
  have H := Lib.hid hH
  clear hp h hW hH
  have hzs : zeroSt.toArray.size = 20 := rfl
  generalize hzz : zeroSt.toArray = zs at *
  clear hzs
  go_enter Tryz.func74, Tryz.ntmps74
  go_upto_region 1 with fail
  rw [← HW.out]
  clear hz hzz
  go_upto_region 2 with fail
  refine sep_name ?_
  intro W2 hW2
  have hH := ((((H.out.setCell 1 rfl 17 (.bool false) (sr_cf HS.out.len)).setCell 1 rfl 18 (.bool false) (sr_of (t := { s with cf := false }) HS.out.len)).setCell 1 rfl 19 (.bool z) (sr_zf (t := { s with cf := false, of_ := false }) HS.out.len))).cast hW2
  clear H hW2 k17 k18 k19 f17 f18 f19
  have H := Lib.hid hH
  have HOK := Lib.hid (show StOk { s with cf := false, of_ := false, zf := z } from ⟨HS.out.len, HS.out.regs, HS.out.pc⟩)
  clear hH
  go_wp2_with (first | ((with_reducible refine sep_id ?_); refine H.out.load 1 rfl _ rfl rfl rfl Tryz.underlying25 rfl (sr_size HOK.out) ?_) | ((with_reducible refine sep_id ?_); refine H.out.storeBox 0 (row' := stRow { s with cf := false, of_ := false, zf := z }) rfl (by rw [sr_len HOK.out]; rfl) _ _ rfl rfl rfl rfl (sr_size HOK.out) (stRow_one _) ?_; intro W3 hW3; have HZ := Lib.hid hW3; clear hW3))
  refine bodyPost_ret (two_results rfl _ _ (w.heap.size + 1) 25 (stRow { s with cf := false, of_ := false, zf := z }).toArray (0, 0) _ rfl (HZ.out.at_ 0 rfl) Tryz.underlying25 rfl (sr_size HOK.out)) rfl ?_
  exact ⟨by rw [HP.out]; rfl, HZ.out.below⟩
end Go.Proofs.YtmanhikpccnfaaaGreat
