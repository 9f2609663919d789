import Derived.Test.YtmanhikpccnfaaaGreatWordsA
import Derived.Deep.Slices
import Derived.ProofKit
import Derived.Test.YtmanhikpccnfaaaGreatStepDo
import Derived.Test.YtmanhikpccnfaaaGreatStaysM
import Derived.OpenShut
/- An argument of type []Region, opened. -/
namespace Go.Proofs.YtmanhikpccnfaaaGreat
open Go.ChangeShapes Go.WideShapes Go.Deep Go.RowKit

theorem list_of_all {α : Type} (Q : Nat → α → Prop) : ∀ n, (∀ i, i < n → ∃ x, Q i x) → ∃ L : List α, L.length = n ∧ ∀ (i : Nat) (x : α), L[i]? = some x → Q i x
  | 0, _ => ⟨[], rfl, fun i x h => by simp at h⟩
  | n + 1, h => by
    obtain ⟨L, hl, hq⟩ := list_of_all Q n (fun i hi => h i (by omega))
    obtain ⟨x, hx⟩ := h n (by omega)
    refine ⟨L ++ [x], by simp [hl], fun i y hy => ?_⟩
    rcases Nat.lt_or_ge i n with hi | hi
    · rw [List.getElem?_append_left (by omega)] at hy; exact hq i y hy
    · rw [List.getElem?_append_right (by omega)] at hy
      have : i - L.length = 0 := by
        rcases Nat.eq_zero_or_pos (i - L.length) with h | h
        · exact h
        · rw [List.getElem?_eq_none (by simp; omega)] at hy; cases hy
      rw [this] at hy
      simp at hy
      subst hy
      rw [show i = n from by omega]; exact hx

theorem plain_addr {w : World} {a : Addr} {k : Nat} {v : Value} (h : w.cell? (a.add k) = some v) (h0 : ∃ u, w.cell? a = some u) : a = ⟨a.block, a.off, none⟩ ∧ a.block < w.heap.size ∧ a.add k = ⟨a.block, a.off + k, none⟩ := by
  obtain ⟨u, hu⟩ := h0
  have hb := World.block_lt_of_cell? w a hu
  have hs : a.spot = none := by
    cases hsp : a.spot with
    | none => rfl
    | some s =>
      unfold World.cell? at hu
      split at hu
      · simp [hsp] at hu
      · cases hu
  have ha : a = ⟨a.block, a.off, none⟩ := by cases a; simp_all
  refine ⟨ha, hb, ?_⟩
  unfold Addr.add
  split
  · rename_i hk; subst hk; simpa using ha
  · rfl

section
variable {H : Type} {enc : TypeId × Value → H} {w : World}

theorem open_bytes {fuel : Nat} {v : Value} {x : DataW H × List MemPlace} (h : DataW.trod enc Tryz.prog w 0 (fun _ => true) true fuel 36 [v] = some x) :
    ∃ A n c l, v = .slice A n c ∧ l.length = n ∧ n ≤ 9223372036854775807 ∧ BytesAt w (fun k => k < w.heap.size) (.slice A n c) l := by
  rcases open_ints Tryz.underlying36 Tryz.underlying5 (by kernel_rfl) h with ⟨hcs, _⟩ | ⟨a, len, cap, zs, hcs, _, hl, hm, hz, _, hcell, hwf⟩
  · cases hcs
    exact ⟨none, 0, 0, [], rfl, rfl, by omega, ⟨none, 0, by simp, by simp, by simp, fun h => absurd rfl h⟩⟩
  · cases hcs
    simp only [if_true] at hz
    refine ⟨some a, len, cap, (zs.take len).map fun z => UInt8.ofNat z.toNat, rfl, by simp; omega, by unfold maxLen at hm; omega, ⟨some a, cap, by simp; omega, by simp; omega, fun r hr => ?_, fun hne => ?_⟩⟩
    · obtain ⟨x, _, rfl⟩ := List.mem_map.1 hr; rfl
    · have hlen : 0 < len := by
        rcases Nat.eq_zero_or_pos len with h0 | h0
        · subst h0; simp at hne
        · exact h0
      have h0 := hcell 0 (by omega)
      have h00 : ∃ u, w.cell? a = some u := ⟨_, by simpa [Addr.add] using h0⟩
      obtain ⟨ha, hb, _⟩ := plain_addr h0 h00
      refine ⟨a.block, a.off, by rw [← ha], hb, fun i j r u hr hu => ?_⟩
      rw [List.getElem?_map, List.getElem?_map] at hr
      cases hzi : (zs.take len)[i]? with
      | none => rw [hzi] at hr; cases hr
      | some z =>
        rw [hzi] at hr
        cases hr
        cases j with
        | succ j => simp at hu
        | zero =>
          simp at hu
          subst hu
          rw [List.getElem?_take] at hzi
          split at hzi
          · rename_i hlt
            have hzl : i < zs.length := (List.getElem?_eq_some_iff.1 hzi).1
            have hc := hcell i hzl
            obtain ⟨_, _, hadd⟩ := plain_addr hc h00
            rw [hadd] at hc
            have hzd : zs.getD i 0 = z := by simp [List.getD, hzi]
            rw [hzd] at hc
            have hw := hwf z (List.mem_of_getElem? hzi)
            have hbd : 0 ≤ z ∧ z ≤ 255 := by simpa [Lit.wf, IntKind.min, IntKind.max, IntKind.bits, IntKind.signed] using hw
            have : byteV (UInt8.ofNat z.toNat) = .int .u8 z := by
              unfold byteV
              congr 1
              simp only [UInt8.toNat_ofNat']
              omega
            rw [this]
            simpa using hc
          · cases hzi

set_option maxRecDepth 100000 in
theorem open_regs {A : Option Addr} {n c : Nat} {d : DataW H} {ps : List MemPlace} (h : DataW.Trod enc Tryz.prog w 0 (fun _ => true) true 30 (.slice A n c) d ps) :
    ∃ l : List Reg, RegsAt w (fun k => k < w.heap.size) (.slice A n c) l ∧ l.length ≤ 9223372036854775807 := by
  obtain ⟨fuel, hf⟩ := h
  rcases open_slice Tryz.underlying30 hf with ⟨hcs, _⟩ | ⟨a, len, cap, m, q, D, Pl, hcs, _, hl, hm, hmm, _, hi⟩
  · simp [Value.cells] at hcs
    obtain ⟨rfl, rfl, rfl⟩ := hcs
    exact ⟨[], ⟨[], rfl, ⟨none, 0, rfl, by simp, by simp, fun h => absurd rfl h⟩, by simp⟩, by simp⟩
  · simp [Value.cells] at hcs
    obtain ⟨rfl, rfl, rfl⟩ := hcs
    simp only [if_true] at hmm
    have hC : Tryz.prog.cellsOf 38 = 3 := by kernel_rfl
    have each : ∀ i, i < n → ∃ x : Reg × Ent, EntSrc w (fun k => k < w.heap.size) x.1 x.2 ∧ ∀ (j : Nat) (u : Value), (entRow x.2)[j]? = some u → w.cell? (a.add (i * 3 + j)) = some u := fun i hin => by
      obtain ⟨cs', hc, ht⟩ := hi i (by omega)
      rw [hC] at hc
      obtain ⟨xs, f, _, _, hlen, hxl, hfs⟩ := DataW.trod_struct Tryz.underlying38 ht
      rw [hC] at hlen
      obtain ⟨_, _, hat⟩ := World.cells?_some hc
      match cs', hlen with
      | [c0, c1, c2], _ =>
        match xs, hxl with
        | [y0, y1, y2], _ =>
          have t0 : DataW.trod enc Tryz.prog w 0 (fun _ => true) true f 22 (([c0, c1, c2].drop 0).take (Tryz.prog.cellsOf 22)) = some y0 := hfs 0 _ rfl
          have t1 : DataW.trod enc Tryz.prog w 0 (fun _ => true) true f 36 (([c0, c1, c2].drop 1).take (Tryz.prog.cellsOf 36)) = some y1 := hfs 1 _ rfl
          have t2 : DataW.trod enc Tryz.prog w 0 (fun _ => true) true f 4 (([c0, c1, c2].drop 2).take (Tryz.prog.cellsOf 4)) = some y2 := hfs 2 _ rfl
          have k0 : Tryz.prog.cellsOf 22 = 1 := by kernel_rfl
          have k1 : Tryz.prog.cellsOf 36 = 1 := by kernel_rfl
          have k2 : Tryz.prog.cellsOf 4 = 1 := by kernel_rfl
          rw [k0] at t0
          rw [k1] at t1
          rw [k2] at t2
          simp only [List.drop_zero, List.drop_succ_cons, List.take_succ_cons, List.take_zero] at t0 t1 t2
          obtain ⟨z, hz, _, hwf⟩ := DataW.trod_int Tryz.underlying22 t0
          obtain ⟨b, hb, _⟩ := DataW.trod_bool Tryz.underlying4 t2
          obtain ⟨A', n', c', l, hv, hln, hmx, hby⟩ := open_bytes t1
          cases hz
          cases hb
          subst hv
          have hzb : 0 ≤ z ∧ z ≤ 18446744073709551615 := by simpa [Lit.wf, IntKind.min, IntKind.max, IntKind.bits, IntKind.signed] using hwf
          refine ⟨(⟨z.toNat, l, b⟩, ⟨z.toNat, A', n', c', b⟩), ⟨rfl, hln.symm, rfl, hby, by show z.toNat < _; omega, by show l.length ≤ _; omega⟩, fun j u hu => ?_⟩
          have hz2 : ((z.toNat : Nat) : Int) = z := by omega
          simp only [entRow, hz2] at hu
          have hj : j < 3 := by
            rcases Nat.lt_or_ge j 3 with h | h
            · exact h
            · rw [List.getElem?_eq_none (by simpa using h)] at hu; cases hu
          have := hat j (by simpa using hj)
          rw [← add_add, this, hu]
    obtain ⟨P, hPl, hP⟩ := list_of_all _ n each
    refine ⟨P.map (·.1), ⟨P, rfl, ⟨some a, c, by simp [hPl], by simp [hPl]; omega, fun r hr => by obtain ⟨x, _, rfl⟩ := List.mem_map.1 hr; rfl, fun hne => ?_⟩, fun x hx => ?_⟩, by simp [hPl]; unfold maxLen at hm; omega⟩
    · have hpos : 0 < P.length := by
        cases P with
        | nil => simp at hne
        | cons => simp
      have hp0 := (hP 0 P[0] (List.getElem?_eq_getElem hpos)).2 0 _ rfl
      have h00 : ∃ u, w.cell? a = some u := ⟨_, by simpa [Addr.add] using hp0⟩
      obtain ⟨ha, hb, _⟩ := plain_addr hp0 h00
      refine ⟨a.block, a.off, by rw [← ha], hb, fun i j r u hr hu => ?_⟩
      rw [List.getElem?_map] at hr
      cases hpi : P[i]? with
      | none => rw [hpi] at hr; cases hr
      | some x =>
        rw [hpi] at hr
        cases hr
        have hc := (hP i x hpi).2 j u hu
        obtain ⟨_, _, hadd⟩ := plain_addr hc h00
        rw [hadd] at hc
        rw [show a.off + i * 3 + j = a.off + (i * 3 + j) from by omega]
        exact hc
    · obtain ⟨i, hi⟩ := List.mem_iff_getElem?.1 hx
      exact (hP i x hi).1
end
end Go.Proofs.YtmanhikpccnfaaaGreat

/- Arguments of type State and Inst, opened. -/
namespace Go.Proofs.YtmanhikpccnfaaaGreat
open Go.ChangeShapes Go.WideShapes Go.Deep Go.RowKit

section
variable {H : Type} {enc : TypeId × Value → H} {w : World} {P : Program} {base : Nat} {spare : Nat → Bool} {held : Bool}
theorem trod_array {t e : TypeId} {n fuel : Nat} {cs : List Value} {x : DataW H × List MemPlace} (ht : P.underlying t = some (.array n e)) (h : DataW.trod enc P w base spare held fuel t cs = some x) :
    ∃ m, cs.length = P.cellsOf t ∧ ∀ i, i < n → ∃ y, DataW.trod enc P w base spare held m e ((cs.drop (i * P.cellsOf e)).take (P.cellsOf e)) = some y := by
  cases fuel with
  | zero => simp [DataW.trod] at h
  | succ m =>
    unfold DataW.trod at h
    rw [ht] at h
    split at h <;> simp_all
    obtain ⟨hl, xs, hp, hd⟩ := h
    refine ⟨m, fun i hi => ?_⟩
    have hx := mapM_some_get hp i i (by simp [hi])
    have hlen := mapM_some_length hp
    simp only [List.length_range] at hlen
    rw [List.getElem?_eq_getElem (by omega)] at hx
    exact ⟨_, _, hx⟩
theorem one_at {L : List Value} {k : Nat} {v : Value} (h : (L.drop k).take 1 = [v]) : L[k]? = some v := by
  have h1 : ((L.drop k).take 1)[0]? = some v := by rw [h]; rfl
  rw [List.getElem?_take_of_lt (by decide), List.getElem?_drop] at h1
  exact h1
end
section
variable {H : Type} {enc : TypeId × Value → H} {w : World}
theorem open_u64 {f k : Nat} {L : List Value} {y : DataW H × List MemPlace} (h : DataW.trod enc Tryz.prog w 0 (fun _ => true) true f 22 ((L.drop k).take 1) = some y) : ∃ n : Nat, L[k]? = some (.int .u64 n) ∧ n < 18446744073709551616 := by
  obtain ⟨z, hz, _, hw⟩ := DataW.trod_int Tryz.underlying22 h
  have hb : 0 ≤ z ∧ z ≤ 18446744073709551615 := by simpa [Lit.wf, IntKind.min, IntKind.max, IntKind.bits, IntKind.signed] using hw
  obtain ⟨n, rfl⟩ : ∃ n : Nat, z = n := ⟨z.toNat, by omega⟩
  exact ⟨n, one_at hz, by omega⟩
theorem open_b {f k : Nat} {L : List Value} {y : DataW H × List MemPlace} (h : DataW.trod enc Tryz.prog w 0 (fun _ => true) true f 4 ((L.drop k).take 1) = some y) : ∃ b, L[k]? = some (.bool b) := by
  obtain ⟨b, hz, _⟩ := DataW.trod_bool Tryz.underlying4 h
  exact ⟨b, one_at hz⟩
theorem open_i {f k : Nat} {L : List Value} {y : DataW H × List MemPlace} {t : TypeId} (ht : Tryz.prog.underlying t = some (.int .i64)) (h : DataW.trod enc Tryz.prog w 0 (fun _ => true) true f t ((L.drop k).take 1) = some y) : ∃ z : Int, L[k]? = some (.int .i64 z) ∧ -9223372036854775808 ≤ z ∧ z ≤ 9223372036854775807 := by
  obtain ⟨z, hz, _, hw⟩ := DataW.trod_int ht h
  have hb : -9223372036854775808 ≤ z ∧ z ≤ 9223372036854775807 := by simpa [Lit.wf, IntKind.min, IntKind.max, IntKind.bits, IntKind.signed] using hw
  exact ⟨z, one_at hz, hb⟩
theorem st_get {R : List Nat} {pc : Nat} {a b c : Bool} (hR : R.length = 16) {L : List Value} (hL : L.length = 20) (h : ∀ (i : Nat) (n : Nat), R[i]? = some n → L[i]? = some (.int .u64 n)) (h16 : L[16]? = some (.int .u64 pc)) (h17 : L[17]? = some (.bool a)) (h18 : L[18]? = some (.bool b)) (h19 : L[19]? = some (.bool c)) :
    L = stRow ⟨R, pc, a, b, c⟩ := by
  apply List.ext_getElem?
  intro i
  rw [stRow]
  by_cases hi : i < 16
  · have hg : R[i]? = some R[i] := List.getElem?_eq_getElem (by omega)
    rw [h i _ hg, List.getElem?_append_left (by simpa [hR] using hi), List.getElem?_map, hg]
    rfl
  · rw [List.getElem?_append_right (by simp [hR]; omega)]
    simp only [List.length_map, hR]
    by_cases h20 : i < 20
    · obtain rfl | rfl | rfl | rfl : i = 16 ∨ i = 17 ∨ i = 18 ∨ i = 19 := by omega
      · rw [h16]; rfl
      · rw [h17]; rfl
      · rw [h18]; rfl
      · rw [h19]; rfl
    · rw [List.getElem?_eq_none (by omega), List.getElem?_eq_none (by simp; omega)]

set_option maxRecDepth 100000 in
theorem open_st {cs : Array Value} {d : DataW H} {ps : List MemPlace} (h : DataW.Trod enc Tryz.prog w 0 (fun _ => true) true 25 (.agg cs) d ps) : ∃ s : St, cs = (stRow s).toArray ∧ StOk s := by
  obtain ⟨fuel, hf⟩ := h
  obtain ⟨xs, f, _, _, hlen, hxl, hfs⟩ := DataW.trod_struct Tryz.underlying25 hf
  rw [show Tryz.prog.cellsOf 25 = 20 by kernel_rfl] at hlen
  have hcs : (Value.agg cs).cells.toList = cs.toList := rfl
  rw [hcs] at hlen hfs
  generalize hL : cs.toList = L at *
  match xs, hxl with
  | [y0, y1, y2, y3, y4], _ =>
    have k1 : Tryz.prog.cellsOf 22 = 1 := by kernel_rfl
    have kb : Tryz.prog.cellsOf 4 = 1 := by kernel_rfl
    have kr : Tryz.prog.cellsOf 23 = 16 := by kernel_rfl
    have t0 : DataW.trod enc Tryz.prog w 0 (fun _ => true) true f 23 ((L.drop 0).take (Tryz.prog.cellsOf 23)) = some y0 := hfs 0 _ rfl
    have t1 : DataW.trod enc Tryz.prog w 0 (fun _ => true) true f 22 ((L.drop 16).take (Tryz.prog.cellsOf 22)) = some y1 := hfs 1 _ rfl
    have t2 : DataW.trod enc Tryz.prog w 0 (fun _ => true) true f 4 ((L.drop 17).take (Tryz.prog.cellsOf 4)) = some y2 := hfs 2 _ rfl
    have t3 : DataW.trod enc Tryz.prog w 0 (fun _ => true) true f 4 ((L.drop 18).take (Tryz.prog.cellsOf 4)) = some y3 := hfs 3 _ rfl
    have t4 : DataW.trod enc Tryz.prog w 0 (fun _ => true) true f 4 ((L.drop 19).take (Tryz.prog.cellsOf 4)) = some y4 := hfs 4 _ rfl
    rw [k1] at t1
    rw [kb] at t2 t3 t4
    rw [kr, List.drop_zero] at t0
    obtain ⟨m, _, ha⟩ := trod_array Tryz.underlying23 t0
    rw [k1] at ha
    obtain ⟨R, hR, hRq⟩ := list_of_all (fun i n => L[i]? = some (.int .u64 (n : Nat)) ∧ n < 18446744073709551616) 16 fun i hi => by
      obtain ⟨y, hy⟩ := ha i hi
      obtain ⟨n, h1, h2⟩ := open_u64 hy
      rw [Nat.mul_one, List.getElem?_take_of_lt hi] at h1
      exact ⟨n, h1, h2⟩
    obtain ⟨pc, h1, h1'⟩ := open_u64 t1
    obtain ⟨a, h2⟩ := open_b t2
    obtain ⟨b, h3⟩ := open_b t3
    obtain ⟨c, h4⟩ := open_b t4
    refine ⟨⟨R, pc, a, b, c⟩, ?_, hR, fun r hr => ?_, h1'⟩
    · rw [← st_get hR hlen (fun i n hi => (hRq i n hi).1) h1 h2 h3 h4, ← hL]
    · obtain ⟨i, hi⟩ := List.mem_iff_getElem?.1 hr
      exact (hRq i r hi).2

set_option maxRecDepth 100000 in
theorem open_ins {cs : Array Value} {d : DataW H} {ps : List MemPlace} (h : DataW.Trod enc Tryz.prog w 0 (fun _ => true) true 29 (.agg cs) d ps) : ∃ i : Ins, cs = (insRow i).toArray ∧ InsOk i := by
  obtain ⟨fuel, hf⟩ := h
  obtain ⟨xs, f, _, _, hlen, hxl, hfs⟩ := DataW.trod_struct Tryz.underlying29 hf
  rw [show Tryz.prog.cellsOf 29 = 9 by kernel_rfl] at hlen
  have hcs : (Value.agg cs).cells.toList = cs.toList := rfl
  rw [hcs] at hlen hfs
  generalize hL : cs.toList = L at *
  match xs, hxl with
  | [y0, y1, y2, y3, y4, y5], _ =>
    have k1 : Tryz.prog.cellsOf 3 = 1 := by kernel_rfl
    have k8 : Tryz.prog.cellsOf 2 = 1 := by kernel_rfl
    have km : Tryz.prog.cellsOf 27 = 4 := by kernel_rfl
    have t0 : DataW.trod enc Tryz.prog w 0 (fun _ => true) true f 3 ((L.drop 0).take (Tryz.prog.cellsOf 3)) = some y0 := hfs 0 _ rfl
    have t1 : DataW.trod enc Tryz.prog w 0 (fun _ => true) true f 3 ((L.drop 1).take (Tryz.prog.cellsOf 3)) = some y1 := hfs 1 _ rfl
    have t2 : DataW.trod enc Tryz.prog w 0 (fun _ => true) true f 3 ((L.drop 2).take (Tryz.prog.cellsOf 3)) = some y2 := hfs 2 _ rfl
    have t3 : DataW.trod enc Tryz.prog w 0 (fun _ => true) true f 3 ((L.drop 3).take (Tryz.prog.cellsOf 3)) = some y3 := hfs 3 _ rfl
    have t4 : DataW.trod enc Tryz.prog w 0 (fun _ => true) true f 27 ((L.drop 4).take (Tryz.prog.cellsOf 27)) = some y4 := hfs 4 _ rfl
    have t5 : DataW.trod enc Tryz.prog w 0 (fun _ => true) true f 2 ((L.drop 8).take (Tryz.prog.cellsOf 2)) = some y5 := hfs 5 _ rfl
    obtain ⟨zs, g, _, _, _, hzl, hgs⟩ := DataW.trod_struct Tryz.underlying27 t4
    rw [km] at hgs
    match zs, hzl with
    | [z0, z1, z2, z3], _ =>
      have m0 : DataW.trod enc Tryz.prog w 0 (fun _ => true) true g 3 ((((L.drop 4).take 4).drop 0).take (Tryz.prog.cellsOf 3)) = some z0 := hgs 0 _ rfl
      have m1 : DataW.trod enc Tryz.prog w 0 (fun _ => true) true g 3 ((((L.drop 4).take 4).drop 1).take (Tryz.prog.cellsOf 3)) = some z1 := hgs 1 _ rfl
      have m2 : DataW.trod enc Tryz.prog w 0 (fun _ => true) true g 3 ((((L.drop 4).take 4).drop 2).take (Tryz.prog.cellsOf 3)) = some z2 := hgs 2 _ rfl
      have m3 : DataW.trod enc Tryz.prog w 0 (fun _ => true) true g 2 ((((L.drop 4).take 4).drop 3).take (Tryz.prog.cellsOf 2)) = some z3 := hgs 3 _ rfl
      rw [k1] at t0 t1 t2 t3 m0 m1 m2
      rw [k8] at t5 m3
      obtain ⟨a0, e0, _⟩ := open_i Tryz.underlying3 t0
      obtain ⟨a1, e1, _⟩ := open_i Tryz.underlying3 t1
      obtain ⟨a2, e2, _⟩ := open_i Tryz.underlying3 t2
      obtain ⟨a3, e3, _⟩ := open_i Tryz.underlying3 t3
      obtain ⟨a4, e4, _⟩ := open_i Tryz.underlying3 m0
      obtain ⟨a5, e5, _⟩ := open_i Tryz.underlying3 m1
      obtain ⟨a6, e6, _⟩ := open_i Tryz.underlying3 m2
      obtain ⟨a7, e7, b7⟩ := open_i Tryz.underlying2 m3
      obtain ⟨a8, e8, b8⟩ := open_i Tryz.underlying2 t5
      rw [List.getElem?_take_of_lt (by decide), List.getElem?_drop] at e4 e5 e6 e7
      refine ⟨⟨a0, a1, a2, a3, a4, a5, a6, a7, a8⟩, ?_, b7, b8⟩
      apply Array.ext'
      rw [hL]
      match L, hlen with
      | [c0, c1, c2, c3, c4, c5, c6, c7, c8], _ =>
        simp at e0 e1 e2 e3 e4 e5 e6 e7 e8
        subst e0 e1 e2 e3 e4 e5 e6 e7 e8
        rfl
end
def witSt : Value := .agg #[.int .u64 0, .int .u64 0, .int .u64 0, .int .u64 0, .int .u64 0, .int .u64 0, .int .u64 0, .int .u64 0, .int .u64 0, .int .u64 0, .int .u64 0, .int .u64 0, .int .u64 0, .int .u64 0, .int .u64 0, .int .u64 0, .int .u64 0, .bool false, .bool false, .bool false]
def witIns : Value := .agg #[.int .i64 0, .int .i64 0, .int .i64 0, .int .i64 0, .int .i64 0, .int .i64 0, .int .i64 0, .int .i64 0, .int .i64 0]
end Go.Proofs.YtmanhikpccnfaaaGreat

/- keysmithlaw08.StepStays: for all states, instructions, regions, registers and words it returns true: what a step does not make stays, and what it does not read does not matter. No condition. -/
namespace Go.Proofs.YtmanhikpccnfaaaGreat.stepStays
open Go.ChangeShapes Go.WideShapes Go.ChangeAt Go.RowKit

theorem own : ownKnob Tryz.prog.godebug = none := by kernel_rfl
theorem laidOut : laidOutB Tryz.prog = true := by kernel_rfl

set_option maxRecDepth 100000 in
theorem lifted (os : Os) (started : os.Started) (H : Type) (enc : TypeId × Value → H) :
    ReturnsInHanded {} Tryz.checked os 4 .any (Rows.stepStaysSpec.pre6 enc Tryz.prog Tryz.f4 Rows.stepStaysRow.domain false) (Rows.stepStaysSpec.post enc Tryz.prog Tryz.f4 false true false false) := by
  refine returnsInHanded_of_change (C := Tryz.checked) own started (by kernel_rfl) Tryz.func4
    (ChangeSpec.witness6 (enc := enc) (C := Tryz.checked) false ⟨#[], #[witSt, witIns, .slice none 0 0, .int .i64 0, .int .u64 0], []⟩ 8 (by kernel_rfl) (by kernel_rfl) (by kernel_rfl) (by kernel_rfl)) ?_
  intro W base args ds gs before hval0 hW hcnd _
  have hval : ∀ (j : Nat) t v, Tryz.f4.params[j]? = some t → args[j]? = some v → Value.okWide Tryz.prog W .any base t v := hval0
  have hW' := hW
  obtain ⟨p, q, hA0, hV, rfl, hfz, hnd⟩ := hW
  have hA : DataW.TrodAll enc Tryz.prog W 0 (fun _ => true) true Tryz.f4.params.toList args.toList ds p := hA0
  rw [Tryz.params4] at hA hval
  obtain ⟨v0, vs0, d0, ds0, p0, q0, hargs, rfl, rfl, h0, r0⟩ := trodAll_cons hA
  obtain ⟨v1, vs1, d1, ds1, p1, q1, rfl, rfl, rfl, h1, r1⟩ := trodAll_cons r0
  obtain ⟨v2, vs2, d2, ds2, p2, q2, rfl, rfl, rfl, h2, r2⟩ := trodAll_cons r1
  obtain ⟨v3, vs3, d3, ds3, p3, q3, rfl, rfl, rfl, h3, r3⟩ := trodAll_cons r2
  obtain ⟨v4, vs4, d4, ds4, p4, q4, rfl, rfl, rfl, h4, r4⟩ := trodAll_cons r3
  obtain ⟨rfl, rfl, rfl⟩ := trodAll_nil r4
  obtain rfl : args = #[v0, v1, v2, v3, v4] := by cases args; simp_all
  obtain ⟨rfl, rfl⟩ := trodVars_none hV
  have k0 := h0
  have lt0 : ∀ x ∈ p0, x.block < W.heap.size := by obtain ⟨m, hm⟩ := k0; exact DataW.trod_lt m _ _ _ hm
  obtain ⟨cs0, rfl, hcs0⟩ := okWide_struct Tryz.underlying25 (hval 0 25 v0 rfl rfl)
  obtain ⟨x0, rfl, hx0⟩ := open_st h0
  have k1 := h1
  have lt1 : ∀ x ∈ p1, x.block < W.heap.size := by obtain ⟨m, hm⟩ := k1; exact DataW.trod_lt m _ _ _ hm
  obtain ⟨cs1, rfl, hcs1⟩ := okWide_struct Tryz.underlying29 (hval 1 29 v1 rfl rfl)
  obtain ⟨x1, rfl, hx1⟩ := open_ins h1
  obtain ⟨A2, len2, cap2, rfl⟩ := okWide_slice Tryz.underlying30 (hval 2 30 v2 rfl rfl)
  have k2 := h2
  have lt2 : ∀ x ∈ p2, x.block < W.heap.size := by obtain ⟨m, hm⟩ := k2; exact DataW.trod_lt m _ _ _ hm
  obtain ⟨l2, hl2, hn2⟩ := open_regs h2
  obtain ⟨a3, rfl, rfl, rfl, w3⟩ := open_int Tryz.underlying3 (hval 3 3 v3 rfl rfl) h3
  obtain ⟨a4, rfl, rfl, rfl, w4⟩ := open_int Tryz.underlying22 (hval 4 22 v4 rfl rfl) h4
  clear hA0 hval0
  have b4 : 0 ≤ a4 ∧ a4 ≤ 18446744073709551615 := by simpa [Lit.wf, IntKind.min, IntKind.max, IntKind.bits, IntKind.signed] using w4
  obtain ⟨n4, e4⟩ : ∃ n : Nat, a4 = n := ⟨a4.toNat, by omega⟩
  subst e4
  refine (stays_walk x0 x1 _ l2 a3 n4 W hx0 hx1 hl2 hn2 (by simpa [Lit.wf, IntKind.min, IntKind.max, IntKind.bits, IntKind.signed] using w3) (by omega)).mono fun e W' ⟨he, bel⟩ => ?_
  subst he
  exact ⟨_, rfl, _, _, _, [], _, [], hW', trodAll_mk1 (shut_bool Tryz.underlying4 _), (trodAll_cons_mk (Below.trod laidOut (by kernel_rfl) (of_decide_eq_true (by kernel_rfl)) k0 bel lt0) (trodAll_cons_mk (Below.trod laidOut (by kernel_rfl) (of_decide_eq_true (by kernel_rfl)) k1 bel lt1) (trodAll_cons_mk (Below.trod laidOut (by kernel_rfl) (of_decide_eq_true (by kernel_rfl)) k2 bel lt2) (trodAll_cons_mk (shut_int Tryz.underlying3 w3) (trodAll_cons_mk (shut_int Tryz.underlying22 w4) trodAll_mk0))))), rfl, bel.frame _, fun h => by cases h⟩

theorem over : Rows.stepStaysRow.holds Tryz.pinned (OpenSpec.ofChange Rows.stepStaysSpec) :=
  OpenClaim.holds_of_wide 4 Tryz.f4 rfl rfl rfl rfl rfl rfl rfl ⟨rfl, rfl, rfl, rfl, rfl⟩ rfl rfl rfl rfl rfl (by kernel_rfl) Tryz.func4 (by kernel_rfl)
    (of_decide_eq_true (by kernel_rfl)) (by unfold Func.isWrapper; first | (rw [if_pos (by decide +kernel)]; kernel_rfl) | (rw [if_neg (by decide +kernel)]; exact ⟨rfl, rfl⟩))
    (fun os started H enc _ => lifted os started H enc)

theorem proved : Rows.StepStaysSaid := over
#print axioms proved
end Go.Proofs.YtmanhikpccnfaaaGreat.stepStays
