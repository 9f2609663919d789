/- An argument of type []Region, opened. -/
import Derived.Test.YtmanhikpccnfaaaWordsA
import Derived.Deep.Slices
import Derived.ProofKit
namespace Go.Proofs.Ytmanhikpccnfaaa
open Go.ChangeShapes Go.WideShapes Go.Deep Go.RowKit

theorem list_of_all {α : Type} (Q : Nat → α → Prop) : ∀ n, (∀ i, i < n → ∃ x, Q i x) → ∃ L : List α, L.length = n ∧ ∀ (i : Nat) (x : α), L[i]? = some x → Q i x
  | 0, _ => ⟨[], rfl, fun i x h => by simp at h⟩
  | n + 1, h => by
    obtain ⟨L, hl, hq⟩ := list_of_all Q n (fun i hi => h i (by omega))
    obtain ⟨x, hx⟩ := h n (by omega)
    refine ⟨L ++ [x], by simp [hl], fun i y hy => ?_⟩
    rcases Nat.lt_or_ge i n with hi | hi
    · rw [List.getElem?_append_left (by omega)] at hy; exact hq i y hy
    · rw [List.getElem?_append_right (by omega)] at hy
      have : i - L.length = 0 := by
        rcases Nat.eq_zero_or_pos (i - L.length) with h | h
        · exact h
        · rw [List.getElem?_eq_none (by simp; omega)] at hy; cases hy
      rw [this] at hy
      simp at hy
      subst hy
      rw [show i = n from by omega]; exact hx

theorem plain_addr {w : World} {a : Addr} {k : Nat} {v : Value} (h : w.cell? (a.add k) = some v) (h0 : ∃ u, w.cell? a = some u) : a = ⟨a.block, a.off, none⟩ ∧ a.block < w.heap.size ∧ a.add k = ⟨a.block, a.off + k, none⟩ := by
  obtain ⟨u, hu⟩ := h0
  have hb := World.block_lt_of_cell? w a hu
  have hs : a.spot = none := by
    cases hsp : a.spot with
    | none => rfl
    | some s =>
      unfold World.cell? at hu
      split at hu
      · simp [hsp] at hu
      · cases hu
  have ha : a = ⟨a.block, a.off, none⟩ := by cases a; simp_all
  refine ⟨ha, hb, ?_⟩
  unfold Addr.add
  split
  · rename_i hk; subst hk; simpa using ha
  · rfl

section
variable {H : Type} {enc : TypeId × Value → H} {w : World}

theorem open_bytes {fuel : Nat} {v : Value} {x : DataW H × List MemPlace} (h : DataW.trod enc Try.prog w 0 (fun _ => true) true fuel 59 [v] = some x) :
    ∃ A n c l, v = .slice A n c ∧ l.length = n ∧ n ≤ 9223372036854775807 ∧ BytesAt w (fun k => k < w.heap.size) (.slice A n c) l := by
  rcases open_ints Try.underlying59 Try.underlying5 (by kernel_rfl) h with ⟨hcs, _⟩ | ⟨a, len, cap, zs, hcs, _, hl, hm, hz, _, hcell, hwf⟩
  · cases hcs
    exact ⟨none, 0, 0, [], rfl, rfl, by omega, ⟨none, 0, by simp, by simp, by simp, fun h => absurd rfl h⟩⟩
  · cases hcs
    simp only [if_true] at hz
    refine ⟨some a, len, cap, (zs.take len).map fun z => UInt8.ofNat z.toNat, rfl, by simp; omega, by unfold maxLen at hm; omega, ⟨some a, cap, by simp; omega, by simp; omega, fun r hr => ?_, fun hne => ?_⟩⟩
    · obtain ⟨x, _, rfl⟩ := List.mem_map.1 hr; rfl
    · have hlen : 0 < len := by
        rcases Nat.eq_zero_or_pos len with h0 | h0
        · subst h0; simp at hne
        · exact h0
      have h0 := hcell 0 (by omega)
      have h00 : ∃ u, w.cell? a = some u := ⟨_, by simpa [Addr.add] using h0⟩
      obtain ⟨ha, hb, _⟩ := plain_addr h0 h00
      refine ⟨a.block, a.off, by rw [← ha], hb, fun i j r u hr hu => ?_⟩
      rw [List.getElem?_map, List.getElem?_map] at hr
      cases hzi : (zs.take len)[i]? with
      | none => rw [hzi] at hr; cases hr
      | some z =>
        rw [hzi] at hr
        cases hr
        cases j with
        | succ j => simp at hu
        | zero =>
          simp at hu
          subst hu
          rw [List.getElem?_take] at hzi
          split at hzi
          · rename_i hlt
            have hzl : i < zs.length := (List.getElem?_eq_some_iff.1 hzi).1
            have hc := hcell i hzl
            obtain ⟨_, _, hadd⟩ := plain_addr hc h00
            rw [hadd] at hc
            have hzd : zs.getD i 0 = z := by simp [List.getD, hzi]
            rw [hzd] at hc
            have hw := hwf z (List.mem_of_getElem? hzi)
            have hbd : 0 ≤ z ∧ z ≤ 255 := by simpa [Lit.wf, IntKind.min, IntKind.max, IntKind.bits, IntKind.signed] using hw
            have : byteV (UInt8.ofNat z.toNat) = .int .u8 z := by
              unfold byteV
              congr 1
              simp only [UInt8.toNat_ofNat']
              omega
            rw [this]
            simpa using hc
          · cases hzi

set_option maxRecDepth 100000 in
theorem open_regs {A : Option Addr} {n c : Nat} {d : DataW H} {ps : List MemPlace} (h : DataW.Trod enc Try.prog w 0 (fun _ => true) true 49 (.slice A n c) d ps) :
    ∃ l : List Reg, RegsAt w (fun k => k < w.heap.size) (.slice A n c) l ∧ l.length ≤ 9223372036854775807 := by
  obtain ⟨fuel, hf⟩ := h
  rcases open_slice Try.underlying49 hf with ⟨hcs, _⟩ | ⟨a, len, cap, m, q, D, Pl, hcs, _, hl, hm, hmm, _, hi⟩
  · simp [Value.cells] at hcs
    obtain ⟨rfl, rfl, rfl⟩ := hcs
    exact ⟨[], ⟨[], rfl, ⟨none, 0, rfl, by simp, by simp, fun h => absurd rfl h⟩, by simp⟩, by simp⟩
  · simp [Value.cells] at hcs
    obtain ⟨rfl, rfl, rfl⟩ := hcs
    simp only [if_true] at hmm
    have hC : Try.prog.cellsOf 61 = 3 := by kernel_rfl
    have each : ∀ i, i < n → ∃ x : Reg × Ent, EntSrc w (fun k => k < w.heap.size) x.1 x.2 ∧ ∀ (j : Nat) (u : Value), (entRow x.2)[j]? = some u → w.cell? (a.add (i * 3 + j)) = some u := fun i hin => by
      obtain ⟨cs', hc, ht⟩ := hi i (by omega)
      rw [hC] at hc
      obtain ⟨xs, f, _, _, hlen, hxl, hfs⟩ := DataW.trod_struct Try.underlying61 ht
      rw [hC] at hlen
      obtain ⟨_, _, hat⟩ := World.cells?_some hc
      match cs', hlen with
      | [c0, c1, c2], _ =>
        match xs, hxl with
        | [y0, y1, y2], _ =>
          have t0 : DataW.trod enc Try.prog w 0 (fun _ => true) true f 22 (([c0, c1, c2].drop 0).take (Try.prog.cellsOf 22)) = some y0 := hfs 0 _ rfl
          have t1 : DataW.trod enc Try.prog w 0 (fun _ => true) true f 59 (([c0, c1, c2].drop 1).take (Try.prog.cellsOf 59)) = some y1 := hfs 1 _ rfl
          have t2 : DataW.trod enc Try.prog w 0 (fun _ => true) true f 4 (([c0, c1, c2].drop 2).take (Try.prog.cellsOf 4)) = some y2 := hfs 2 _ rfl
          have k0 : Try.prog.cellsOf 22 = 1 := by kernel_rfl
          have k1 : Try.prog.cellsOf 59 = 1 := by kernel_rfl
          have k2 : Try.prog.cellsOf 4 = 1 := by kernel_rfl
          rw [k0] at t0
          rw [k1] at t1
          rw [k2] at t2
          simp only [List.drop_zero, List.drop_succ_cons, List.take_succ_cons, List.take_zero] at t0 t1 t2
          obtain ⟨z, hz, _, hwf⟩ := DataW.trod_int Try.underlying22 t0
          obtain ⟨b, hb, _⟩ := DataW.trod_bool Try.underlying4 t2
          obtain ⟨A', n', c', l, hv, hln, hmx, hby⟩ := open_bytes t1
          cases hz
          cases hb
          subst hv
          have hzb : 0 ≤ z ∧ z ≤ 18446744073709551615 := by simpa [Lit.wf, IntKind.min, IntKind.max, IntKind.bits, IntKind.signed] using hwf
          refine ⟨(⟨z.toNat, l, b⟩, ⟨z.toNat, A', n', c', b⟩), ⟨rfl, hln.symm, rfl, hby, by show z.toNat < _; omega, by show l.length ≤ _; omega⟩, fun j u hu => ?_⟩
          have hz2 : ((z.toNat : Nat) : Int) = z := by omega
          simp only [entRow, hz2] at hu
          have hj : j < 3 := by
            rcases Nat.lt_or_ge j 3 with h | h
            · exact h
            · rw [List.getElem?_eq_none (by simpa using h)] at hu; cases hu
          have := hat j (by simpa using hj)
          rw [← add_add, this, hu]
    obtain ⟨P, hPl, hP⟩ := list_of_all _ n each
    refine ⟨P.map (·.1), ⟨P, rfl, ⟨some a, c, by simp [hPl], by simp [hPl]; omega, fun r hr => by obtain ⟨x, _, rfl⟩ := List.mem_map.1 hr; rfl, fun hne => ?_⟩, fun x hx => ?_⟩, by simp [hPl]; unfold maxLen at hm; omega⟩
    · have hpos : 0 < P.length := by
        cases P with
        | nil => simp at hne
        | cons => simp
      have hp0 := (hP 0 P[0] (List.getElem?_eq_getElem hpos)).2 0 _ rfl
      have h00 : ∃ u, w.cell? a = some u := ⟨_, by simpa [Addr.add] using hp0⟩
      obtain ⟨ha, hb, _⟩ := plain_addr hp0 h00
      refine ⟨a.block, a.off, by rw [← ha], hb, fun i j r u hr hu => ?_⟩
      rw [List.getElem?_map] at hr
      cases hpi : P[i]? with
      | none => rw [hpi] at hr; cases hr
      | some x =>
        rw [hpi] at hr
        cases hr
        have hc := (hP i x hpi).2 j u hu
        obtain ⟨_, _, hadd⟩ := plain_addr hc h00
        rw [hadd] at hc
        rw [show a.off + i * 3 + j = a.off + (i * 3 + j) from by omega]
        exact hc
    · obtain ⟨i, hi⟩ := List.mem_iff_getElem?.1 hx
      exact (hP i x hi).1
end
end Go.Proofs.Ytmanhikpccnfaaa
