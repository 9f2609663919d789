/- An argument that is a slice of structs, opened as rows. -/
import Derived.Test.YtcciaihghhleoaaOpen
namespace Go.Proofs.Ytcciaihghhleoaa
open Go.ChangeShapes Go.WideShapes Go.Deep Go.RowKit

section
variable {H : Type} {enc : TypeId × Value → H} {w : World}

theorem open_rows {α : Type} {T St sz : Nat} (row : α → List Value) (Q : α → Prop) (hT : Try.prog.underlying T = some (.slice St)) (hC : Try.prog.cellsOf St = sz) (h0 : 0 < sz) (hrow : ∀ x, (row x).length = sz)
    (each : ∀ fuel cs y, DataW.trod enc Try.prog w 0 (fun _ => true) true fuel St cs = some y → cs.length = sz → ∃ x, cs = row x ∧ Q x)
    {A : Option Addr} {n c : Nat} {d : DataW H} {ps : List MemPlace} (h : DataW.Trod enc Try.prog w 0 (fun _ => true) true T (.slice A n c) d ps) :
    ∃ l : List α, Rows w (fun k => k < w.heap.size) sz (.slice A n c) (l.map row) ∧ (∀ x ∈ l, Q x) ∧ l.length ≤ 9223372036854775807 := by
  obtain ⟨fuel, hf⟩ := h
  rcases open_slice hT hf with ⟨hcs, _⟩ | ⟨a, len, cap, m, q, D, Pl, hcs, _, hl, hm, hmm, _, hi⟩
  · simp [Value.cells] at hcs
    obtain ⟨rfl, rfl, rfl⟩ := hcs
    exact ⟨[], ⟨none, 0, rfl, by simp, by simp, fun h => absurd rfl h⟩, by simp, by simp⟩
  · simp [Value.cells] at hcs
    obtain ⟨rfl, rfl, rfl⟩ := hcs
    simp only [if_true] at hmm
    have ech : ∀ i, i < n → ∃ x : α, Q x ∧ ∀ (j : Nat) (u : Value), (row x)[j]? = some u → w.cell? (a.add (i * sz + j)) = some u := fun i hin => by
      obtain ⟨cs', hc, ht⟩ := hi i (by omega)
      rw [hC] at hc
      obtain ⟨_, hlen, hat⟩ := World.cells?_some hc
      obtain ⟨x, rfl, hq⟩ := each _ _ _ ht hlen
      refine ⟨x, hq, fun j u hu => ?_⟩
      have := hat j (by rw [← hlen]; exact (List.getElem?_eq_some_iff.1 hu).1)
      rw [← add_add, this, hu]
    obtain ⟨L, hL, hq⟩ := list_of_all _ n ech
    refine ⟨L, ⟨some a, c, by simp [hL], by simp [hL]; omega, fun r hr => by obtain ⟨x, _, rfl⟩ := List.mem_map.1 hr; exact hrow x, fun hne => ?_⟩, fun x hx => ?_, by rw [hL]; unfold maxLen at hm; omega⟩
    · have hpos : 0 < L.length := by
        cases L with
        | nil => simp at hne
        | cons => simp
      have hl0 := hrow L[0]
      obtain ⟨u0, hu0⟩ : ∃ u, (row L[0])[0]? = some u := by
        cases hx : row L[0] with
        | nil => rw [hx] at hl0; simp at hl0; omega
        | cons u us => exact ⟨u, rfl⟩
      have hp0 := (hq 0 L[0] (List.getElem?_eq_getElem hpos)).2 0 u0 hu0
      have h00 : ∃ u, w.cell? a = some u := ⟨_, by simpa [Addr.add] using hp0⟩
      obtain ⟨ha, hb, _⟩ := plain_addr hp0 h00
      refine ⟨a.block, a.off, by rw [← ha], hb, fun i j r u hr hu => ?_⟩
      rw [List.getElem?_map] at hr
      cases hpi : L[i]? with
      | none => rw [hpi] at hr; cases hr
      | some x =>
        rw [hpi] at hr
        cases hr
        have hc := (hq i x hpi).2 j u hu
        obtain ⟨_, _, hadd⟩ := plain_addr hc h00
        rw [hadd] at hc
        rw [show a.off + i * sz + j = a.off + (i * sz + j) from by omega]
        exact hc
    · obtain ⟨i, hi⟩ := List.mem_iff_getElem?.1 hx
      exact (hq i x hi).1

theorem trod_u64 {fuel : Nat} {cs : List Value} {y : DataW H × List MemPlace} (h : DataW.trod enc Try.prog w 0 (fun _ => true) true fuel 23 cs = some y) : ∃ n : Nat, cs = [.int .u64 n] ∧ n < 18446744073709551616 := by
  obtain ⟨z, hz, _, hwf⟩ := DataW.trod_int Try.underlying23 h
  have hzb : 0 ≤ z ∧ z ≤ 18446744073709551615 := by simpa [Lit.wf, IntKind.min, IntKind.max, IntKind.bits, IntKind.signed] using hwf
  exact ⟨z.toNat, by rw [hz]; congr 2; omega, by omega⟩
theorem trod_i64 {fuel : Nat} {cs : List Value} {y : DataW H × List MemPlace} (h : DataW.trod enc Try.prog w 0 (fun _ => true) true fuel 3 cs = some y) : ∃ z : Int, cs = [.int .i64 z] ∧ -9223372036854775808 ≤ z ∧ z ≤ 9223372036854775807 := by
  obtain ⟨z, hz, _, hwf⟩ := DataW.trod_int Try.underlying3 h
  have hzb : -9223372036854775808 ≤ z ∧ z ≤ 9223372036854775807 := by simpa [Lit.wf, IntKind.min, IntKind.max, IntKind.bits, IntKind.signed] using hwf
  exact ⟨z, hz, hzb⟩
end
end Go.Proofs.Ytcciaihghhleoaa
