/- Acts, opened. -/
import Derived.Test.YtcciaihghhleoaaOpenRows
namespace Go.Proofs.Ytcciaihghhleoaa
open Go.ChangeShapes Go.WideShapes Go.Deep Go.RowKit

/-- An act. -/
structure ActX where
  kind : Int
  at_ : Nat
  v : Nat
  n : Int
def actRow (a : ActX) : List Value := [.int .i64 a.kind, .int .u64 a.at_, .int .u64 a.v, .int .i64 a.n]
structure ActOk (a : ActX) : Prop where
  at64 : a.at_ < 18446744073709551616
  v64 : a.v < 18446744073709551616
  n64 : a.n ≤ 9223372036854775807

section
variable {H : Type} {enc : TypeId × Value → H} {w : World}
theorem open_acts {A : Option Addr} {n c : Nat} {d : DataW H} {ps : List MemPlace} (h : DataW.Trod enc Try.prog w 0 (fun _ => true) true 47 (.slice A n c) d ps) :
    ∃ l : List ActX, (Rows w (fun k => k < w.heap.size) 4 (.slice A n c) (l.map actRow) ∧ ∀ x ∈ l, ActOk x) ∧ l.length ≤ 9223372036854775807 := by
  have hC : Try.prog.cellsOf 54 = 4 := by kernel_rfl
  obtain ⟨l, h1, h2, h3⟩ := open_rows actRow ActOk Try.underlying47 hC (by decide) (fun _ => rfl) (fun fuel cs y ht hlen => by
    obtain ⟨xs, f, _, _, _, hxl, hfs⟩ := DataW.trod_struct Try.underlying54 ht
    match cs, hlen with
    | [c0, c1, c2, c3], _ =>
      match xs, hxl with
      | [y0, y1, y2, y3], _ =>
        have t0 : DataW.trod enc Try.prog w 0 (fun _ => true) true f 3 (([c0, c1, c2, c3].drop 0).take (Try.prog.cellsOf 3)) = some y0 := hfs 0 _ rfl
        have t1 : DataW.trod enc Try.prog w 0 (fun _ => true) true f 23 (([c0, c1, c2, c3].drop 1).take (Try.prog.cellsOf 23)) = some y1 := hfs 1 _ rfl
        have t2 : DataW.trod enc Try.prog w 0 (fun _ => true) true f 23 (([c0, c1, c2, c3].drop 2).take (Try.prog.cellsOf 23)) = some y2 := hfs 2 _ rfl
        have t3 : DataW.trod enc Try.prog w 0 (fun _ => true) true f 3 (([c0, c1, c2, c3].drop 3).take (Try.prog.cellsOf 3)) = some y3 := hfs 3 _ rfl
        have k0 : Try.prog.cellsOf 23 = 1 := by kernel_rfl
        have k1 : Try.prog.cellsOf 3 = 1 := by kernel_rfl
        rw [k0] at t1 t2
        rw [k1] at t0 t3
        simp only [List.drop_zero, List.drop_succ_cons, List.take_succ_cons, List.take_zero] at t0 t1 t2 t3
        obtain ⟨z0, e0, _⟩ := trod_i64 t0
        obtain ⟨z1, e1, l1⟩ := trod_u64 t1
        obtain ⟨z2, e2, l2⟩ := trod_u64 t2
        obtain ⟨z3, e3, l3⟩ := trod_i64 t3
        cases e0
        cases e1
        cases e2
        cases e3
        exact ⟨⟨z0, z1, z2, z3⟩, rfl, l1, l2, l3.2⟩) h
  exact ⟨l, ⟨h1, h2⟩, h3⟩
end
end Go.Proofs.Ytcciaihghhleoaa
