/- package inst: the forms, and what reads them. -/
import Derived.Test.YtmanhikpccnfaaaGreatWordsA
import Derived.Test.YtmanhikpccnfaaaGreatPlainStep
import Derived.Laws.Rows
import Derived.Deep.WholeRow
import Derived.Deep.DeepCutAuto
import Derived.Outline
namespace Go.Proofs.YtmanhikpccnfaaaGreat
open Go.RowKit

/-- What an operation is like. -/
structure FormX where
  name : List UInt8
  is : Nat
  reads : Nat
  writes : Nat
def formsL : List FormX := [
  ⟨[], 0, 0, 0⟩,
  ⟨[109, 111, 118], 131, 0, 0⟩,
  ⟨[109, 111, 118], 161, 0, 0⟩,
  ⟨[109, 111, 118], 137, 0, 0⟩,
  ⟨[109, 111, 118], 10, 0, 0⟩,
  ⟨[108, 101, 97], 137, 0, 0⟩,
  ⟨[97, 100, 100], 387, 0, 7⟩,
  ⟨[97, 100, 99], 387, 1, 7⟩,
  ⟨[115, 117, 98], 387, 0, 7⟩,
  ⟨[115, 98, 98], 387, 1, 7⟩,
  ⟨[97, 110, 100], 387, 0, 7⟩,
  ⟨[111, 114], 387, 0, 7⟩,
  ⟨[120, 111, 114], 387, 0, 7⟩,
  ⟨[99, 109, 112], 259, 0, 7⟩,
  ⟨[116, 101, 115, 116], 259, 0, 7⟩,
  ⟨[97, 100, 100], 401, 0, 7⟩,
  ⟨[97, 110, 100], 401, 0, 7⟩,
  ⟨[115, 117, 98], 401, 0, 7⟩,
  ⟨[99, 109, 112], 273, 0, 7⟩,
  ⟨[109, 117, 108, 120], 135, 0, 0⟩,
  ⟨[97, 100, 99, 120], 387, 1, 1⟩,
  ⟨[97, 100, 111, 120], 387, 2, 2⟩,
  ⟨[110, 101, 103], 385, 0, 7⟩,
  ⟨[110, 111, 116], 385, 0, 0⟩,
  ⟨[115, 104, 108], 449, 0, 5⟩,
  ⟨[115, 104, 114], 449, 0, 5⟩,
  ⟨[99, 109, 111, 118, 99], 387, 1, 0⟩,
  ⟨[99, 109, 111, 118, 110, 122], 387, 4, 0⟩,
  ⟨[112, 117, 115, 104], 514, 0, 0⟩,
  ⟨[112, 111, 112], 641, 0, 0⟩,
  ⟨[106, 109, 112], 16, 0, 0⟩,
  ⟨[106, 110, 122], 16, 4, 0⟩,
  ⟨[106, 99], 16, 1, 0⟩,
  ⟨[114, 101, 116], 512, 0, 0⟩]
def noForm : FormX := ⟨[], 0, 0, 0⟩
def formRow (f : FormX) : List Value := [.string ⟨f.name.toArray⟩, .int .i64 f.is, .int .i64 f.reads, .int .i64 f.writes]
def formV (f : FormX) : Value := .agg (formRow f).toArray
def formF (op : Int) : FormX := if op < 0 then noForm else formsL.getD op.toNat noForm
def formCells : List Value := formsL.flatMap formRow

theorem Below.setRow {b : Nat} {w w' : World} (h : Below b w w') {g : Nat} (hg : b ≤ g) (cs : Array Value) : Below b w (w'.setRow g cs) :=
  ⟨h.os, h.tape, h.output, by rw [show (w'.setRow g cs).heap.size = w'.heap.size by simp [World.setRow]]; exact h.size, fun k hk => by rw [setRow_other _ _ _ _ (by omega)]; exact h.block k hk⟩

theorem info34 : (Tryz.prog.info? 123).map (fun i => (i.zero, i.size)) = some (some (.agg ((List.replicate 34 (formRow noForm)).flatten.toArray)), 136) := by kernel_rfl

set_option maxRecDepth 100000 in
set_option maxHeartbeats 800000 in
theorem forms_any (w : World) : Calls Tryz.prog 81 #[] w fun e w' => e = .returned (.agg formCells.toArray) ∧ Below w.heap.size w w' := by
  obtain ⟨hz, hs⟩ := zero_of_info info34
  generalize hzc : ((List.replicate 34 (formRow noForm)).flatten.toArray) = zc at *
  have HZ := Lib.hid hzc
  have hsz : zc.size = 136 := by rw [← hzc]; rfl
  have HSZ := Lib.hid hsz
  clear hzc hsz
  go_enter Tryz.func81, Tryz.ntmps81
  go_wp2_with (first | (refine wpList_build rfl 123 _ rfl (by as_aux_lemma => kernel_rfl) ?_) | (refine wpList_store_row rfl 123 _ _ rfl w.heap.size _ rfl rfl 123 zc (heap_alloc_new w _) (by as_aux_lemma => kernel_rfl) (by rw [HSZ.out]; as_aux_lemma => kernel_rfl) (by as_aux_lemma => kernel_rfl) ?_))
  refine bodyPost_ret (results_cell_row (ty := 123) rfl _ _ w.heap.size 123 _ (0, 0) _ rfl (setRow_heap _ _ _ _ _ _ (heap_alloc_new w _)) Tryz.underlying123 rfl (by as_aux_lemma => kernel_rfl)) rfl ⟨congrArg (fun c => Ending.returned (Value.agg c)) (by as_aux_lemma => kernel_rfl), ?_⟩
  exact Below.setRow ((Below.refl _ _).alloc (Nat.le_refl _) _) (Nat.le_refl _) _

theorem flat_row (L : List FormX) : ∀ (o j : Nat), j < 4 → (L.flatMap formRow)[o * 4 + j]? = (L[o]?).bind (fun f => (formRow f)[j]?) := by
  induction L with
  | nil => intro o j _; simp
  | cons f fs ih =>
    intro o j hj
    rw [List.flatMap_cons]
    cases o with
    | zero => rw [Nat.zero_mul, Nat.zero_add, List.getElem?_append_left (by simpa [formRow] using hj)]; rfl
    | succ o =>
      rw [List.getElem?_append_right (by simp [formRow]; omega), show (o + 1) * 4 + j - (formRow f).length = o * 4 + j by simp [formRow]; omega, ih o j hj]; rfl
theorem formCell (op : Nat) (h : op < 34) (j : Nat) (hj : j < 4) : formCells[op * 4 + j]? = (formRow (formF op))[j]? := by
  have h0 : ¬ ((op : Int) < 0) := by omega
  have h1 : formF (op : Int) = formsL.getD op noForm := by unfold formF; rw [if_neg h0]; rfl
  have hl : op < formsL.length := h
  rw [formCells, flat_row _ _ _ hj, h1, List.getD_eq_getElem?_getD, List.getElem?_eq_getElem hl]; rfl
theorem formF_out (op : Int) (h : op < 0 ∨ 34 ≤ op) : formF op = noForm := by
  unfold formF
  split
  · rfl
  · rw [List.getD_eq_getElem?_getD, List.getElem?_eq_none]; rfl
    have hl : formsL.length = 34 := rfl
    omega

end Go.Proofs.YtmanhikpccnfaaaGreat
