/- package inst: of, has, number, small, register, place. -/
import Derived.Test.YtmanhikpccnfaaaGreatInstA
import Derived.Outline
namespace Go.Proofs.YtmanhikpccnfaaaGreat
open Go.RowKit

theorem forms_one : formCells.toArray.all (·.oneCell') = true := by kernel_rfl
theorem formV_one (f : FormX) : (formRow f).toArray.all (·.oneCell') = true := by simp [formRow, Value.oneCell']

theorem zrow {w w2 : World} {cs : Array Value} {t1 : Nat} (hb : Below (w.alloc (.cells cs t1)).heap.size (w.alloc (.cells cs t1)) w2) (j : Nat) : w2.cell? ⟨w.heap.size, j, none⟩ = cs[j]? := by
  rw [hb.cell (p := ⟨w.heap.size, j, none⟩) (by simp), World.cell?_alloc_at _ _ _ _ rfl]
theorem zfree {w w2 : World} {cs : Array Value} {t1 : Nat} (hb : Below (w.alloc (.cells cs t1)).heap.size (w.alloc (.cells cs t1)) w2) (j : Nat) : w2.frozen? ⟨w.heap.size, j, none⟩ = false := by
  rw [hb.frozen (p := ⟨w.heap.size, j, none⟩) (by simp)]
  exact frozen_of_row _ _ _ _ _ (heap_alloc_new w _)

theorem zset {w w2 : World} {p q r s : Value} {t1 : Nat} (hb : Below (w.alloc (.cells #[p, q, r, s] t1)).heap.size (w.alloc (.cells #[p, q, r, s] t1)) w2) (o : Obj) (a b c d : Value) :
    (((((w2.setCell ⟨w.heap.size, 0, none⟩ a).setCell ⟨w.heap.size, 1, none⟩ b).setCell ⟨w.heap.size, 2, none⟩ c).setCell ⟨w.heap.size, 3, none⟩ d).alloc o).heap[w.heap.size]? = some (.cells #[a, b, c, d] t1 (0, 0)) ∧
    Below w.heap.size w (((((w2.setCell ⟨w.heap.size, 0, none⟩ a).setCell ⟨w.heap.size, 1, none⟩ b).setCell ⟨w.heap.size, 2, none⟩ c).setCell ⟨w.heap.size, 3, none⟩ d).alloc o) := by
  have hs := hb.size
  simp at hs
  have h0 : w2.heap[w.heap.size]? = some (.cells #[p, q, r, s] t1 (0, 0)) := (hb.block _ (by simp)).trans (heap_alloc_new w _)
  have h1 := heap_setCell_same w2 w.heap.size 0 _ t1 a h0
  have h2 := heap_setCell_same _ w.heap.size 1 _ t1 b h1
  have h3 := heap_setCell_same _ w.heap.size 2 _ t1 c h2
  have h4 := heap_setCell_same _ w.heap.size 3 _ t1 d h3
  have hz : ((((w2.setCell ⟨w.heap.size, 0, none⟩ a).setCell ⟨w.heap.size, 1, none⟩ b).setCell ⟨w.heap.size, 2, none⟩ c).setCell ⟨w.heap.size, 3, none⟩ d).heap.size = w2.heap.size := by simp [World.setCell]
  refine ⟨?_, (((((((Below.refl _ _).alloc (Nat.le_refl _) _).trans (hb.mono (by simp))).setCell (Nat.le_refl _) _).setCell (Nat.le_refl _) _).setCell (Nat.le_refl _) _).setCell (Nat.le_refl _) _).alloc (by omega) _⟩
  rw [Below.heap_alloc _ _ _ (by omega), h4]; rfl

set_option maxRecDepth 100000 in
set_option maxHeartbeats 800000 in
theorem of_form (w : World) (op : Int) : Calls Tryz.prog 60 #[.int .i64 op] w fun e w' => e = .returned (formV (formF op)) ∧ Below w.heap.size w w' := by
  obtain ⟨hz, hs⟩ := zero_of_info info34
  generalize hzc : ((List.replicate 34 (formRow noForm)).flatten.toArray) = zc at *
  have hsz : zc.size = 136 := by rw [← hzc]; rfl
  have HSZ := Lib.hid hsz
  have hcs : formCells.toArray.size = 136 := by simp [formCells]; rfl
  have HI := Lib.hid (show (Tryz.prog.info? 123).map (·.size) = some formCells.toArray.size by rw [hcs]; exact hs)
  have HCS := Lib.hid hcs
  have HF := Lib.hid (fun w => forms_any w)
  have hst := fun w => run_storeCells_new (P := Tryz.prog) w 123 zc formCells.toArray (show (Tryz.prog.info? 123).map (·.size) = some formCells.toArray.size by rw [hcs]; exact hs) (by rw [hsz, hcs]) forms_one
  have cells : ∀ (w3 : World) (g : Nat), w3.heap[g]? = some (.cells formCells.toArray 123 (0, 0)) → ∀ n j : Nat, n < 34 → j < 4 → w3.cell? ⟨g, n * 4 + j, none⟩ = (formRow (formF n))[j]? := fun w3 g h n j hn hj => by
    rw [cell_of_row w3 g _ _ _ _ h, List.getElem?_toArray, formCell n hn j hj]
  have HCE := Lib.hid cells
  clear hzc hsz hcs cells
  generalize formCells.toArray = fc at *
  by_cases h0 : op < 0 ∨ 34 ≤ op
  · have HE := Lib.hid (formF_out op h0)
    by_cases hlo : op < 0
    · have d2 : decide (op < 0) = true := by simpa using hlo
      clear h0
      go_enter Tryz.func60, Tryz.ntmps60
      go_wp2_with ((with_reducible refine (HF.out _).mono ?_); rintro e w2 ⟨rfl, hb2⟩; have hlt2 : w.heap.size < w2.heap.size := (by have := hb2.size; simp at this; omega); have z0 := zrow hb2 0; have z1 := zrow hb2 1; have z2 := zrow hb2 2; have z3 := zrow hb2 3; have y0 := zfree hb2 0; have y1 := zfree hb2 1; have y2 := zfree hb2 2; have y3 := zfree hb2 3; simp only [List.getElem?_toArray, List.getElem?_cons_zero, List.getElem?_cons_succ] at z0 z1 z2 z3; have HB2 := Lib.hid hb2; have hce := HCE.out (w2.alloc (.cells fc 123)) w2.heap.size (heap_alloc_new w2 _); have HC3 := Lib.hid hce; clear hb2 hce; skip)
      refine bodyPost_ret (results_cell_row (ty := 99) rfl _ _ w.heap.size 99 _ (0, 0) _ rfl (zset HB2.out _ _ _ _ _).1 Tryz.underlying99 rfl (by as_aux_lemma => kernel_rfl)) rfl ⟨?_, (zset HB2.out _ _ _ _ _).2⟩
      rw [HE.out]; rfl
    · have d2 : decide (op < 0) = false := by simpa using hlo
      have d3 : decide (34 ≤ op) = true := by simp; omega
      clear h0
      go_enter Tryz.func60, Tryz.ntmps60
      go_wp2_with ((with_reducible refine (HF.out _).mono ?_); rintro e w2 ⟨rfl, hb2⟩; have hlt2 : w.heap.size < w2.heap.size := (by have := hb2.size; simp at this; omega); have z0 := zrow hb2 0; have z1 := zrow hb2 1; have z2 := zrow hb2 2; have z3 := zrow hb2 3; have y0 := zfree hb2 0; have y1 := zfree hb2 1; have y2 := zfree hb2 2; have y3 := zfree hb2 3; simp only [List.getElem?_toArray, List.getElem?_cons_zero, List.getElem?_cons_succ] at z0 z1 z2 z3; have HB2 := Lib.hid hb2; have hce := HCE.out (w2.alloc (.cells fc 123)) w2.heap.size (heap_alloc_new w2 _); have HC3 := Lib.hid hce; clear hb2 hce; skip)
      refine bodyPost_ret (results_cell_row (ty := 99) rfl _ _ w.heap.size 99 _ (0, 0) _ rfl (zset HB2.out _ _ _ _ _).1 Tryz.underlying99 rfl (by as_aux_lemma => kernel_rfl)) rfl ⟨?_, (zset HB2.out _ _ _ _ _).2⟩
      rw [HE.out]; rfl
  · obtain ⟨n, rfl⟩ : ∃ n : Nat, op = n := ⟨op.toNat, by omega⟩
    have hn : n < 34 := by omega
    have i0 : (0 : Int) ≤ (n : Int) := by omega
    have i1 : (n : Int) < 34 := by omega
    have d2 : decide ((n : Int) < 0) = false := by simp
    have d3 : decide (34 ≤ (n : Int)) = false := by simp; omega
    clear h0
    go_enter Tryz.func60, Tryz.ntmps60
    go_wp2_with ((with_reducible refine (HF.out _).mono ?_); rintro e w2 ⟨rfl, hb2⟩; have hlt2 : w.heap.size < w2.heap.size := (by have := hb2.size; simp at this; omega); have z0 := zrow hb2 0; have z1 := zrow hb2 1; have z2 := zrow hb2 2; have z3 := zrow hb2 3; have y0 := zfree hb2 0; have y1 := zfree hb2 1; have y2 := zfree hb2 2; have y3 := zfree hb2 3; simp only [List.getElem?_toArray, List.getElem?_cons_zero, List.getElem?_cons_succ] at z0 z1 z2 z3; have HB2 := Lib.hid hb2; have hce := HCE.out (w2.alloc (.cells fc 123)) w2.heap.size (heap_alloc_new w2 _); have HC3 := Lib.hid hce; clear hb2 hce; have c0 := HC3.out n 0 hn (by decide); have c1 := HC3.out n 1 hn (by decide); have c2 := HC3.out n 2 hn (by decide); have c3 := HC3.out n 3 hn (by decide); simp only [formRow, List.getElem?_cons_zero, List.getElem?_cons_succ, Nat.add_zero] at c0 c1 c2 c3)
    refine bodyPost_ret (results_cell_row (ty := 99) rfl _ _ w.heap.size 99 _ (0, 0) _ rfl (zset HB2.out _ _ _ _ _).1 Tryz.underlying99 rfl (by as_aux_lemma => kernel_rfl)) rfl ⟨?_, (zset HB2.out _ _ _ _ _).2⟩
    rfl
end Go.Proofs.YtmanhikpccnfaaaGreat
