/- limb.head: a program looked at, its operations aside. -/
import Derived.Test.YtppoiahhaclleaaDoorLimbH
namespace Go.Proofs.YtppoiahhaclleaaDoor
open Go.RowKit

def big1 (b : Bf) : Bool := decide (65536 < b.size)
def bad1 (b : Bf) : Bool := decide (b.size < 1) || (decide (b.kind < 1) || decide (3 < b.kind))
set_option maxHeartbeats 800000 in
theorem head1_any (b : Bf) (w : World) : Calls Tryd.prog 64 #[.agg #[.int .i64 b.size, .int .i64 b.kind, .bool b.secret]] w fun e w' => e = .returned (.bool (big1 b)) ∧ Below w.heap.size w w' := by
  obtain ⟨W, hW, hbW, hzW, hcW, _⟩ := boxed w #[.int .i64 b.size, .int .i64 b.kind, .bool b.secret] 60
  have c0 : W.cell? ⟨w.heap.size, 0, none⟩ = some (.int .i64 b.size) := by rw [hcW]; rfl
  have c1 : W.cell? ⟨w.heap.size, 1, none⟩ = some (.int .i64 b.kind) := by rw [hcW]; rfl
  have HW := Lib.hid hW
  have HB := Lib.hid hbW
  clear hW hbW hzW hcW
  obtain ⟨z, hz⟩ : ∃ z, b.size = z := ⟨_, rfl⟩
  obtain ⟨k, hk⟩ : ∃ z, b.kind = z := ⟨_, rfl⟩
  rw [hz] at c0
  rw [hk] at c1
  have hv : big1 b = decide (65536 < z) := by unfold big1; rw [hz]
  rw [hv]
  clear hv c1 hz hk
  go_enter Tryd.func64, Tryd.ntmps64
  go_upto_region 1 with fail
  (first | rw [← hz, ← hk, ← HW.out] | rw [← HW.out])
  go_wp2
  go_ret
  exact ⟨rfl, HB.out⟩
set_option maxHeartbeats 800000 in
theorem head2_any (b : Bf) (w : World) : Calls Tryd.prog 65 #[.agg #[.int .i64 b.size, .int .i64 b.kind, .bool b.secret]] w fun e w' => e = .returned (.bool (bad1 b)) ∧ Below w.heap.size w w' := by
  obtain ⟨W, hW, hbW, hzW, hcW, _⟩ := boxed w #[.int .i64 b.size, .int .i64 b.kind, .bool b.secret] 60
  have c0 : W.cell? ⟨w.heap.size, 0, none⟩ = some (.int .i64 b.size) := by rw [hcW]; rfl
  have c1 : W.cell? ⟨w.heap.size, 1, none⟩ = some (.int .i64 b.kind) := by rw [hcW]; rfl
  have HW := Lib.hid hW
  have HB := Lib.hid hbW
  clear hW hbW hzW hcW
  obtain ⟨z, hz⟩ : ∃ z, b.size = z := ⟨_, rfl⟩
  obtain ⟨k, hk⟩ : ∃ z, b.kind = z := ⟨_, rfl⟩
  rw [hz] at c0
  rw [hk] at c1
  have hv : bad1 b = (decide (z < 1) || (decide (k < 1) || decide (3 < k))) := by unfold bad1; rw [hz, hk]
  rw [hv]
  clear hv hz hk
  cases d1 : decide (z < 1)
  · cases d2 : decide (k < 1)
    · cases d3 : decide (3 < k)
      · go_enter Tryd.func65, Tryd.ntmps65
        go_upto_region 1 with fail
        (first | rw [← hz, ← hk, ← HW.out] | rw [← HW.out])
        go_wp2
        go_ret
        exact ⟨rfl, HB.out⟩
      · go_enter Tryd.func65, Tryd.ntmps65
        go_upto_region 1 with fail
        (first | rw [← hz, ← hk, ← HW.out] | rw [← HW.out])
        go_wp2
        go_ret
        exact ⟨rfl, HB.out⟩
    · go_enter Tryd.func65, Tryd.ntmps65
      go_upto_region 1 with fail
      (first | rw [← hz, ← hk, ← HW.out] | rw [← HW.out])
      go_wp2
      go_ret
      exact ⟨rfl, HB.out⟩
  · go_enter Tryd.func65, Tryd.ntmps65
    go_upto_region 1 with fail
    (first | rw [← hz, ← hk, ← HW.out] | rw [← HW.out])
    go_wp2
    go_ret
    exact ⟨rfl, HB.out⟩

set_option maxRecDepth 100000 in
set_option maxHeartbeats 4000000 in
theorem head_any (p : LP) (Ab Ao : Option Addr) (nb cb no co : Nat) (w : World) (hp : ProgAt w (fun k => k < w.heap.size) [.int .i64 p.regs, .slice Ab nb cb, .slice Ao no co] p) :
    Calls Tryd.prog 48 #[.agg #[.int .i64 p.regs, .slice Ab nb cb, .slice Ao no co]] w fun e w' => e = .returned (.int .i64 (headF p)) ∧ Below w.heap.size w w' := by
  obtain ⟨W, hW, hbW, hzW, hcW, _⟩ := boxed w #[.int .i64 p.regs, .slice Ab nb cb, .slice Ao no co] 25
  have c0 : W.cell? ⟨w.heap.size, 0, none⟩ = some (.int .i64 p.regs) := by rw [hcW]; rfl
  have c1 : W.cell? ⟨w.heap.size, 1, none⟩ = some (.slice Ab nb cb) := by rw [hcW]; rfl
  have c2 : W.cell? ⟨w.heap.size, 2, none⟩ = some (.slice Ao no co) := by rw [hcW]; rfl
  have hlt : w.heap.size < W.heap.size := by omega
  obtain ⟨hBuf, hOps⟩ : BufsAt w (fun k => k < w.heap.size) (.slice Ab nb cb) p.bufs ∧ OpsAt w (fun k => k < w.heap.size) (.slice Ao no co) p.ops := by
    obtain ⟨vb, vo, h, h1, h2⟩ := hp.row
    simp only [List.cons.injEq] at h
    rw [h.2.1, h.2.2.1]; exact ⟨h1, h2⟩
  have hnb : p.bufs.length = nb := by obtain ⟨A, c, hv, _⟩ := rows_form hBuf; cases hv; rfl
  have hno : p.ops.length = no := by obtain ⟨A, c, hv, _⟩ := rows_form hOps; cases hv; rfl
  have hB1 : ∀ wr, Below w.heap.size w wr → BufsAt wr (fun k => k < w.heap.size) (.slice Ab nb cb) p.bufs := fun wr hb => Rows.keep hBuf (SameOn.of_below hb fun _ h => h)
  have HC1 := Lib.hid (fun wr (hb : Below w.heap.size w wr) => ContainsFunc_Bf (.slice Ab nb cb) 64 #[] wr _ p.bufs big1 hp.nb (fun _ _ => rfl) (hB1 wr hb) (fun k hk => Nat.lt_of_lt_of_le hk hb.size) (fun r _ w2 _ => head1_any r w2))
  have HC2 := Lib.hid (fun wr (hb : Below w.heap.size w wr) => ContainsFunc_Bf (.slice Ab nb cb) 65 #[] wr _ p.bufs bad1 hp.nb (fun _ _ => rfl) (hB1 wr hb) (fun k hk => Nat.lt_of_lt_of_le hk hb.size) (fun r _ w2 _ => head2_any r w2))
  have HW := Lib.hid hW
  have HB := Lib.hid hbW
  have HL := Lib.hid (And.intro hnb hno)
  obtain ⟨r, hr⟩ : ∃ r, p.regs = r := ⟨_, rfl⟩
  obtain ⟨x1, hx1⟩ : ∃ x, p.bufs.any big1 = x := ⟨_, rfl⟩
  obtain ⟨x2, hx2⟩ : ∃ x, p.bufs.any bad1 = x := ⟨_, rfl⟩
  have hv : headF p = if 64 < r ∨ 32 < nb ∨ 65536 < no then 3 else if x1 = true then 3 else if r < 0 ∨ x2 = true then 2 else 0 := by
    unfold headF; rw [hr, hnb, hno, ← hx1, ← hx2]; rfl
  have HV := Lib.hid hv
  rw [hx1] at HC1
  rw [hx2] at HC2
  have HCA := Lib.hid (HC1.out W hbW)
  rw [hr] at c0 HW
  have HR := Lib.hid hr
  have HLT := Lib.hid hlt
  clear hW hbW hzW hcW hBuf hOps hB1 hnb hno hp hx1 hx2 hv HC1 hlt
  rw [hr]
  clear hr
  by_cases m1 : 64 < r
  · have HV := Lib.hid (HV.out.trans (if_pos (.inl m1)))
    have d1 : decide ((64 : Int) < r) = true := decide_eq_true m1
    clear m1
    go_enter Tryd.func48, Tryd.ntmps48
    go_upto_region 1 with fail
    rw [← HW.out]
    go_wp2
    go_ret
    rw [HV.out]
    exact ⟨rfl, HB.out⟩
  have d1 : decide ((64 : Int) < r) = false := decide_eq_false m1
  by_cases m2 : 32 < nb
  · have HV := Lib.hid (HV.out.trans (if_pos (.inr (.inl m2))))
    have d2 : decide ((32 : Int) < (nb : Int)) = true := decide_eq_true (by omega)
    clear m1 m2
    go_enter Tryd.func48, Tryd.ntmps48
    go_upto_region 1 with fail
    rw [← HW.out]
    go_wp2
    go_ret
    rw [HV.out]
    exact ⟨rfl, HB.out⟩
  have d2 : decide ((32 : Int) < (nb : Int)) = false := decide_eq_false (by omega)
  by_cases m3 : 65536 < no
  · have HV := Lib.hid (HV.out.trans (if_pos (.inr (.inr m3))))
    have d3 : decide ((65536 : Int) < (no : Int)) = true := decide_eq_true (by omega)
    clear m1 m2 m3
    go_enter Tryd.func48, Tryd.ntmps48
    go_upto_region 1 with fail
    rw [← HW.out]
    go_wp2
    go_ret
    rw [HV.out]
    exact ⟨rfl, HB.out⟩
  have d3 : decide ((65536 : Int) < (no : Int)) = false := decide_eq_false (by omega)
  have HV := Lib.hid (HV.out.trans (if_neg (by omega)))
  clear m1 m2 m3
  cases x1
  rotate_left
  · go_enter Tryd.func48, Tryd.ntmps48
    go_upto_region 1 with fail
    rw [← HW.out]
    go_wp2_with ((with_reducible refine (HCA.out).mono ?_); rintro e w1 ⟨rfl, hb1⟩)
    go_ret
    rw [HV.out]
    exact ⟨rfl, HB.out.trans (hb1.mono HB.out.size)⟩
  have HV := Lib.hid (HV.out.trans (if_neg (by decide)))
  go_enter Tryd.func48, Tryd.ntmps48
  go_upto_region 1 with fail
  rw [← HW.out]
  go_upto_region 5 with ((with_reducible refine (HCA.out).mono ?_); rintro e w1 ⟨rfl, hb1⟩)
  have HCB := Lib.hid (HC2.out w1 (HB.out.trans (hb1.mono HB.out.size)))
  have HB1 := Lib.hid (HB.out.trans (hb1.mono HB.out.size))
  have e0 := (hb1.cell (p := ⟨w.heap.size, 0, none⟩) HLT.out).trans c0
  have e1 := (hb1.cell (p := ⟨w.heap.size, 1, none⟩) HLT.out).trans c1
  clear hb1 c0 c1 c2
  by_cases m4 : r < 0
  · have HV := Lib.hid (HV.out.trans (if_pos (.inl m4)))
    have d4 : decide (r < (0 : Int)) = true := decide_eq_true m4
    clear m4
    go_wp2
    go_ret
    rw [HV.out]
    exact ⟨rfl, HB1.out⟩
  have d4 : decide (r < (0 : Int)) = false := decide_eq_false m4
  cases x2
  · have HV := Lib.hid (HV.out.trans (if_neg (by simp [m4])))
    clear m4
    go_wp2_with ((with_reducible refine (HCB.out).mono ?_); rintro e w2 ⟨rfl, hb2⟩)
    go_ret
    rw [HV.out]
    exact ⟨rfl, HB1.out.trans (hb2.mono HB1.out.size)⟩
  · have HV9 := Lib.hid (show headF p = 2 from HV.out.trans (if_pos (.inr rfl)))
    clear m4 HV
    go_wp2_with ((with_reducible refine (HCB.out).mono ?_); rintro e w2 ⟨rfl, hb2⟩)
    go_ret
    rw [HV9.out]
    exact ⟨rfl, HB1.out.trans (hb2.mono HB1.out.size)⟩
end Go.Proofs.YtppoiahhaclleaaDoor
