/- limb's checker: put, lacks, in. -/
import Derived.Test.YtppoiahhaclleaaDoorIdx14
import Derived.Test.YtppoiahhaclleaaDoorInts14
namespace Go.Proofs.YtppoiahhaclleaaDoor
open Go.RowKit

/-- A checker's cells. -/
def chkRow (regs : Int) (vb vo : Value) (m : List Bool) (vl : Value) : List Value := [.int .i64 regs, vb, vo] ++ (m.map Value.bool ++ [vl])
theorem setCell_row {w : World} {b ty : Nat} {row : List Value} (h : w.heap[b]? = some (.cells row.toArray ty (0, 0))) (k : Nat) (v : Value) : (w.setCell ⟨b, k, none⟩ v).heap[b]? = some (.cells (row.set k v).toArray ty (0, 0)) := by
  rw [World.setCell]
  simp only [Array.getElem?_modify, if_pos, h, Option.map_some]
  simp
theorem cell_row {w : World} {b ty : Nat} {row : List Value} (h : w.heap[b]? = some (.cells row.toArray ty (0, 0))) {k : Nat} {v : Value} (hv : row[k]? = some v) : w.cell? ⟨b, k, none⟩ = some v := by
  simp only [World.cell?, h]
  simpa using hv
theorem frozen_row {w : World} {b ty : Nat} {row : List Value} (h : w.heap[b]? = some (.cells row.toArray ty (0, 0))) (k : Nat) : w.frozen? ⟨b, k, none⟩ = false := by simp [World.frozen?, h]
theorem chk_made {regs : Int} {vb vo vl : Value} {m : List Bool} {q : Nat} {x : Bool} (h : m[q]? = some x) : (chkRow regs vb vo m vl)[3 + q]? = some (.bool x) := by
  unfold chkRow
  have hq := (List.getElem?_eq_some_iff.1 h).1
  rw [List.getElem?_append_right (by simp), List.getElem?_append_left (by simp; omega)]
  simp [h]
theorem chk_set {regs : Int} {vb vo vl : Value} {m : List Bool} {q : Nat} (is : Bool) (h : q < m.length) : (chkRow regs vb vo m vl).set (3 + q) (.bool is) = chkRow regs vb vo (m.set q is) vl := by
  unfold chkRow
  rw [List.set_append_right _ _ (by simp), List.set_append_left _ _ (by simp; omega)]
  simp [List.map_set]
theorem chk_loops {regs : Int} {vb vo vl : Value} {m : List Bool} (hm : m.length = 64) : (chkRow regs vb vo m vl)[67]? = some vl := by
  unfold chkRow
  rw [List.getElem?_append_right (by simp), List.getElem?_append_right (by simp; omega)]
  simp [hm]
theorem chk_setL {regs : Int} {vb vo vl : Value} {m : List Bool} (v : Value) (hm : m.length = 64) : (chkRow regs vb vo m vl).set 67 v = chkRow regs vb vo m v := by
  unfold chkRow
  rw [List.set_append_right _ _ (by simp), List.set_append_right _ _ (by simp; omega)]
  simp [hm]
def putL (l : List Int) (m : List Bool) (is : Bool) : List Bool := l.foldl (fun m r => putF m r is) m
theorem putL_len (l : List Int) (is : Bool) : ∀ m, (putL l m is).length = m.length := by
  induction l with
  | nil => intro m; rfl
  | cons r l ih => intro m; show (putL l (putF m r is) is).length = _; rw [ih, put_len]
theorem putL_take {l : List Int} {k : Nat} {r : Int} (h : l[k]? = some r) (m : List Bool) (is : Bool) : putL (l.take (k + 1)) m is = putF (putL (l.take k) m is) r is := by
  unfold putL
  rw [List.take_add_one, h, List.foldl_append]
  rfl

def ChkAt (w : World) (b : Nat) (regs : Int) (vb vo : Value) (m : List Bool) (vl : Value) : Prop := w.heap[b]? = some (.cells (chkRow regs vb vo m vl).toArray 95 (0, 0))

set_option maxRecDepth 100000 in
set_option maxHeartbeats 1600000 in
theorem put_any (b : Nat) (is : Bool) (v : Value) (l : List Int) (m : List Bool) (regs : Int) (vb vo vl : Value) (w : World) (F : Nat → Prop) (hm : m.length = 64) (hb : ChkAt w b regs vb vo m vl) (hl : NumsAt w F v l) (hF : ∀ k, F k → k < w.heap.size ∧ k ≠ b)
    (hr : ∀ r ∈ l, r < 64) (hn : l.length ≤ 9223372036854775807) :
    Calls Tryd.prog 67 #[.pointer (some ⟨b, 3, none⟩), .bool is, v] w fun e w' => e = .returned (.tuple #[]) ∧ Chg (fun k => k = b) w w' ∧ ChkAt w' b regs vb vo (putL l m is) vl := by
  obtain ⟨A, c, rfl, _⟩ := rows_form hl
  have HL := Lib.hid hl
  have HF := Lib.hid hF
  have HR := Lib.hid hr
  have HM := Lib.hid hm
  have HB := Lib.hid hb
  generalize hnl : l.length = n at *
  have HNL := Lib.hid hnl
  clear hl hF hr hm hb hnl
  go_enter Tryd.func67, Tryd.ntmps67
  go_wp2
  go_loopw [10] (fun i wr => ∃ k : Nat, k ≤ n ∧ i = .int .i64 k ∧ Chg (fun k => k = b) w wr ∧ ChkAt wr b regs vb vo (putL (l.take k) m is) vl) (fun i _ => n - (intOf i).toNat)
  case atStart => exact ⟨0, by omega, rfl, Chg.refl _ _, by simpa [putL] using HB.out⟩
  case round =>
    obtain ⟨k, hk, rfl, hch, hcb⟩ := hrel
    have HCH := Lib.hid hch
    have HCB := Lib.hid hcb
    clear hch hcb
    by_cases hlt : k < n
    · obtain ⟨r, hr⟩ : ∃ r, l[k]? = some r := ⟨_, List.getElem?_eq_getElem (by have := HNL.out; omega)⟩
      obtain ⟨g, off, rfl, hFb, h0⟩ := HL.out.at_ hr
      have g0 : wr.cell? ⟨g, off + k, none⟩ = some (.int .i64 r) := (World.cell?_of_block (w := w) (HCH.out.block g (HF.out g hFb).1 (HF.out g hFb).2)).trans h0
      have hr64 := HR.out r (List.mem_of_getElem? hr)
      have HT := Lib.hid (putL_take hr m is)
      have i0 : (0 : Int) ≤ (k : Int) := by omega
      have i1 : (k : Int) < (n : Int) := by omega
      clear h0 hr hFb
      by_cases r0 : 0 ≤ r
      · have d0 : decide ((0 : Int) ≤ r) = true := decide_eq_true r0
        obtain ⟨q, rfl⟩ : ∃ q : Nat, r = q := ⟨r.toNat, by omega⟩
        have hlen : (putL (l.take k) m is).length = 64 := by rw [putL_len]; exact HM.out
        obtain ⟨x, hx⟩ : ∃ x, (putL (l.take k) m is)[q]? = some x := ⟨_, List.getElem?_eq_getElem (by omega)⟩
        have b0 : wr.cell? ⟨b, 3 + q, none⟩ = some (.bool x) := cell_row HCB.out (chk_made hx)
        have f0 : wr.frozen? ⟨b, 3 + q, none⟩ = false := frozen_row HCB.out _
        have HN := Lib.hid (show ChkAt (wr.setCell ⟨b, 3 + q, none⟩ (.bool is)) b regs vb vo (putL (l.take (k + 1)) m is) vl by
          have := setCell_row HCB.out (3 + q) (.bool is)
          rw [chk_set is (by omega)] at this
          rw [HT.out]
          unfold putF
          rw [if_pos (by omega), Int.toNat_natCast]
          exact this)
        have q0 : (0 : Int) ≤ (q : Int) := by omega
        have q1 : (q : Int) < 64 := by omega
        clear hx hlen r0 hr64
        go_wp2
        go_roundw
        case rel => exact ⟨k + 1, by omega, by go_num, HCH.out.setCell (.inl rfl) _, HN.out⟩
        case measure => simp [intOf]; omega
      · have d0 : decide ((0 : Int) ≤ r) = false := decide_eq_false r0
        have HN := Lib.hid (show ChkAt wr b regs vb vo (putL (l.take (k + 1)) m is) vl by
          rw [HT.out]
          unfold putF
          rw [if_neg r0]
          exact HCB.out)
        clear r0
        go_wp2
        go_roundw
        case rel => exact ⟨k + 1, by omega, by go_num, HCH.out, HN.out⟩
        case measure => simp [intOf]; omega
    · go_wp2
      refine bodyPost_end (v := .tuple #[]) (results_none rfl _ _ _) rfl ?_
      refine ⟨rfl, HCH.out, ?_⟩
      have := HCB.out
      rwa [List.take_of_length_le (by have := HNL.out; omega)] at this

set_option maxRecDepth 100000 in
set_option maxHeartbeats 1600000 in
theorem lacks1_any (r : Int) (g o : Nat) (m : List Bool) (w : World) (hm : m.length = 64) (hc : ∀ (q : Nat) (x : Bool), m[q]? = some x → w.cell? ⟨g, o + q, none⟩ = some (.bool x)) (hr : r < 64) :
    Calls Tryd.prog 81 #[.int .i64 r, .pointer (some ⟨g, o, none⟩)] w fun e w' => e = .returned (.bool (lackF m r)) ∧ Below w.heap.size w w' := by
  by_cases r0 : 0 ≤ r
  · have d0 : decide ((0 : Int) ≤ r) = true := decide_eq_true r0
    obtain ⟨q, rfl⟩ : ∃ q : Nat, r = q := ⟨r.toNat, by omega⟩
    obtain ⟨x, hx⟩ : ∃ x, m[q]? = some x := ⟨_, List.getElem?_eq_getElem (by omega)⟩
    have b0 := hc q x hx
    have hv : lackF m q = !x := by
      unfold lackF madeF
      rw [decide_eq_true r0, Int.toNat_natCast, List.getD_eq_getElem?_getD, hx]
      rfl
    rw [hv]
    have q0 : (0 : Int) ≤ (q : Int) := by omega
    have q1 : (q : Int) < 64 := by omega
    clear hx hc hv r0 hr hm
    cases x
    · go_enter Tryd.func81, Tryd.ntmps81
      go_wp2
      go_ret
      exact ⟨rfl, Below.refl _ _⟩
    · go_enter Tryd.func81, Tryd.ntmps81
      go_wp2
      go_ret
      exact ⟨rfl, Below.refl _ _⟩
  · have d0 : decide ((0 : Int) ≤ r) = false := decide_eq_false r0
    have hv : lackF m r = false := by unfold lackF; rw [d0]; rfl
    rw [hv]
    clear hv r0 hr hm hc
    go_enter Tryd.func81, Tryd.ntmps81
    go_wp2
    go_ret
    exact ⟨rfl, Below.refl _ _⟩

set_option maxRecDepth 100000 in
set_option maxHeartbeats 1600000 in
theorem lacks_any (m : List Bool) (v : Value) (l : List Int) (w : World) (F : Nat → Prop) (hm : m.length = 64) (hl : NumsAt w F v l) (hF : ∀ k, F k → k < w.heap.size) (hr : ∀ r ∈ l, r < 64) (hn : l.length ≤ 9223372036854775807) :
    Calls Tryd.prog 69 #[.agg (m.map Value.bool).toArray, v] w fun e w' => e = .returned (.bool (l.any (lackF m))) ∧ Below w.heap.size w w' := by
  obtain ⟨W, hW, hbW, hzW, hcW, hoW⟩ := boxed w (m.map Value.bool).toArray 93
  have HC := Lib.hid (ContainsFunc_Int v 81 #[.pointer (some ⟨w.heap.size, 0, none⟩)] W F l (lackF m) hn (fun _ _ => rfl) (Rows.keep hl (SameOn.of_below hbW hF)) (fun k hk => Nat.lt_of_lt_of_le (hF k hk) hbW.size)
    (fun r hr' wr hb => lacks1_any r w.heap.size 0 m wr hm (fun q x hx => by
      rw [hb.cell (p := ⟨w.heap.size, 0 + q, none⟩) (show w.heap.size < W.heap.size by omega)]
      rw [Nat.zero_add, hcW]
      simp [hx]) (hr r hr')))
  have HW := Lib.hid hW
  have HB := Lib.hid hbW
  clear hW hbW hzW hcW hoW hl hF hr hm hn
  obtain ⟨a, ha⟩ : ∃ a, (m.map Value.bool).toArray = a := ⟨_, rfl⟩
  rw [ha] at HW ⊢
  clear ha
  go_enter Tryd.func69, Tryd.ntmps69
  go_upto_region 1 with fail
  rw [← HW.out]
  go_wp2_with ((with_reducible refine (HC.out).mono ?_); rintro e w1 ⟨rfl, hb1⟩)
  go_ret
  exact ⟨rfl, HB.out.trans (hb1.mono HB.out.size)⟩

set_option maxRecDepth 100000 in
set_option maxHeartbeats 1600000 in
theorem in_any (b : Nat) (r : Int) (loops : List Int) (m : List Bool) (regs : Int) (vb vo vl : Value) (w : World) (F : Nat → Prop) (hm : m.length = 64) (hC : ChkAt w b regs vb vo m vl) (hl : NumsAt w F vl loops) (hn : loops.length ≤ 9223372036854775807) :
    Calls Tryd.prog 68 #[.pointer (some ⟨b, 0, none⟩), .int .i64 r] w fun e w' => e = .returned (.bool (inF loops r)) ∧ w = w' := by
  have HI := Lib.hid (Contains_int vl r w F loops hn hl)
  obtain ⟨A, c, rfl, _⟩ := rows_form hl
  have b0 : w.cell? ⟨b, 67, none⟩ = some (.slice A loops.length c) := cell_row hC (chk_loops hm)
  clear hm hC hl
  by_cases r0 : 0 ≤ r
  · have d0 : decide ((0 : Int) ≤ r) = true := decide_eq_true r0
    have hv : inF loops r = loops.contains r := by unfold inF; rw [d0]; rfl
    rw [hv]
    obtain ⟨q, hq⟩ : ∃ q, loops.contains r = q := ⟨_, rfl⟩
    rw [hq] at HI ⊢
    clear hv r0 hq
    go_enter Tryd.func68, Tryd.ntmps68
    go_wp2_with ((with_reducible refine (HI.out).mono ?_); rintro e w1 ⟨rfl, rfl⟩)
    go_ret
    exact ⟨rfl, rfl⟩
  · have d0 : decide ((0 : Int) ≤ r) = false := decide_eq_false r0
    have hv : inF loops r = false := by unfold inF; rw [d0]; rfl
    rw [hv]
    clear hv r0
    go_enter Tryd.func68, Tryd.ntmps68
    go_wp2
    go_ret
    exact ⟨rfl, rfl⟩
end Go.Proofs.YtppoiahhaclleaaDoor
