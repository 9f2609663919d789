/- AllocCalls: Spans, places and slots are told as the document says. -/
import Derived.Test.YtppoiahhaclleaaDoorWords14
import Derived.Test.YtppoiahhaclleaaDoorAc3
import Derived.Deep.Slices
import Derived.ProofKit
import Derived.Test.YtppoiahhaclleaaDoorAc2
import Derived.Test.YtppoiahhaclleaaDoorCards
import Derived.Test.YtppoiahhaclleaaDoorTie
import Derived.LaidMore
import Derived.Lib.LaidTab
import Derived.OpenShut
namespace Go.Proofs.YtppoiahhaclleaaDoor
open Go.RowKit

def slotsF (l : List Int) : Int := l.foldl (fun n p => max n (-p)) 0
theorem slots_snoc (l : List Int) {k : Nat} {p : Int} (h : l[k]? = some p) : slotsF (l.take (k + 1)) = max (slotsF (l.take k)) (-p) := by
  unfold slotsF; rw [List.take_add_one, h, Option.toList_some, List.foldl_append]; rfl
theorem slots_from (l : List Int) : ∀ n : Int, 0 ≤ n → 0 ≤ l.foldl (fun n p => max n (-p)) n := by
  induction l with
  | nil => exact fun n h => h
  | cons x l ih => exact fun n h => ih _ (show 0 ≤ max n (-x) by omega)
theorem slots_nn (l : List Int) : 0 ≤ slotsF l := slots_from l 0 (by omega)
theorem slots_up (l : List Int) (h : ∀ p ∈ l, -1099511627776 ≤ p) : ∀ n : Int, n ≤ 1099511627776 → l.foldl (fun n p => max n (-p)) n ≤ 1099511627776 := by
  induction l with
  | nil => exact fun n h => h
  | cons x l ih => exact fun n hn => ih (fun p hp => h p (List.mem_cons_of_mem _ hp)) _ (show max n (-x) ≤ 1099511627776 by have := h x (List.mem_cons_self); omega)
theorem slots_hi (l : List Int) (h : ∀ p ∈ l, -1099511627776 ≤ p) : slotsF l ≤ 1099511627776 := slots_up l h 0 (by omega)
theorem slots_take (l : List Int) (h : ∀ p ∈ l, -1099511627776 ≤ p) (k : Nat) : slotsF (l.take k) ≤ 1099511627776 := slots_hi _ fun p hp => h p (List.mem_of_mem_take hp)

set_option maxRecDepth 100000 in
set_option maxHeartbeats 1000000 in
theorem Slots_any (l : List Int) (A : Option Addr) (n c : Nat) (w : World) (hl : NumsAt w (fun k => k < w.heap.size) (.slice A n c) l) (h : ∀ p ∈ l, -1099511627776 ≤ p ∧ p ≤ 9223372036854775807) (hn : n ≤ 140737488355328) :
    Calls Tryd.prog 23 #[.slice A n c] w fun e w' => e = .returned (.int .i64 (slotsF l)) ∧ w = w' := by
  obtain rfl : l.length = n := by obtain ⟨A, c, h1, _⟩ := rows_form hl; cases h1; rfl
  go_enter Tryd.func23, Tryd.ntmps23
  go_wp2
  go_loop [3, 8] (fun m i => ∃ k : Nat, k ≤ l.length ∧ i = .int .i64 k ∧ m = .int .i64 (slotsF (l.take k))) (fun _ i => l.length - (intOf i).toNat)
  case atStart => exact ⟨0, Nat.zero_le _, rfl, rfl⟩
  case round =>
    obtain ⟨k, hk, rfl, rfl⟩ := hrel
    by_cases hlt : k < l.length
    · obtain ⟨p, hp⟩ : ∃ p, l[k]? = some p := ⟨_, List.getElem?_eq_getElem (by omega)⟩
      obtain ⟨b, o, rfl, hF, hc⟩ := hl.at_ hp
      have hb := h p (List.mem_of_getElem? hp)
      have HS := Lib.hid (slots_snoc l hp)
      have q0 := slots_nn (l.take k)
      have q1 := slots_take l (fun p hp => (h p hp).1) k
      have i0 : (0 : Int) ≤ (k : Int) := by omega
      have i1 : (k : Int) < (l.length : Int) := by omega
      obtain ⟨hb0, hb1⟩ := hb
      generalize slotsF (l.take k) = m at HS q0 q1 ⊢
      clear hp hF
      go_wp2
      go_round
      case rel => exact ⟨k + 1, by omega, by go_num, by rw [HS.out, show max m (-p) = if m < -p then -p else m by split <;> omega]⟩
      case measure => simp [intOf]; omega
    · go_wp2
      go_ret
      exact ⟨by rw [List.take_of_length_le (by omega)]; rfl, rfl⟩

set_option maxRecDepth 100000 in
set_option maxHeartbeats 1000000 in
theorem Rslots_any (l : List Int) (A : Option Addr) (n c : Nat) (w : World) (hl : NumsAt w (fun k => k < w.heap.size) (.slice A n c) l) (h : ∀ p ∈ l, -1099511627776 ≤ p ∧ p ≤ 9223372036854775807) (hn : n ≤ 140737488355328) :
    Calls Tryd.prog 26 #[.slice A n c] w fun e w' => e = .returned (.int .i64 (slotsF l)) ∧ w = w' := by
  obtain rfl : l.length = n := by obtain ⟨A, c, h1, _⟩ := rows_form hl; cases h1; rfl
  go_enter Tryd.func26, Tryd.ntmps26
  go_wp2
  go_loop [3, 4] (fun m i => ∃ k : Nat, k ≤ l.length ∧ i = .int .i64 k ∧ m = .int .i64 (slotsF (l.take k))) (fun _ i => l.length - (intOf i).toNat)
  case atStart => exact ⟨0, Nat.zero_le _, rfl, rfl⟩
  case round =>
    obtain ⟨k, hk, rfl, rfl⟩ := hrel
    by_cases hlt : k < l.length
    · obtain ⟨p, hp⟩ : ∃ p, l[k]? = some p := ⟨_, List.getElem?_eq_getElem (by omega)⟩
      obtain ⟨b, o, rfl, hF, hc⟩ := hl.at_ hp
      have hb := h p (List.mem_of_getElem? hp)
      have HS := Lib.hid (slots_snoc l hp)
      have q0 := slots_nn (l.take k)
      have q1 := slots_take l (fun p hp => (h p hp).1) k
      have i0 : (0 : Int) ≤ (k : Int) := by omega
      have i1 : (k : Int) < (l.length : Int) := by omega
      obtain ⟨hb0, hb1⟩ := hb
      generalize slotsF (l.take k) = m at HS q0 q1 ⊢
      clear hp hF
      by_cases hneg : p < 0
      · go_wp2
        go_round
        case rel => exact ⟨k + 1, by omega, by go_num, by rw [HS.out, show max m (-p) = if m < -p then -p else m by split <;> omega]⟩
        case measure => simp [intOf]; omega
      · go_wp2
        go_round
        case rel => exact ⟨k + 1, by omega, by go_num, by rw [HS.out]; congr 1; omega⟩
        case measure => simp [intOf]; omega
    · go_wp2
      go_ret
      exact ⟨by rw [List.take_of_length_le (by omega)]; rfl, rfl⟩
end Go.Proofs.YtppoiahhaclleaaDoor

/- An argument of type LimbProg, opened. -/
namespace Go.Proofs.YtppoiahhaclleaaDoor
open Go.ChangeShapes Go.WideShapes Go.Deep Go.RowKit

theorem list_of_all {α : Type} (Q : Nat → α → Prop) : ∀ n, (∀ i, i < n → ∃ x, Q i x) → ∃ L : List α, L.length = n ∧ ∀ (i : Nat) (x : α), L[i]? = some x → Q i x
  | 0, _ => ⟨[], rfl, fun i x h => by simp at h⟩
  | n + 1, h => by
    obtain ⟨L, hl, hq⟩ := list_of_all Q n (fun i hi => h i (by omega))
    obtain ⟨x, hx⟩ := h n (by omega)
    refine ⟨L ++ [x], by simp [hl], fun i y hy => ?_⟩
    rcases Nat.lt_or_ge i n with hi | hi
    · rw [List.getElem?_append_left (by omega)] at hy; exact hq i y hy
    · rw [List.getElem?_append_right (by omega)] at hy
      have : i - L.length = 0 := by
        rcases Nat.eq_zero_or_pos (i - L.length) with h | h
        · exact h
        · rw [List.getElem?_eq_none (by simp; omega)] at hy; cases hy
      rw [this] at hy
      simp at hy
      subst hy
      rw [show i = n from by omega]; exact hx

theorem plain_addr {w : World} {a : Addr} {k : Nat} {v : Value} (h : w.cell? (a.add k) = some v) (h0 : ∃ u, w.cell? a = some u) : a = ⟨a.block, a.off, none⟩ ∧ a.block < w.heap.size ∧ a.add k = ⟨a.block, a.off + k, none⟩ := by
  obtain ⟨u, hu⟩ := h0
  have hb := World.block_lt_of_cell? w a hu
  have hs : a.spot = none := by
    cases hsp : a.spot with
    | none => rfl
    | some s =>
      unfold World.cell? at hu
      split at hu
      · simp [hsp] at hu
      · cases hu
  have ha : a = ⟨a.block, a.off, none⟩ := by cases a; simp_all
  refine ⟨ha, hb, ?_⟩
  unfold Addr.add
  split
  · rename_i hk; subst hk; simpa using ha
  · rfl

section
variable {H : Type} {enc : TypeId × Value → H} {w : World}

theorem open_rows {α : Type} {T St sz : Nat} (row : α → List Value) (Q : α → Prop) (hT : Tryd.prog.underlying T = some (.slice St)) (hC : Tryd.prog.cellsOf St = sz) (h0 : 0 < sz) (hrow : ∀ x, (row x).length = sz)
    (each : ∀ fuel cs y, DataW.trod enc Tryd.prog w 0 (fun _ => true) true fuel St cs = some y → cs.length = sz → ∃ x, cs = row x ∧ Q x)
    {A : Option Addr} {n c : Nat} {d : DataW H} {ps : List MemPlace} (h : DataW.Trod enc Tryd.prog w 0 (fun _ => true) true T (.slice A n c) d ps) :
    ∃ l : List α, Rows w (fun k => k < w.heap.size) sz (.slice A n c) (l.map row) ∧ (∀ x ∈ l, Q x) ∧ l.length ≤ 9223372036854775807 := by
  obtain ⟨fuel, hf⟩ := h
  rcases open_slice hT hf with ⟨hcs, _⟩ | ⟨a, len, cap, m, q, D, Pl, hcs, _, hl, hm, hmm, _, hi⟩
  · simp [Value.cells] at hcs
    obtain ⟨rfl, rfl, rfl⟩ := hcs
    exact ⟨[], ⟨none, 0, rfl, by simp, by simp, fun h => absurd rfl h⟩, by simp, by simp⟩
  · simp [Value.cells] at hcs
    obtain ⟨rfl, rfl, rfl⟩ := hcs
    simp only [if_true] at hmm
    have ech : ∀ i, i < n → ∃ x : α, Q x ∧ ∀ (j : Nat) (u : Value), (row x)[j]? = some u → w.cell? (a.add (i * sz + j)) = some u := fun i hin => by
      obtain ⟨cs', hc, ht⟩ := hi i (by omega)
      rw [hC] at hc
      obtain ⟨_, hlen, hat⟩ := World.cells?_some hc
      obtain ⟨x, rfl, hq⟩ := each _ _ _ ht hlen
      refine ⟨x, hq, fun j u hu => ?_⟩
      have := hat j (by rw [← hlen]; exact (List.getElem?_eq_some_iff.1 hu).1)
      rw [← add_add, this, hu]
    obtain ⟨L, hL, hq⟩ := list_of_all _ n ech
    refine ⟨L, ⟨some a, c, by simp [hL], by simp [hL]; omega, fun r hr => by obtain ⟨x, _, rfl⟩ := List.mem_map.1 hr; exact hrow x, fun hne => ?_⟩, fun x hx => ?_, by rw [hL]; unfold maxLen at hm; omega⟩
    · have hpos : 0 < L.length := by
        cases L with
        | nil => simp at hne
        | cons => simp
      have hl0 := hrow L[0]
      obtain ⟨u0, hu0⟩ : ∃ u, (row L[0])[0]? = some u := by
        cases hx : row L[0] with
        | nil => rw [hx] at hl0; simp at hl0; omega
        | cons u us => exact ⟨u, rfl⟩
      have hp0 := (hq 0 L[0] (List.getElem?_eq_getElem hpos)).2 0 u0 hu0
      have h00 : ∃ u, w.cell? a = some u := ⟨_, by simpa [Addr.add] using hp0⟩
      obtain ⟨ha, hb, _⟩ := plain_addr hp0 h00
      refine ⟨a.block, a.off, by rw [← ha], hb, fun i j r u hr hu => ?_⟩
      rw [List.getElem?_map] at hr
      cases hpi : L[i]? with
      | none => rw [hpi] at hr; cases hr
      | some x =>
        rw [hpi] at hr
        cases hr
        have hc := (hq i x hpi).2 j u hu
        obtain ⟨_, _, hadd⟩ := plain_addr hc h00
        rw [hadd] at hc
        rw [show a.off + i * sz + j = a.off + (i * sz + j) from by omega]
        exact hc
    · obtain ⟨i, hi⟩ := List.mem_iff_getElem?.1 hx
      exact (hq i x hi).1

theorem trod_u64 {fuel : Nat} {cs : List Value} {y : DataW H × List MemPlace} (h : DataW.trod enc Tryd.prog w 0 (fun _ => true) true fuel 45 cs = some y) : ∃ n : Nat, cs = [.int .u64 n] ∧ n < 18446744073709551616 := by
  obtain ⟨z, hz, _, hwf⟩ := DataW.trod_int Tryd.underlying45 h
  have hzb : 0 ≤ z ∧ z ≤ 18446744073709551615 := by simpa [Lit.wf, IntKind.min, IntKind.max, IntKind.bits, IntKind.signed] using hwf
  exact ⟨z.toNat, by rw [hz]; congr 2; omega, by omega⟩
theorem trod_i64 {fuel : Nat} {cs : List Value} {y : DataW H × List MemPlace} (h : DataW.trod enc Tryd.prog w 0 (fun _ => true) true fuel 3 cs = some y) : ∃ z : Int, cs = [.int .i64 z] ∧ -9223372036854775808 ≤ z ∧ z ≤ 9223372036854775807 := by
  obtain ⟨z, hz, _, hwf⟩ := DataW.trod_int Tryd.underlying3 h
  have hzb : -9223372036854775808 ≤ z ∧ z ≤ 9223372036854775807 := by simpa [Lit.wf, IntKind.min, IntKind.max, IntKind.bits, IntKind.signed] using hwf
  exact ⟨z, hz, hzb⟩
end
section
variable {H : Type} {enc : TypeId × Value → H} {w : World}
theorem trod_bool1 {fuel : Nat} {cs : List Value} {y : DataW H × List MemPlace} (h : DataW.trod enc Tryd.prog w 0 (fun _ => true) true fuel 4 cs = some y) : ∃ b, cs = [.bool b] := by
  obtain ⟨b, hb, _⟩ := DataW.trod_bool Tryd.underlying4 h
  exact ⟨b, hb⟩
theorem trod_form {T St fuel : Nat} {c : Value} {y : DataW H × List MemPlace} (hT : Tryd.prog.underlying T = some (.slice St)) (h : DataW.trod enc Tryd.prog w 0 (fun _ => true) true fuel T [c] = some y) : ∃ A n k, c = .slice A n k := by
  rcases open_slice hT h with ⟨hcs, _⟩ | ⟨a, len, cap, m, q, D, Pl, hcs, _⟩
  · cases hcs; exact ⟨_, _, _, rfl⟩
  · cases hcs; exact ⟨_, _, _, rfl⟩
set_option maxRecDepth 100000 in
theorem open_buf (fuel : Nat) (cs : List Value) (y : DataW H × List MemPlace) (h : DataW.trod enc Tryd.prog w 0 (fun _ => true) true fuel 60 cs = some y) (hl : cs.length = 3) : ∃ x : Bf, cs = bufRow x ∧ (-9223372036854775808 ≤ x.size ∧ x.size ≤ 9223372036854775807) := by
  obtain ⟨xs, f, _, _, hlen, hxl, hfs⟩ := DataW.trod_struct Tryd.underlying60 h
  match cs, hl with
  | [c0, c1, c2], _ =>
    match xs, hxl with
    | [y0, y1, y2], _ =>
      have t0 : DataW.trod enc Tryd.prog w 0 (fun _ => true) true f 3 (([c0, c1, c2].drop 0).take (Tryd.prog.cellsOf 3)) = some y0 := hfs 0 _ rfl
      have t1 : DataW.trod enc Tryd.prog w 0 (fun _ => true) true f 3 (([c0, c1, c2].drop 1).take (Tryd.prog.cellsOf 3)) = some y1 := hfs 1 _ rfl
      have t2 : DataW.trod enc Tryd.prog w 0 (fun _ => true) true f 4 (([c0, c1, c2].drop 2).take (Tryd.prog.cellsOf 4)) = some y2 := hfs 2 _ rfl
      have k0 : Tryd.prog.cellsOf 3 = 1 := by kernel_rfl
      have k2 : Tryd.prog.cellsOf 4 = 1 := by kernel_rfl
      rw [k0] at t0 t1
      rw [k2] at t2
      simp only [List.drop_zero, List.drop_succ_cons, List.take_succ_cons, List.take_zero] at t0 t1 t2
      obtain ⟨a, ha, b1, b2⟩ := trod_i64 t0
      obtain ⟨b, hb, _, _⟩ := trod_i64 t1
      obtain ⟨s, hs⟩ := trod_bool1 t2
      cases ha; cases hb; cases hs
      exact ⟨⟨a, b, s⟩, rfl, b1, b2⟩
set_option maxRecDepth 100000 in
theorem open_op (fuel : Nat) (cs : List Value) (y : DataW H × List MemPlace) (h : DataW.trod enc Tryd.prog w 0 (fun _ => true) true fuel 47 cs = some y) (hl : cs.length = 8) : ∃ x : LOp, cs = opRow x ∧ x.imm < 18446744073709551616 := by
  obtain ⟨xs, f, _, _, hlen, hxl, hfs⟩ := DataW.trod_struct Tryd.underlying47 h
  match cs, hl with
  | [c0, c1, c2, c3, c4, c5, c6, c7], _ =>
    match xs, hxl with
    | [y0, y1, y2, y3, y4, y5, y6, y7], _ =>
      have k0 : Tryd.prog.cellsOf 3 = 1 := by kernel_rfl
      have k2 : Tryd.prog.cellsOf 45 = 1 := by kernel_rfl
      have t0 : DataW.trod enc Tryd.prog w 0 (fun _ => true) true f 3 (([c0, c1, c2, c3, c4, c5, c6, c7].drop 0).take (Tryd.prog.cellsOf 3)) = some y0 := hfs 0 _ rfl
      have t1 : DataW.trod enc Tryd.prog w 0 (fun _ => true) true f 3 (([c0, c1, c2, c3, c4, c5, c6, c7].drop 1).take (Tryd.prog.cellsOf 3)) = some y1 := hfs 1 _ rfl
      have t2 : DataW.trod enc Tryd.prog w 0 (fun _ => true) true f 3 (([c0, c1, c2, c3, c4, c5, c6, c7].drop 2).take (Tryd.prog.cellsOf 3)) = some y2 := hfs 2 _ rfl
      have t3 : DataW.trod enc Tryd.prog w 0 (fun _ => true) true f 3 (([c0, c1, c2, c3, c4, c5, c6, c7].drop 3).take (Tryd.prog.cellsOf 3)) = some y3 := hfs 3 _ rfl
      have t4 : DataW.trod enc Tryd.prog w 0 (fun _ => true) true f 3 (([c0, c1, c2, c3, c4, c5, c6, c7].drop 4).take (Tryd.prog.cellsOf 3)) = some y4 := hfs 4 _ rfl
      have t5 : DataW.trod enc Tryd.prog w 0 (fun _ => true) true f 3 (([c0, c1, c2, c3, c4, c5, c6, c7].drop 5).take (Tryd.prog.cellsOf 3)) = some y5 := hfs 5 _ rfl
      have t6 : DataW.trod enc Tryd.prog w 0 (fun _ => true) true f 3 (([c0, c1, c2, c3, c4, c5, c6, c7].drop 6).take (Tryd.prog.cellsOf 3)) = some y6 := hfs 6 _ rfl
      have t7 : DataW.trod enc Tryd.prog w 0 (fun _ => true) true f 45 (([c0, c1, c2, c3, c4, c5, c6, c7].drop 7).take (Tryd.prog.cellsOf 45)) = some y7 := hfs 7 _ rfl
      rw [k0] at t0 t1 t2 t3 t4 t5 t6
      rw [k2] at t7
      simp only [List.drop_zero, List.drop_succ_cons, List.take_succ_cons, List.take_zero] at t0 t1 t2 t3 t4 t5 t6 t7
      obtain ⟨a0, h0, _⟩ := trod_i64 t0
      obtain ⟨a1, h1, _⟩ := trod_i64 t1
      obtain ⟨a2, h2, _⟩ := trod_i64 t2
      obtain ⟨a3, h3, _⟩ := trod_i64 t3
      obtain ⟨a4, h4, _⟩ := trod_i64 t4
      obtain ⟨a5, h5, _⟩ := trod_i64 t5
      obtain ⟨a6, h6, _⟩ := trod_i64 t6
      obtain ⟨a7, h7, hb⟩ := trod_u64 t7
      cases h0; cases h1; cases h2; cases h3; cases h4; cases h5; cases h6; cases h7
      exact ⟨⟨a0, a1, a2, a3, a4, a5, a6, a7⟩, rfl, hb⟩
set_option maxRecDepth 100000 in
theorem open_prog {cs : Array Value} {d : DataW H} {ps : List MemPlace} (h : DataW.Trod enc Tryd.prog w 0 (fun _ => true) true 25 (.agg cs) d ps) :
    ∃ (p : LP) (Ab Ao : Option Addr) (nb cb no co : Nat), cs = #[.int .i64 p.regs, .slice Ab nb cb, .slice Ao no co] ∧ ProgAt w (fun k => k < w.heap.size) [.int .i64 p.regs, .slice Ab nb cb, .slice Ao no co] p ∧ -9223372036854775808 ≤ p.regs ∧ p.regs ≤ 9223372036854775807 := by
  obtain ⟨fuel, hf⟩ := h
  obtain ⟨xs, f, _, _, hlen, hxl, hfs⟩ := DataW.trod_struct Tryd.underlying25 hf
  have hC : Tryd.prog.cellsOf 25 = 3 := by kernel_rfl
  rw [hC] at hlen
  have hcs : (Value.agg cs).cells.toList = cs.toList := rfl
  rw [hcs] at hlen hfs
  obtain ⟨l⟩ := cs
  simp only [] at hlen hfs
  match l, hlen with
  | [c0, c1, c2], _ =>
    match xs, hxl with
    | [y0, y1, y2], _ =>
      have t0 : DataW.trod enc Tryd.prog w 0 (fun _ => true) true f 3 (([c0, c1, c2].drop 0).take (Tryd.prog.cellsOf 3)) = some y0 := hfs 0 _ rfl
      have t1 : DataW.trod enc Tryd.prog w 0 (fun _ => true) true f 22 (([c0, c1, c2].drop 1).take (Tryd.prog.cellsOf 22)) = some y1 := hfs 1 _ rfl
      have t2 : DataW.trod enc Tryd.prog w 0 (fun _ => true) true f 23 (([c0, c1, c2].drop 2).take (Tryd.prog.cellsOf 23)) = some y2 := hfs 2 _ rfl
      have k0 : Tryd.prog.cellsOf 3 = 1 := by kernel_rfl
      have k1 : Tryd.prog.cellsOf 22 = 1 := by kernel_rfl
      have k2 : Tryd.prog.cellsOf 23 = 1 := by kernel_rfl
      rw [k0] at t0
      rw [k1] at t1
      rw [k2] at t2
      simp only [List.drop_zero, List.drop_succ_cons, List.take_succ_cons, List.take_zero] at t0 t1 t2
      obtain ⟨z, hz, hz1, hz2⟩ := trod_i64 t0
      obtain ⟨Ab, nb, cb, rfl⟩ := trod_form Tryd.underlying22 t1
      obtain ⟨Ao, no, co, rfl⟩ := trod_form Tryd.underlying23 t2
      cases hz
      obtain ⟨lb, hb, hbq, hbl⟩ := open_rows bufRow (fun x : Bf => -9223372036854775808 ≤ x.size ∧ x.size ≤ 9223372036854775807) Tryd.underlying22 (by kernel_rfl) (by decide) (fun _ => rfl) open_buf (d := y1.1) (ps := y1.2) ⟨f, t1⟩
      obtain ⟨lo, ho, hoq, hol⟩ := open_rows opRow (fun x : LOp => x.imm < 18446744073709551616) Tryd.underlying23 (by kernel_rfl) (by decide) (fun _ => rfl) open_op (d := y2.1) (ps := y2.2) ⟨f, t2⟩
      exact ⟨⟨z, lb, lo⟩, Ab, Ao, nb, cb, no, co, rfl, ⟨⟨_, _, rfl, hb, ho⟩, hbl, hol, hoq, hbq⟩, hz1, hz2⟩
end
end Go.Proofs.YtppoiahhaclleaaDoor

/- AllocCalls: the walk. -/
namespace Go.Proofs.YtppoiahhaclleaaDoor
open Go.RowKit

/-- What alloc.Build tells besides places. -/
def errC (p : LP) (pool : Int) : Int := if (checkF p 64).2 ≠ 0 then (checkF p 64).2 else if pool < 0 ∨ 16 < pool then 2 else 0
def liveL (p : LP) : List (Int × Int) := if (checkF p 64).2 ≠ 0 then [] else spansF p

theorem Build_err (p : LP) (Ab Ao : Option Addr) (nb cb no co : Nat) (pool : Int) (w : World) (hp : ProgAt w (fun k => k < w.heap.size) [.int .i64 p.regs, .slice Ab nb cb, .slice Ao no co] p) (hT : TzAt w) :
    Calls Tryd.prog 13 #[.agg #[.int .i64 p.regs, .slice Ab nb cb, .slice Ao no co], .int .i64 pool] w fun e w' => ∃ v, e = .returned (.tuple #[v, .int .i64 (errC p pool)]) ∧ Below w.heap.size w w' := by
  unfold errC
  by_cases h0 : (checkF p 64).2 ≠ 0
  · rw [if_pos h0]
    exact (Build_bad p Ab Ao nb cb no co pool w hp h0).mono fun e w' ⟨h1, h2⟩ => ⟨_, h1, h2⟩
  rw [if_neg h0]
  have h0 := Classical.not_not.1 h0
  by_cases h1 : pool < 0
  · rw [if_pos (.inl h1)]
    exact (Build_lo p Ab Ao nb cb no co pool w hp h0 h1).mono fun e w' ⟨h1, h2⟩ => ⟨_, h1, h2⟩
  by_cases h2 : 16 < pool
  · rw [if_pos (.inr h2)]
    exact (Build_hi p Ab Ao nb cb no co pool w hp h0 h2).mono fun e w' ⟨h1, h2⟩ => ⟨_, h1, h2⟩
  rw [if_neg (by rw [not_or]; exact ⟨h1, h2⟩)]
  obtain ⟨q, rfl⟩ : ∃ q : Nat, pool = q := ⟨pool.toNat, by omega⟩
  obtain ⟨n, hn⟩ : ∃ n : Nat, p.regs = n := ⟨p.regs.toNat, by have := (head_ok (check_run h0).1).2.1; omega⟩
  exact (Build_all p Ab Ao nb cb no co n q w hp h0 hn (by omega) hT).mono fun e w' ⟨go, ord, h1, _, _, _, _, h2⟩ => ⟨_, h1, h2⟩
theorem rows_none (w : World) (G : Nat → Prop) (sz : Nat) : Rows w G sz (.slice none 0 0) [] := ⟨none, 0, rfl, by simp, by simp, fun h => absurd rfl h⟩
theorem Live_all (p : LP) (Ab Ao : Option Addr) (nb cb no co : Nat) (w : World) (hp : ProgAt w (fun k => k < w.heap.size) [.int .i64 p.regs, .slice Ab nb cb, .slice Ao no co] p) :
    Calls Tryd.prog 20 #[.agg #[.int .i64 p.regs, .slice Ab nb cb, .slice Ao no co]] w fun e w' => ∃ v, e = .returned v ∧ Below w.heap.size w w' ∧ Rows w' (fun k => k < w'.heap.size) 2 v ((liveL p).map spanRow) := by
  unfold liveL
  by_cases h0 : (checkF p 64).2 ≠ 0
  · rw [if_pos h0]
    exact (Live_bad p Ab Ao nb cb no co w hp h0).mono fun e w' ⟨h1, h2⟩ => ⟨_, h1, h2, rows_none _ _ _⟩
  rw [if_neg h0]
  have h0 := Classical.not_not.1 h0
  obtain ⟨n, hn⟩ : ∃ n : Nat, p.regs = n := ⟨p.regs.toNat, by have := (head_ok (check_run h0).1).2.1; omega⟩
  exact (Live_ok p Ab Ao nb cb no co n w hp h0 hn).mono fun e w' ⟨A, c, h1, h2, h3⟩ => ⟨_, h1, h2, h3.mono fun k hk => hk.2⟩
theorem rows_spans {w : World} {g : Nat} {sp : List (Int × Int)} (h : SpansR w g sp) : Rows w (fun k => k = g) 2 (.slice (some ⟨g, 0, none⟩) sp.length sp.length) (sp.map spanRow) := by
  refine ⟨_, sp.length, by simp, by simp, by intro r hr; obtain ⟨x, _, rfl⟩ := List.mem_map.1 hr; rfl, fun _ => ⟨g, 0, rfl, rfl, fun i j r u hr hu => ?_⟩⟩
  rw [List.getElem?_map] at hr
  cases hi : sp[i]? with
  | none => rw [hi] at hr; cases hr
  | some s =>
    rw [hi] at hr
    cases hr
    have hc := h.cells hi
    rw [Nat.zero_add]
    match j, hu with
    | 0, hu => cases hu; exact hc.1
    | 1, hu => cases hu; exact hc.2
theorem RLive_all (p : LP) (Ab Ao : Option Addr) (nb cb no co : Nat) (w : World) (hp : ProgAt w (fun k => k < w.heap.size) [.int .i64 p.regs, .slice Ab nb cb, .slice Ao no co] p) :
    Calls Tryd.prog 15 #[.agg #[.int .i64 p.regs, .slice Ab nb cb, .slice Ao no co]] w fun e w' => ∃ v, e = .returned v ∧ Below w.heap.size w w' ∧ Rows w' (fun k => k < w'.heap.size) 2 v ((liveL p).map spanRow) := by
  unfold liveL
  by_cases h0 : (checkF p 64).2 ≠ 0
  · rw [if_pos h0]
    exact (RLive_bad p Ab Ao nb cb no co w hp h0).mono fun e w' ⟨h1, h2⟩ => ⟨_, h1, h2, rows_none _ _ _⟩
  rw [if_neg h0]
  have h0 := Classical.not_not.1 h0
  obtain ⟨n, hn⟩ : ∃ n : Nat, p.regs = n := ⟨p.regs.toNat, by have := (head_ok (check_run h0).1).2.1; omega⟩
  have hl : (spansF p).length = n := by rw [spans_len, hn]; rfl
  refine (RLive_ok p Ab Ao nb cb no co n w hp h0 hn).mono fun e w' ⟨g, h1, h2, h3, h4⟩ => ⟨_, h1, h4, ?_⟩
  have h5 := rows_spans h3
  rw [hl] at h5
  exact h5.mono fun k hk => by have := lt_of_block h3; subst hk; exact this
theorem live_len (p : LP) : (liveL p).length ≤ 1000 := by
  unfold liveL
  by_cases h0 : (checkF p 64).2 ≠ 0
  · rw [if_pos h0]; simp
  rw [if_neg h0, spans_len]
  have := (head_ok (check_run (Classical.not_not.1 h0)).1).1
  omega
theorem Same2_self (v u : Value) (w : World) (a : List (Int × Int)) (hn : a.length ≤ 1000) (ha : Rows w (fun k => k < w.heap.size) 2 v (a.map spanRow)) (hb : Rows w (fun k => k < w.heap.size) 2 u (a.map spanRow)) :
    Calls Tryd.prog 25 #[v, u] w fun e w' => e = .returned (.bool true) ∧ Below w.heap.size w w' := by
  have h := Same2_any v u w _ a a hn hn ha hb (fun _ h => h)
  rw [decide_eq_true rfl] at h
  exact h
set_option pp.deepTerms true in
set_option pp.maxSteps 1000000 in
set_option maxRecDepth 100000 in
theorem open_intsA {H : Type} {enc : TypeId × Value → H} {w : World} {A : Option Addr} {n c : Nat} {d : DataW H} {ps : List MemPlace} (h : DataW.Trod enc Tryd.prog w 0 (fun _ => true) true 35 (.slice A n c) d ps) :
    ∃ l : List Int, NumsAt w (fun k => k < w.heap.size) (.slice A n c) l ∧ (∀ x ∈ l, x ≤ 9223372036854775807) ∧ l.length ≤ 9223372036854775807 :=
  open_rows (fun x : Int => [Value.int .i64 x]) (fun x : Int => x ≤ 9223372036854775807) Tryd.underlying35 (by kernel_rfl) (by decide) (fun _ => rfl) (fun fuel cs y ht _ => by
    obtain ⟨z, hz, _, h2⟩ := trod_i64 ht
    exact ⟨z, hz, h2⟩) h

set_option pp.deepTerms true in
set_option pp.maxSteps 1000000 in
set_option maxRecDepth 100000 in
set_option maxHeartbeats 4000000 in
theorem calls_l0 {Ap : Option Addr} {cp n : Nat} {pl : List Int} {G : Nat → Prop} (w : World) (Q : Exit → Act → World → Prop) {u0 u1 u3 u4 u5 u6 u7 u8 u9 u10 u12 u13 u14 u15 u16 u17 u18 u19 u20 u21 u22 u23 u24 u25 u26 u27 u28 u29 u30 u31 u32 u33 u34 u35 u36 u37 u38 u39 u40 u41 u42 u43 u44 u45 u46 u47 u48 u49 u50 u51 u52 u53 u54 u55 u56 u57 u58 u59 u60 u61 u62 u63 u64 u65 u66 u67 u68 u69 u70 u71 u72 u73 u74 u75 u76 u77 u78 u79 u80 u81 : Value} (hp : NumsAt w G (.slice Ap n cp) pl) (hn3 : n ≤ 1000)
    (k1 : (∀ x ∈ pl, -1099511627776 ≤ x) → ∀ (v6 v11 v43 v44 v45 v46 v47 v48 v49 v50 v51 v52 v53 : Value), Q (.exit 0) ⟨#[u0, u1, .slice Ap n cp, u3, u4, u5, v6, u7, u8, u9, u10, v11, u12, u13, u14, u15, u16, u17, u18, u19, u20, u21, u22, u23, u24, u25, u26, u27, u28, u29, u30, u31, u32, u33, u34, u35, u36, u37, u38, u39, u40, u41, u42, v43, v44, v45, v46, v47, v48, v49, v50, v51, v52, v53, u54, u55, u56, u57, u58, u59, u60, u61, u62, u63, u64, u65, u66, u67, u68, u69, u70, u71, u72, u73, u74, u75, u76, u77, u78, u79, u80, u81], []⟩ w) (k2 : ∀ (v11 v43 v44 v45 v46 v47 v48 v49 v50 v51 v52 v53 : Value), Q (.ret) ⟨#[u0, u1, .slice Ap n cp, u3, u4, u5, .bool true, u7, u8, u9, u10, v11, u12, u13, u14, u15, u16, u17, u18, u19, u20, u21, u22, u23, u24, u25, u26, u27, u28, u29, u30, u31, u32, u33, u34, u35, u36, u37, u38, u39, u40, u41, u42, v43, v44, v45, v46, v47, v48, v49, v50, v51, v52, v53, u54, u55, u56, u57, u58, u59, u60, u61, u62, u63, u64, u65, u66, u67, u68, u69, u70, u71, u72, u73, u74, u75, u76, u77, u78, u79, u80, u81], []⟩ w) : (partL Tryd.f6 0).wp Tryd.prog Q ⟨#[u0, u1, .slice Ap n cp, u3, u4, u5, u6, u7, u8, u9, u10, .int .i64 0, u12, u13, u14, u15, u16, u17, u18, u19, u20, u21, u22, u23, u24, u25, u26, u27, u28, u29, u30, u31, u32, u33, u34, u35, u36, u37, u38, u39, u40, u41, u42, u43, u44, u45, u46, u47, u48, u49, u50, u51, u52, u53, u54, u55, u56, u57, u58, u59, u60, u61, u62, u63, u64, u65, u66, u67, u68, u69, u70, u71, u72, u73, u74, u75, u76, u77, u78, u79, u80, u81], []⟩ w := by
  have HPL := Lib.hid hp
  have HL0 := Lib.hid (show pl.length = n by obtain ⟨A, c, hv, _⟩ := rows_form hp; cases hv; rfl)
  have K1 := Lib.hid k1
  have K2 := Lib.hid k2
  clear hp k1 k2
  conv => arg 2; whnf
  go_wp2
  go_loopw [11] (fun j wr => ∃ r : Nat, r ≤ n ∧ j = .int .i64 r ∧ Hid (wr = w ∧ ∀ (k : Nat) (a : Int), k < r → pl[k]? = some a → -1099511627776 ≤ a)) (fun j _ => n - (intOf j).toNat)
  case atStart => exact ⟨0, by omega, rfl, Lib.hid ⟨by trivial, fun k a h => absurd h (by omega)⟩⟩
  case round =>
    obtain ⟨r, hr, rfl, HT⟩ := hrel
    obtain rfl : wr = w := HT.out.1
    by_cases hlt : r < n
    · obtain ⟨a, ha⟩ : ∃ s, pl[r]? = some s := ⟨_, List.getElem?_eq_getElem (by have := HL0.out; omega)⟩
      obtain ⟨b, o, hA, _, hc⟩ := HPL.out.at_ ha
      subst hA
      have HA := Lib.hid ha
      have i0 : (0 : Int) ≤ (r : Int) := by omega
      have i1 : (r : Int) < (n : Int) := by omega
      have hkd1 : decide (r < n) = true := decide_eq_true hlt
      clear ha
      cases d0 : decide (a < (-1099511627776 : Int))
      · have HN2 := Lib.hid (show -1099511627776 ≤ a by have := of_decide_eq_false d0; omega)
        go_wp2
        go_roundw
        case rel => exact ⟨r + 1, by omega, by go_num, Lib.hid ⟨by trivial, fun k a' hk h2 => by
          by_cases e : k = r
          · subst e; rw [HA.out] at h2; cases h2; exact HN2.out
          · exact HT.out.2 k a' (by omega) h2⟩⟩
        case measure => simp [intOf]; omega
      · go_wp2
        exact K2.out _ _ _ _ _ _ _ _ _ _ _ _
    · have HN2 := Lib.hid (show ∀ x ∈ pl, -1099511627776 ≤ x from fun x hx => by
        obtain ⟨k, hk⟩ := List.getElem?_of_mem hx
        exact HT.out.2 k x (by have := (List.getElem?_eq_some_iff.1 hk).1; have := HL0.out; omega) hk)
      have hkd1 : decide (r < n) = false := decide_eq_false hlt
      go_wp2
      exact K1.out HN2.out _ _ _ _ _ _ _ _ _ _ _ _ _

set_option pp.deepTerms true in
set_option pp.maxSteps 1000000 in
set_option maxRecDepth 100000 in
set_option maxHeartbeats 8000000 in
theorem calls_r14 {p : LP} {Ab Ao Ap : Option Addr} {nb cb no co n0 cp bp : Nat} {pool zz : Int} {pl : List Int} (w : World) (Q : Exit → Act → World → Prop) {u0 u4 u5 u6 u7 u9 u11 u12 u13 u14 u15 u16 u17 u18 u19 u20 u21 u22 u23 u24 u25 u26 u27 u28 u29 u30 u31 u32 u33 u34 u35 u36 u37 u38 u39 u40 u41 u42 u43 u44 u45 u46 u47 u48 u49 u50 u51 u52 u53 u54 u55 u56 u57 u58 u59 u60 u61 u62 u63 u64 u65 u66 u67 u68 u69 u70 u71 u72 u73 u74 u75 u76 u77 u78 u79 u80 u81 : Value} (hp : ProgAt w (fun k => k < w.heap.size) [.int .i64 p.regs, .slice Ab nb cb, .slice Ao no co] p) (hpl : NumsAt w (fun k => k < w.heap.size) (.slice Ap n0 cp) pl) (b0 : w.cell? ⟨bp, 0, none⟩ = some (.int .i64 p.regs)) (b1 : w.cell? ⟨bp, 1, none⟩ = some (.slice Ab nb cb)) (b2 : w.cell? ⟨bp, 2, none⟩ = some (.slice Ao no co)) (hbp : bp < w.heap.size) (hn : n0 ≤ 100) (hbd : ∀ x ∈ pl, -1099511627776 ≤ x ∧ x ≤ 9223372036854775807)
    (kk : ∀ (v54 v55 v56 v57 v58 v59 v60 v61 v62 v63 v64 v65 v66 v67 v68 v69 v70 v71 v72 v73 v74 v75 v76 v77 v78 v79 v80 v81 : Value) (w' : World), Below w.heap.size w w' → Q .normal ⟨#[u0, .int .i64 pool, .slice Ap n0 cp, .pointer (some ⟨bp, 0, none⟩), u4, u5, .bool true, u7, .int .i64 zz, u9, .int .i64 zz, u11, u12, u13, u14, u15, u16, u17, u18, u19, u20, u21, u22, u23, u24, u25, u26, u27, u28, u29, u30, u31, u32, u33, u34, u35, u36, u37, u38, u39, u40, u41, u42, u43, u44, u45, u46, u47, u48, u49, u50, u51, u52, u53, v54, v55, v56, v57, v58, v59, v60, v61, v62, v63, v64, v65, v66, v67, v68, v69, v70, v71, v72, v73, v74, v75, v76, v77, v78, v79, v80, v81], []⟩ w') : (partR Tryd.f6 14).wp Tryd.prog Q ⟨#[u0, .int .i64 pool, .slice Ap n0 cp, .pointer (some ⟨bp, 0, none⟩), u4, u5, u6, u7, .int .i64 zz, u9, .int .i64 zz, u11, u12, u13, u14, u15, u16, u17, u18, u19, u20, u21, u22, u23, u24, u25, u26, u27, u28, u29, u30, u31, u32, u33, u34, u35, u36, u37, u38, u39, u40, u41, u42, u43, u44, u45, u46, u47, u48, u49, u50, u51, u52, u53, u54, u55, u56, u57, u58, u59, u60, u61, u62, u63, u64, u65, u66, u67, u68, u69, u70, u71, u72, u73, u74, u75, u76, u77, u78, u79, u80, u81], []⟩ w := by
  have HCS := Lib.hid (fun wr (hb : Below w.heap.size w wr) => And.intro ((hb.cell (p := ⟨bp, 0, none⟩) hbp).trans b0) (And.intro ((hb.cell (p := ⟨bp, 1, none⟩) hbp).trans b1) ((hb.cell (p := ⟨bp, 2, none⟩) hbp).trans b2)))
  have HP := Lib.hid (fun wr (hb : Below w.heap.size w wr) => prog_next hp hb)
  have HPL := Lib.hid (fun wr (hb : Below w.heap.size w wr) => (show NumsAt wr (fun k => k < wr.heap.size) (.slice Ap n0 cp) pl from (Rows.keep hpl (SameOn.of_below hb fun _ h => h)).mono fun k hk => Nat.lt_of_lt_of_le hk hb.size))
  obtain ⟨v, hv⟩ : ∃ x, placesF p pool pl = x := ⟨_, rfl⟩
  obtain ⟨sl, hsl⟩ : ∃ x, slotsF pl = x := ⟨_, rfl⟩
  have HLV := Lib.hid (fun wr (hb : Below w.heap.size w wr) => Live_all p Ab Ao nb cb no co wr (HP.out wr hb))
  have HRV := Lib.hid (fun wr (hb : Below w.heap.size w wr) => RLive_all p Ab Ao nb cb no co wr (HP.out wr hb))
  have HAC := Lib.hid (fun wr (hb : Below w.heap.size w wr) => acheck_any p Ab Ao Ap nb cb no co n0 cp pool pl wr (HP.out wr hb) (HPL.out wr hb))
  have HRC := Lib.hid (fun wr (hb : Below w.heap.size w wr) => Pcheck_any p Ab Ao Ap nb cb no co n0 cp pool pl wr (HP.out wr hb) (HPL.out wr hb))
  have HSL := Lib.hid (fun wr (hb : Below w.heap.size w wr) => Slots_any pl Ap n0 cp wr (HPL.out wr hb) hbd (by omega))
  have HRS := Lib.hid (fun wr (hb : Below w.heap.size w wr) => Rslots_any pl Ap n0 cp wr (HPL.out wr hb) hbd (by omega))
  rw [hv] at HAC HRC
  rw [hsl] at HSL HRS
  have HLEN := Lib.hid (live_len p)
  have hzz : (zz == zz) = true := by simp
  have hvv : (v == v) = true := by simp
  have hss : (sl == sl) = true := by simp
  have HK := Lib.hid kk
  clear hp hpl b0 b1 b2 hbp hbd kk hv hsl
  conv => arg 2; whnf
  go_wp2_with fail
  have hS : Below w.heap.size w w.drew := (Below.refl _ _).drew
  (refine wp_region_lines (Below w.heap.size w) (by kernel_rfl) (by kernel_rfl) (Below.refl w.heap.size w).drew ?_)
  (try simp only [])
  repeat (first | (refine runL_no (by rfl) ?_; (try simp only [Act.put, List.setIfInBounds_toArray, List.set_cons_zero, List.set_cons_succ])) | (refine runL_val (v := ?_) (by rfl) ?_ ?_; rotate_left; (focus (intro w_ hw_; have c0_ := (HCS.out w_ hw_).1; have c1_ := (HCS.out w_ hw_).2.1; have c2_ := (HCS.out w_ hw_).2.2; go_simp; (try with_reducible rfl); done)); (try simp only [Act.put, List.setIfInBounds_toArray, List.set_cons_zero, List.set_cons_succ])) | (refine runL_call (f := ?_) (args := ?_) (w1 := ?_) (by rfl) (by rfl) ?_ ?_; rotate_left 3; (focus (go_simp; refine ⟨⟨?_, ?_⟩, ?_⟩ <;> with_reducible rfl)); (with_reducible refine (HLV.out _ hS).mono ?_); rintro e w4 ⟨v4, rfl, hb4, hr4⟩; have HR4 := Lib.hid hr4; replace hS := hS.trans (hb4.mono hS.size); clear hb4 hr4; refine ⟨_, rfl, .inr hS, ?_⟩; (try simp only [Act.put, List.setIfInBounds_toArray, List.set_cons_zero, List.set_cons_succ])) | (refine runL_call (f := ?_) (args := ?_) (w1 := ?_) (by rfl) (by rfl) ?_ ?_; rotate_left 3; (focus (go_simp; refine ⟨⟨?_, ?_⟩, ?_⟩ <;> with_reducible rfl)); (with_reducible refine (HRV.out _ hS).mono ?_); rintro e w5 ⟨v5, rfl, hb5, hr5⟩; have HR5 := Lib.hid (And.intro ((Rows.keep HR4.out (SameOn.of_below hb5 fun _ h => h)).mono fun k hk => Nat.lt_of_lt_of_le hk hb5.size) hr5); replace hS := hS.trans (hb5.mono hS.size); clear hb5 hr5; refine ⟨_, rfl, .inr hS, ?_⟩; (try simp only [Act.put, List.setIfInBounds_toArray, List.set_cons_zero, List.set_cons_succ])) | (refine runL_call (f := ?_) (args := ?_) (w1 := ?_) (by rfl) (by rfl) ?_ ?_; rotate_left 3; (focus (go_simp; refine ⟨⟨?_, ?_⟩, ?_⟩ <;> with_reducible rfl)); (with_reducible refine (Same2_self _ _ _ (liveL p) HLEN.out HR5.out.1 HR5.out.2).mono ?_); rintro e w6 ⟨rfl, hb6⟩; replace hS := hS.trans (hb6.mono hS.size); clear hb6; refine ⟨_, rfl, .inr hS, ?_⟩; (try simp only [Act.put, List.setIfInBounds_toArray, List.set_cons_zero, List.set_cons_succ])) | (refine runL_call (f := ?_) (args := ?_) (w1 := ?_) (by rfl) (by rfl) ?_ ?_; rotate_left 3; (focus (go_simp; refine ⟨⟨?_, ?_⟩, ?_⟩ <;> with_reducible rfl)); (with_reducible refine (HAC.out _ hS).mono ?_); rintro e w7 ⟨rfl, hb7⟩; replace hS := hS.trans (hb7.mono hS.size); clear hb7; refine ⟨_, rfl, .inr hS, ?_⟩; (try simp only [Act.put, List.setIfInBounds_toArray, List.set_cons_zero, List.set_cons_succ])) | (refine runL_call (f := ?_) (args := ?_) (w1 := ?_) (by rfl) (by rfl) ?_ ?_; rotate_left 3; (focus (go_simp; refine ⟨⟨?_, ?_⟩, ?_⟩ <;> with_reducible rfl)); (with_reducible refine (HRC.out _ hS).mono ?_); rintro e w8 ⟨rfl, hb8⟩; replace hS := hS.trans (hb8.mono hS.size); clear hb8; refine ⟨_, rfl, .inr hS, ?_⟩; (try simp only [Act.put, List.setIfInBounds_toArray, List.set_cons_zero, List.set_cons_succ])) | (refine runL_call (f := ?_) (args := ?_) (w1 := ?_) (by rfl) (by rfl) ?_ ?_; rotate_left 3; (focus (go_simp; refine ⟨⟨?_, ?_⟩, ?_⟩ <;> with_reducible rfl)); (with_reducible refine (HSL.out _ hS).mono ?_); rintro e w9 ⟨rfl, hb9⟩; subst hb9; refine ⟨_, rfl, .inr hS, ?_⟩; (try simp only [Act.put, List.setIfInBounds_toArray, List.set_cons_zero, List.set_cons_succ])) | (refine runL_call (f := ?_) (args := ?_) (w1 := ?_) (by rfl) (by rfl) ?_ ?_; rotate_left 3; (focus (go_simp; refine ⟨⟨?_, ?_⟩, ?_⟩ <;> with_reducible rfl)); (with_reducible refine (HRS.out _ hS).mono ?_); rintro e w9 ⟨rfl, hb9⟩; subst hb9; refine ⟨_, rfl, .inr hS, ?_⟩; (try simp only [Act.put, List.setIfInBounds_toArray, List.set_cons_zero, List.set_cons_succ])))
  (refine runL_nil ?_)
  exact HK.out _ _ _ _ _ _ _ _ _ _ _ _ _ _ _ _ _ _ _ _ _ _ _ _ _ _ _ _ _ hS


set_option pp.deepTerms true in
set_option pp.maxSteps 1000000 in
set_option maxRecDepth 100000 in
set_option maxHeartbeats 16000000 in
theorem AllocCalls_walk (p : LP) (Ab Ao Ap : Option Addr) (nb cb no co n0 cp : Nat) (pool : Int) (pl : List Int) (w : World) (hp : ProgAt w (fun k => k < w.heap.size) [.int .i64 p.regs, .slice Ab nb cb, .slice Ao no co] p) (hpl : NumsAt w (fun k => k < w.heap.size) (.slice Ap n0 cp) pl) (hbx : ∀ x ∈ pl, x ≤ 9223372036854775807) (hT : TzAt w) :
    Calls Tryd.prog 6 #[.agg #[.int .i64 p.regs, .slice Ab nb cb, .slice Ao no co], .int .i64 pool, .slice Ap n0 cp] w fun e w' => e = .returned (.bool true) ∧ Below w.heap.size w w' := by
  obtain ⟨W, hW, hbW, hzW, hl_, hr_⟩ := boxed w #[.int .i64 p.regs, .slice Ab nb cb, .slice Ao no co] 25
  have c0 : W.cell? ⟨w.heap.size, 0, none⟩ = some (.int .i64 p.regs) := by rw [hl_]; rfl
  have c1 : W.cell? ⟨w.heap.size, 1, none⟩ = some (.slice Ab nb cb) := by rw [hl_]; rfl
  have c2 : W.cell? ⟨w.heap.size, 2, none⟩ = some (.slice Ao no co) := by rw [hl_]; rfl
  have hp1 := prog_next hp hbW
  have hlt : w.heap.size < W.heap.size := by omega
  have hpl1 : NumsAt W (fun k => k < W.heap.size) (.slice Ap n0 cp) pl := (Rows.keep hpl (SameOn.of_below hbW fun _ h => h)).mono fun k hk => Nat.lt_of_lt_of_le hk hbW.size
  have hT1 : TzAt W := fun j hj => (hbW.cell (lt_cell (hT j hj))).trans (hT j hj)
  have HP := Lib.hid (fun wr (hb : Below W.heap.size W wr) => prog_next hp1 hb)
  have HPL := Lib.hid (fun wr (hb : Below W.heap.size W wr) => (show NumsAt wr (fun k => k < wr.heap.size) (.slice Ap n0 cp) pl from (Rows.keep hpl1 (SameOn.of_below hb fun _ h => h)).mono fun k hk => Nat.lt_of_lt_of_le hk hb.size))
  have HCS := Lib.hid (fun wr (hb : Below W.heap.size W wr) => And.intro ((hb.cell (p := ⟨w.heap.size, 0, none⟩) hlt).trans c0) (And.intro ((hb.cell (p := ⟨w.heap.size, 1, none⟩) hlt).trans c1) ((hb.cell (p := ⟨w.heap.size, 2, none⟩) hlt).trans c2)))
  have HLVS := Lib.hid (lives_is W hT1)
  have HBD := Lib.hid (fun wr (hb : Below W.heap.size W wr) => Build_err p Ab Ao nb cb no co pool wr (HP.out wr hb) (fun j hj => (hb.cell (lt_cell (hT1 j hj))).trans (hT1 j hj)))
  have HCKA : Hid (∀ wr, Below W.heap.size W wr → Calls Tryd.prog 8 #[.agg #[.int .i64 p.regs, .slice Ab nb cb, .slice Ao no co]] wr fun e w' => e = .returned (.tuple #[.int .i64 (checkF p 64).1, .int .i64 (checkF p 64).2]) ∧ Below wr.heap.size wr w') := Lib.hid (fun wr hb => by
    have h := Rcheck_any p Ab Ao nb cb no co wr (HP.out wr hb)
    rw [check_same] at h
    exact h)
  have HBX := Lib.hid hbx
  have HW := Lib.hid hW
  have HB := Lib.hid hbW
  have HLT := Lib.hid hlt
  obtain ⟨x, hx⟩ : ∃ x, (checkF p 64).1 = x := ⟨_, rfl⟩
  obtain ⟨y, hy⟩ : ∃ x, (checkF p 64).2 = x := ⟨_, rfl⟩
  have hE : errC p pool = if y ≠ 0 then y else if pool < 0 ∨ 16 < pool then 2 else 0 := by unfold errC; rw [hy]
  rw [hx, hy] at HCKA
  clear hW hbW hzW hl_ hr_ hp hp1 hpl hpl1 hT hT1 hbx hx hy c0 c1 c2 hlt
  by_cases hbig : n0 ≤ 100
  rotate_left
  · have d9 : decide ((100 : Int) < (n0 : Int)) = true := decide_eq_true (by omega)
    have d9' : decide (100 < n0) = true := decide_eq_true (by omega)
    clear hbig hE
    go_enter Tryd.func6, Tryd.ntmps6
    go_upto_region 1 with fail
    rw [← HW.out]
    go_upto_region 3 with ((with_reducible refine (HLVS.out).mono ?_); rintro e w1 ⟨rfl, hb1⟩; have H1 := Lib.hid hb1; clear hb1)
    obtain ⟨c0, c1, c2⟩ := HCS.out w1 H1.out
    have HLP := Lib.hid (LightProg_any p Ab Ao nb cb no co 60 w1 (HP.out w1 H1.out))
    go_wp2_with ((with_reducible refine (HLP.out).mono ?_); rintro e w3 ⟨b, rfl, hb3⟩; have H3 := Lib.hid (HB.out.trans ((H1.out.trans (hb3.mono H1.out.size)).mono HB.out.size)); clear hb3)
    all_goals
      go_ret
      exact ⟨rfl, H3.out⟩
  have d9 : decide ((100 : Int) < (n0 : Int)) = false := decide_eq_false (by omega)
  have d9' : decide (100 < n0) = false := decide_eq_false (by omega)
  by_cases h0 : y = 0
  rotate_left
  · have d0 : (y == 0) = false := by simpa using h0
    rw [if_pos h0] at hE
    rw [hE] at HBD
    clear h0 hE
    have HCK := Lib.hid (fun wr (hb : Below W.heap.size W wr) => HCKA.out wr hb)
    go_enter Tryd.func6, Tryd.ntmps6
    go_upto_region 1 with fail
    rw [← HW.out]
    go_upto_region 3 with ((with_reducible refine (HLVS.out).mono ?_); rintro e w1 ⟨rfl, hb1⟩; have H1 := Lib.hid hb1; clear hb1)
    obtain ⟨c0, c1, c2⟩ := HCS.out w1 H1.out
    have HLP := Lib.hid (LightProg_any p Ab Ao nb cb no co 60 w1 (HP.out w1 H1.out))
    go_wp2_with (first | ((with_reducible refine (HLP.out).mono ?_); rintro e w3 ⟨b, rfl, hb3⟩; have H3 := Lib.hid (H1.out.trans (hb3.mono H1.out.size)); clear hb3; clear c0 c1 c2; obtain ⟨c0, c1, c2⟩ := HCS.out w3 H3.out) | ((with_reducible refine (HBD.out _ H3.out).mono ?_); rintro e w4 ⟨vb, rfl, hb4⟩; have H4 := Lib.hid (H3.out.trans (hb4.mono H3.out.size)); clear hb4; clear c0 c1 c2; obtain ⟨c0, c1, c2⟩ := HCS.out w4 H4.out) | ((with_reducible refine (HCKA.out _ H4.out).mono ?_); rintro e w5 ⟨rfl, hb5⟩; have H5 := Lib.hid (H4.out.trans (hb5.mono H4.out.size)); clear hb5; clear c0 c1 c2; obtain ⟨c0, c1, c2⟩ := HCS.out w5 H5.out))
    rotate_left
    · go_ret
      exact ⟨rfl, HB.out.trans (H3.out.mono HB.out.size)⟩
    have HC5 := Lib.hid (HCS.out w5 H5.out)
    clear c0 c1 c2
    refine wp_code (c := partL Tryd.f6 0) (by kernel_rfl) ?_
    refine calls_l0 (pl := pl) (n := n0) (cp := cp) _ _ (HPL.out w5 H5.out) (by omega) ?_ ?_
    rotate_left
    · intro v11 v43 v44 v45 v46 v47 v48 v49 v50 v51 v52 v53
      go_wp2
      go_ret
      exact ⟨rfl, HB.out.trans (H5.out.mono HB.out.size)⟩
    intro hlo v6 v11 v43 v44 v45 v46 v47 v48 v49 v50 v51 v52 v53
    have HLO := Lib.hid hlo
    clear hlo
    go_wp2
    refine wp_code (c := partR Tryd.f6 14) (by kernel_rfl) ?_
    refine calls_r14 (p := p) (Ab := Ab) (Ao := Ao) (nb := nb) (cb := cb) (no := no) (co := co) (n0 := n0) (cp := cp) (pl := pl) _ _ (HP.out w5 H5.out) (HPL.out w5 H5.out) HC5.out.1 HC5.out.2.1 HC5.out.2.2 (Nat.lt_of_lt_of_le HLT.out H5.out.size) hbig (fun x hx => ⟨HLO.out x hx, HBX.out x hx⟩) ?_
    intro v54 v55 v56 v57 v58 v59 v60 v61 v62 v63 v64 v65 v66 v67 v68 v69 v70 v71 v72 v73 v74 v75 v76 v77 v78 v79 v80 v81 w6 hb6
    have H6 := Lib.hid (H5.out.trans (hb6.mono H5.out.size))
    clear hb6
    go_wp2
    go_ret
    exact ⟨rfl, HB.out.trans (H6.out.mono HB.out.size)⟩
  subst h0
  rw [if_neg (by decide)] at hE
  by_cases m1 : pool < 0
  · have d1 : decide (pool < (0 : Int)) = true := decide_eq_true m1
    rw [if_pos (.inl m1)] at hE
    rw [hE] at HBD
    clear m1 hE
    have HCK := Lib.hid (fun wr (hb : Below W.heap.size W wr) => HCKA.out wr hb)
    go_enter Tryd.func6, Tryd.ntmps6
    go_upto_region 1 with fail
    rw [← HW.out]
    go_upto_region 3 with ((with_reducible refine (HLVS.out).mono ?_); rintro e w1 ⟨rfl, hb1⟩; have H1 := Lib.hid hb1; clear hb1)
    obtain ⟨c0, c1, c2⟩ := HCS.out w1 H1.out
    have HLP := Lib.hid (LightProg_any p Ab Ao nb cb no co 60 w1 (HP.out w1 H1.out))
    go_wp2_with (first | ((with_reducible refine (HLP.out).mono ?_); rintro e w3 ⟨b, rfl, hb3⟩; have H3 := Lib.hid (H1.out.trans (hb3.mono H1.out.size)); clear hb3; clear c0 c1 c2; obtain ⟨c0, c1, c2⟩ := HCS.out w3 H3.out) | ((with_reducible refine (HBD.out _ H3.out).mono ?_); rintro e w4 ⟨vb, rfl, hb4⟩; have H4 := Lib.hid (H3.out.trans (hb4.mono H3.out.size)); clear hb4; clear c0 c1 c2; obtain ⟨c0, c1, c2⟩ := HCS.out w4 H4.out) | ((with_reducible refine (HCKA.out _ H4.out).mono ?_); rintro e w5 ⟨rfl, hb5⟩; have H5 := Lib.hid (H4.out.trans (hb5.mono H4.out.size)); clear hb5; clear c0 c1 c2; obtain ⟨c0, c1, c2⟩ := HCS.out w5 H5.out))
    rotate_left
    · go_ret
      exact ⟨rfl, HB.out.trans (H3.out.mono HB.out.size)⟩
    have HC5 := Lib.hid (HCS.out w5 H5.out)
    clear c0 c1 c2
    refine wp_code (c := partL Tryd.f6 0) (by kernel_rfl) ?_
    refine calls_l0 (pl := pl) (n := n0) (cp := cp) _ _ (HPL.out w5 H5.out) (by omega) ?_ ?_
    rotate_left
    · intro v11 v43 v44 v45 v46 v47 v48 v49 v50 v51 v52 v53
      go_wp2
      go_ret
      exact ⟨rfl, HB.out.trans (H5.out.mono HB.out.size)⟩
    intro hlo v6 v11 v43 v44 v45 v46 v47 v48 v49 v50 v51 v52 v53
    have HLO := Lib.hid hlo
    clear hlo
    go_wp2
    refine wp_code (c := partR Tryd.f6 14) (by kernel_rfl) ?_
    refine calls_r14 (p := p) (Ab := Ab) (Ao := Ao) (nb := nb) (cb := cb) (no := no) (co := co) (n0 := n0) (cp := cp) (pl := pl) _ _ (HP.out w5 H5.out) (HPL.out w5 H5.out) HC5.out.1 HC5.out.2.1 HC5.out.2.2 (Nat.lt_of_lt_of_le HLT.out H5.out.size) hbig (fun x hx => ⟨HLO.out x hx, HBX.out x hx⟩) ?_
    intro v54 v55 v56 v57 v58 v59 v60 v61 v62 v63 v64 v65 v66 v67 v68 v69 v70 v71 v72 v73 v74 v75 v76 v77 v78 v79 v80 v81 w6 hb6
    have H6 := Lib.hid (H5.out.trans (hb6.mono H5.out.size))
    clear hb6
    go_wp2
    go_ret
    exact ⟨rfl, HB.out.trans (H6.out.mono HB.out.size)⟩
  have d1 : decide (pool < (0 : Int)) = false := decide_eq_false m1
  by_cases m2 : 16 < pool
  · have d2 : decide ((16 : Int) < pool) = true := decide_eq_true m2
    rw [if_pos (.inr m2)] at hE
    rw [hE] at HBD
    clear m1 m2 hE
    have HCK := Lib.hid (fun wr (hb : Below W.heap.size W wr) => HCKA.out wr hb)
    go_enter Tryd.func6, Tryd.ntmps6
    go_upto_region 1 with fail
    rw [← HW.out]
    go_upto_region 3 with ((with_reducible refine (HLVS.out).mono ?_); rintro e w1 ⟨rfl, hb1⟩; have H1 := Lib.hid hb1; clear hb1)
    obtain ⟨c0, c1, c2⟩ := HCS.out w1 H1.out
    have HLP := Lib.hid (LightProg_any p Ab Ao nb cb no co 60 w1 (HP.out w1 H1.out))
    go_wp2_with (first | ((with_reducible refine (HLP.out).mono ?_); rintro e w3 ⟨b, rfl, hb3⟩; have H3 := Lib.hid (H1.out.trans (hb3.mono H1.out.size)); clear hb3; clear c0 c1 c2; obtain ⟨c0, c1, c2⟩ := HCS.out w3 H3.out) | ((with_reducible refine (HBD.out _ H3.out).mono ?_); rintro e w4 ⟨vb, rfl, hb4⟩; have H4 := Lib.hid (H3.out.trans (hb4.mono H3.out.size)); clear hb4; clear c0 c1 c2; obtain ⟨c0, c1, c2⟩ := HCS.out w4 H4.out) | ((with_reducible refine (HCKA.out _ H4.out).mono ?_); rintro e w5 ⟨rfl, hb5⟩; have H5 := Lib.hid (H4.out.trans (hb5.mono H4.out.size)); clear hb5; clear c0 c1 c2; obtain ⟨c0, c1, c2⟩ := HCS.out w5 H5.out))
    rotate_left
    · go_ret
      exact ⟨rfl, HB.out.trans (H3.out.mono HB.out.size)⟩
    have HC5 := Lib.hid (HCS.out w5 H5.out)
    clear c0 c1 c2
    refine wp_code (c := partL Tryd.f6 0) (by kernel_rfl) ?_
    refine calls_l0 (pl := pl) (n := n0) (cp := cp) _ _ (HPL.out w5 H5.out) (by omega) ?_ ?_
    rotate_left
    · intro v11 v43 v44 v45 v46 v47 v48 v49 v50 v51 v52 v53
      go_wp2
      go_ret
      exact ⟨rfl, HB.out.trans (H5.out.mono HB.out.size)⟩
    intro hlo v6 v11 v43 v44 v45 v46 v47 v48 v49 v50 v51 v52 v53
    have HLO := Lib.hid hlo
    clear hlo
    go_wp2
    refine wp_code (c := partR Tryd.f6 14) (by kernel_rfl) ?_
    refine calls_r14 (p := p) (Ab := Ab) (Ao := Ao) (nb := nb) (cb := cb) (no := no) (co := co) (n0 := n0) (cp := cp) (pl := pl) _ _ (HP.out w5 H5.out) (HPL.out w5 H5.out) HC5.out.1 HC5.out.2.1 HC5.out.2.2 (Nat.lt_of_lt_of_le HLT.out H5.out.size) hbig (fun x hx => ⟨HLO.out x hx, HBX.out x hx⟩) ?_
    intro v54 v55 v56 v57 v58 v59 v60 v61 v62 v63 v64 v65 v66 v67 v68 v69 v70 v71 v72 v73 v74 v75 v76 v77 v78 v79 v80 v81 w6 hb6
    have H6 := Lib.hid (H5.out.trans (hb6.mono H5.out.size))
    clear hb6
    go_wp2
    go_ret
    exact ⟨rfl, HB.out.trans (H6.out.mono HB.out.size)⟩
  have d2 : decide ((16 : Int) < pool) = false := decide_eq_false m2
  rw [if_neg (by rw [not_or]; exact ⟨m1, m2⟩)] at hE
  rw [hE] at HBD
  clear m1 m2 hE
  have HCK := Lib.hid (fun wr (hb : Below W.heap.size W wr) => HCKA.out wr hb)
  go_enter Tryd.func6, Tryd.ntmps6
  go_upto_region 1 with fail
  rw [← HW.out]
  go_upto_region 3 with ((with_reducible refine (HLVS.out).mono ?_); rintro e w1 ⟨rfl, hb1⟩; have H1 := Lib.hid hb1; clear hb1)
  obtain ⟨c0, c1, c2⟩ := HCS.out w1 H1.out
  have HLP := Lib.hid (LightProg_any p Ab Ao nb cb no co 60 w1 (HP.out w1 H1.out))
  go_wp2_with (first | ((with_reducible refine (HLP.out).mono ?_); rintro e w3 ⟨b, rfl, hb3⟩; have H3 := Lib.hid (H1.out.trans (hb3.mono H1.out.size)); clear hb3; clear c0 c1 c2; obtain ⟨c0, c1, c2⟩ := HCS.out w3 H3.out) | ((with_reducible refine (HBD.out _ H3.out).mono ?_); rintro e w4 ⟨vb, rfl, hb4⟩; have H4 := Lib.hid (H3.out.trans (hb4.mono H3.out.size)); clear hb4; clear c0 c1 c2; obtain ⟨c0, c1, c2⟩ := HCS.out w4 H4.out) | ((with_reducible refine (HCKA.out _ H4.out).mono ?_); rintro e w5 ⟨rfl, hb5⟩; have H5 := Lib.hid (H4.out.trans (hb5.mono H4.out.size)); clear hb5; clear c0 c1 c2; obtain ⟨c0, c1, c2⟩ := HCS.out w5 H5.out))
  rotate_left
  · go_ret
    exact ⟨rfl, HB.out.trans (H3.out.mono HB.out.size)⟩
  have HC5 := Lib.hid (HCS.out w5 H5.out)
  clear c0 c1 c2
  refine wp_code (c := partL Tryd.f6 0) (by kernel_rfl) ?_
  refine calls_l0 (pl := pl) (n := n0) (cp := cp) _ _ (HPL.out w5 H5.out) (by omega) ?_ ?_
  rotate_left
  · intro v11 v43 v44 v45 v46 v47 v48 v49 v50 v51 v52 v53
    go_wp2
    go_ret
    exact ⟨rfl, HB.out.trans (H5.out.mono HB.out.size)⟩
  intro hlo v6 v11 v43 v44 v45 v46 v47 v48 v49 v50 v51 v52 v53
  have HLO := Lib.hid hlo
  clear hlo
  go_wp2
  refine wp_code (c := partR Tryd.f6 14) (by kernel_rfl) ?_
  refine calls_r14 (p := p) (Ab := Ab) (Ao := Ao) (nb := nb) (cb := cb) (no := no) (co := co) (n0 := n0) (cp := cp) (pl := pl) _ _ (HP.out w5 H5.out) (HPL.out w5 H5.out) HC5.out.1 HC5.out.2.1 HC5.out.2.2 (Nat.lt_of_lt_of_le HLT.out H5.out.size) hbig (fun x hx => ⟨HLO.out x hx, HBX.out x hx⟩) ?_
  intro v54 v55 v56 v57 v58 v59 v60 v61 v62 v63 v64 v65 v66 v67 v68 v69 v70 v71 v72 v73 v74 v75 v76 v77 v78 v79 v80 v81 w6 hb6
  have H6 := Lib.hid (H5.out.trans (hb6.mono H5.out.size))
  clear hb6
  go_wp2
  go_ret
  exact ⟨rfl, HB.out.trans (H6.out.mono HB.out.size)⟩

end Go.Proofs.YtppoiahhaclleaaDoor

/- AllocCalls: Spans, places and slots are told as the document says. -/
namespace Go.Proofs.YtppoiahhaclleaaDoor.allocCalls
open Go.ChangeShapes Go.WideShapes Go.ChangeAt Go.RowKit

theorem own : ownKnob Tryd.prog.godebug = none := by kernel_rfl
theorem laidOut : laidOutB Tryd.prog = true := by kernel_rfl

theorem door_met (os : Os) (args : Array Value) : laidMetH Tryd.prog Rows.allocCallsRow.laid ((World.doorLaid Tryd.prog 14 os).forCall (fun _ _ => 0) ⟨#[], args, []⟩).memory :=
  laidMetH_of_parts3 (fuel := 8) (laidMet_of_run' 8 (by kernel_rfl) (by kernel_rfl)) (by kernel_rfl) (by kernel_rfl)
theorem tz_of {W : World} (h : laidMetH Tryd.prog Rows.allocCallsRow.laid W) : TzAt W := by
  rw [MakeChecks.laidMetH_plain _ _ _ (by kernel_rfl)] at h
  have hT : Lib.TabIs Tryd.prog W "math/bits.deBruijn64tab" .u8 (Lib.deBruijn64tab.map fun k => ((k : Nat) : Int)) :=
    Lib.tabIs_of_head (rest := []) (g := 0) (t := 121) (e := 5) (n := 64) (by kernel_rfl) (by kernel_rfl) Tryd.underlying121 Tryd.underlying5 (by kernel_rfl) (by kernel_rfl) h
  intro j hj
  have h1 := hT.cell (g := 0) (by kernel_rfl) j (by rw [List.length_map]; exact hj)
  rw [List.getD_eq_getElem?_getD, List.getElem?_map] at h1
  rw [List.getD_eq_getElem?_getD]
  obtain ⟨x, hx⟩ : ∃ x, Lib.deBruijn64tab[j]? = some x := ⟨_, List.getElem?_eq_getElem hj⟩
  rw [hx] at h1 ⊢
  exact h1

set_option pp.deepTerms true in
set_option pp.maxSteps 1000000 in
set_option maxRecDepth 100000 in
theorem lifted (os : Os) (started : os.Started) (H : Type) (enc : TypeId × Value → H) :
    ReturnsInHanded {} Tryd.checked os 6 .any (fun w args => (Rows.allocCallsSpec.pre enc Tryd.prog Tryd.f6 [] false w args ∧ laidMetH Tryd.prog Rows.allocCallsRow.laid w) ∧ sizedMet enc Tryd.prog Tryd.f6 (OpenSpec.ofChange Rows.allocCallsSpec) false w args)
      (Rows.allocCallsSpec.post enc Tryd.prog Tryd.f6 false true false false) := by
  refine returnsInHanded_of_change_and (C := Tryd.checked) (X := fun w _ => laidMetH Tryd.prog Rows.allocCallsRow.laid w) (fun _ _ _ hh h => h.of_heap hh) own started (by kernel_rfl) Tryd.func6
    (ChangeSpec.witness_shaped (enc := enc) (C := Tryd.checked) (os := os) (X := fun w _ => laidMetH Tryd.prog Rows.allocCallsRow.laid w) false (World.doorLaid Tryd.prog 14 os) #[.agg #[.int .i64 0, .slice none 0 0, .slice none 0 0], .int .i64 0, .slice none 0 0] 8 rfl (World.shaped_of_RefB (by kernel_rfl) (by kernel_rfl)) (by kernel_rfl) (by kernel_rfl) (by kernel_rfl) (door_met os _)) ?_
  intro W base args ds gs before hval0 hW hcnd hreach hL _
  have hval : ∀ (j : Nat) t v, Tryd.f6.params[j]? = some t → args[j]? = some v → Value.okWide Tryd.prog W .any base t v := hval0
  have HT : TzAt W := tz_of hL
  have hW' := hW
  obtain ⟨p, q, hA0, hV, rfl, hfz, hnd⟩ := hW
  have hA : DataW.TrodAll enc Tryd.prog W 0 (fun _ => true) true Tryd.f6.params.toList args.toList ds p := hA0
  rw [Tryd.params6] at hA hval
  obtain ⟨v0, vs0, d0, ds0, p0, q0, hargs, rfl, rfl, h0, r0⟩ := trodAll_cons hA
  obtain ⟨v1, vs1, d1, ds1, p1, q1, rfl, rfl, rfl, h1, r1⟩ := trodAll_cons r0
  obtain ⟨v2, vs2, d2, ds2, p2, q2, rfl, rfl, rfl, h2, r2⟩ := trodAll_cons r1
  obtain ⟨rfl, rfl, rfl⟩ := trodAll_nil r2
  obtain rfl : args = #[v0, v1, v2] := by cases args; simp_all
  obtain ⟨rfl, rfl⟩ := trodVars_none hV
  have k0 := h0
  have lt0 : ∀ x ∈ p0, x.block < W.heap.size := by obtain ⟨m, hm⟩ := k0; exact DataW.trod_lt m _ _ _ hm
  obtain ⟨cs0, rfl, hcs0⟩ := okWide_struct Tryd.underlying25 (hval 0 25 v0 rfl rfl)
  obtain ⟨x0, Ab0, Ao0, nb0, cb0, no0, co0, rfl, hp0, hr0⟩ := open_prog h0
  obtain ⟨a1, rfl, rfl, rfl, w1⟩ := open_int Tryd.underlying3 (hval 1 3 v1 rfl rfl) h1
  have k2 := h2
  have lt2 : ∀ x ∈ p2, x.block < W.heap.size := by obtain ⟨m, hm⟩ := k2; exact DataW.trod_lt m _ _ _ hm
  obtain ⟨A2, len2, cap2, rfl⟩ := okWide_slice Tryd.underlying35 (hval 2 35 v2 rfl rfl)
  obtain ⟨l2, hl2, hn2⟩ := open_intsA h2
  clear hA0 hval0 hcnd hreach
  refine (AllocCalls_walk _ _ _ _ _ _ _ _ _ _ _ _ W hp0 hl2 hn2.1 HT).mono fun e W' ⟨he, bel⟩ => ?_
  subst he
  exact ⟨_, rfl, _, _, _, [], _, [], hW', trodAll_mk1 (shut_bool Tryd.underlying4 _), (trodAll_cons_mk (Below.trod laidOut (by kernel_rfl) (of_decide_eq_true (by kernel_rfl)) k0 bel lt0) (trodAll_cons_mk (shut_int Tryd.underlying3 w1) (trodAll_cons_mk (Below.trod laidOut (by kernel_rfl) (of_decide_eq_true (by kernel_rfl)) k2 bel lt2) trodAll_mk0))), rfl, bel.frame _, fun h => by cases h⟩

theorem over : Rows.AllocCallsSaid :=
  OpenClaim.holds_of_wide 6 Tryd.f6 rfl rfl rfl rfl rfl rfl rfl ⟨rfl, rfl, rfl, rfl, rfl⟩ rfl rfl rfl rfl rfl (by kernel_rfl) Tryd.func6 (by kernel_rfl)
    (of_decide_eq_true (by kernel_rfl)) (by unfold Func.isWrapper; first | (rw [if_pos (by decide +kernel)]; kernel_rfl) | (rw [if_neg (by decide +kernel)]; exact ⟨rfl, rfl⟩))
    (fun os started H enc _ => lifted os started H enc)

theorem proved : Rows.AllocCallsCardSaid :=
  Claim7.holds_tied_plain_at .later [] [.data] true (true, "d51b28ec476ad5e110a5fa4d00725c99c0202bcd09048f8c0e32b6214a67fac0") false
    over (fun _ h => by cases h) (by kernel_rfl) (fun _ h => by cases h) allocCalls_row_tie rfl ⟨rfl, rfl⟩ (by kernel_rfl) rfl
    (fun f fn hf hfn => by
      obtain rfl : f = 6 := Option.some.inj ((show Tryd.prog.funcNamed "keysmith/keysmithlaw14.AllocCalls" = some 6 by kernel_rfl).symm.trans hf) |>.symm
      obtain rfl : fn = Tryd.f6 := (Option.some.inj (Tryd.func6.symm.trans hfn)).symm
      exact ⟨by kernel_rfl, fun j t ht => by
        rw [Tryd.params6] at ht
        have hm : t ∈ [25, 3, 35] := by simpa [or_comm, or_assoc, or_left_comm] using Array.mem_of_getElem? ht
        have hall : ([25, 3, 35].all fun u => !Tryd.prog.wantsStandIn u) = true := by kernel_rfl
        exact (show Tryd.prog.wantsStandIn t = false by simpa using List.all_eq_true.1 hall t hm)⟩)
    (by kernel_rfl)
#print axioms proved
end Go.Proofs.YtppoiahhaclleaaDoor.allocCalls
