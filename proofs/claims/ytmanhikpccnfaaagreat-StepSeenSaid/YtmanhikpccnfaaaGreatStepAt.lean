/- A stepper, in memory. -/
import Derived.Test.YtmanhikpccnfaaaGreatWordsB
import Derived.Test.YtmanhikpccnfaaaGreatWord
namespace Go.Proofs.YtmanhikpccnfaaaGreat
open Go.RowKit

def stRow (s : St) : List Value := s.regs.map (fun r => Value.int .u64 (r : Nat)) ++ [.int .u64 s.pc, .bool s.cf, .bool s.of_, .bool s.zf]
def insRow (i : Ins) : List Value := [.int .i64 i.op, .int .i64 i.d, .int .i64 i.s, .int .i64 i.t, .int .i64 i.base, .int .i64 i.index, .int .i64 i.scale, .int .i64 i.disp, .int .i64 i.imm]
/-- A stepper. -/
structure Stp where
  st : St
  i : Ins
  m : Value
  l : Value
  e : Int
def stpRow (x : Stp) : List Value := stRow x.st ++ (insRow x.i ++ [x.m, x.l, .int .i64 x.e])

theorem sixteen {α : Type} (l : List α) (h : l.length = 16) : ∃ a0 a1 a2 a3 a4 a5 a6 a7 a8 a9 a10 a11 a12 a13 a14 a15, l = [a0, a1, a2, a3, a4, a5, a6, a7, a8, a9, a10, a11, a12, a13, a14, a15] := by
  match l, h with
  | [a0, a1, a2, a3, a4, a5, a6, a7, a8, a9, a10, a11, a12, a13, a14, a15], _ => exact ⟨a0, a1, a2, a3, a4, a5, a6, a7, a8, a9, a10, a11, a12, a13, a14, a15, rfl⟩

/-- An event. -/
structure Ev where
  kind : Int
  addr : Nat
def evRow (x : Ev) : List Value := [.int .i64 x.kind, .int .u64 x.addr]

/-- A stepper stands in block b, what it has seen in a block of its own; both from base on. -/
structure Run (w : World) (base b : Nat) (x : Stp) (evs : List Ev) : Prop where
  at_ : w.heap[b]? = some (.cells (stpRow x).toArray 78 (0, 0))
  ok : StOk x.st
  le : base ≤ b
  row : w.ownsRow base 47 2 x.l evs.length (evs.map evRow).flatten
  few : evs.length ≤ 100

theorem Run.lt {w : World} {base b : Nat} {x : Stp} {evs : List Ev} (h : Run w base b x evs) : b < w.heap.size := by
  rcases Nat.lt_or_ge b w.heap.size with h' | h'
  · exact h'
  · have := h.at_; rw [Array.getElem?_eq_none h'] at this; cases this
theorem Run.base_le {w : World} {base b : Nat} {x : Stp} {evs : List Ev} (h : Run w base b x evs) : base ≤ w.heap.size := Nat.le_trans h.le (Nat.le_of_lt h.lt)
theorem Run.frozen {w : World} {base b : Nat} {x : Stp} {evs : List Ev} (h : Run w base b x evs) (k : Nat) : w.frozen? ⟨b, k, none⟩ = false := by simp [World.frozen?, h.at_]
theorem Run.get {w : World} {base b : Nat} {x : Stp} {evs : List Ev} (h : Run w base b x evs) (k : Nat) : w.cell? ⟨b, k, none⟩ = (stpRow x)[k]? := by simp [World.cell?, h.at_]

theorem stpRow_len {x : Stp} (h : x.st.regs.length = 16) : (stpRow x).length = 32 := by simp [stpRow, stRow, insRow, h]
theorem stpRow_reg {x : Stp} {k : Nat} {r : Nat} (hr : x.st.regs[k]? = some r) : (stpRow x)[k]? = some (.int .u64 r) := by
  have hk := (List.getElem?_eq_some_iff.1 hr).1
  rw [stpRow, stRow, List.append_assoc, List.getElem?_append_left (by simpa using hk), List.getElem?_map, hr]; rfl
theorem Run.reg {w : World} {base b : Nat} {x : Stp} {evs : List Ev} (h : Run w base b x evs) {k : Nat} {r : Nat} (hr : x.st.regs[k]? = some r) : w.cell? ⟨b, k, none⟩ = some (.int .u64 r) := by rw [h.get, stpRow_reg hr]
theorem stpRow_hi {x : Stp} (h : x.st.regs.length = 16) (k : Nat) : (stpRow x)[16 + k]? = ([.int .u64 x.st.pc, .bool x.st.cf, .bool x.st.of_, .bool x.st.zf] ++ (insRow x.i ++ [x.m, x.l, .int .i64 x.e]))[k]? := by
  rw [stpRow, stRow, List.append_assoc, List.getElem?_append_right (by simp [h])]
  simp [h]
/-- All cells but the registers'. -/
theorem Run.cells {w : World} {base b : Nat} {x : Stp} {evs : List Ev} (h : Run w base b x evs) :
    w.cell? ⟨b, 16, none⟩ = some (.int .u64 x.st.pc) ∧ w.cell? ⟨b, 17, none⟩ = some (.bool x.st.cf) ∧ w.cell? ⟨b, 18, none⟩ = some (.bool x.st.of_) ∧ w.cell? ⟨b, 19, none⟩ = some (.bool x.st.zf) ∧
    w.cell? ⟨b, 20, none⟩ = some (.int .i64 x.i.op) ∧ w.cell? ⟨b, 21, none⟩ = some (.int .i64 x.i.d) ∧ w.cell? ⟨b, 22, none⟩ = some (.int .i64 x.i.s) ∧ w.cell? ⟨b, 23, none⟩ = some (.int .i64 x.i.t) ∧
    w.cell? ⟨b, 24, none⟩ = some (.int .i64 x.i.base) ∧ w.cell? ⟨b, 25, none⟩ = some (.int .i64 x.i.index) ∧ w.cell? ⟨b, 26, none⟩ = some (.int .i64 x.i.scale) ∧ w.cell? ⟨b, 27, none⟩ = some (.int .i64 x.i.disp) ∧
    w.cell? ⟨b, 28, none⟩ = some (.int .i64 x.i.imm) ∧ w.cell? ⟨b, 29, none⟩ = some x.m ∧ w.cell? ⟨b, 30, none⟩ = some x.l ∧ w.cell? ⟨b, 31, none⟩ = some (.int .i64 x.e) := by
  have hl := h.ok.len
  simp only [h.get]
  exact ⟨stpRow_hi hl 0, stpRow_hi hl 1, stpRow_hi hl 2, stpRow_hi hl 3, stpRow_hi hl 4, stpRow_hi hl 5, stpRow_hi hl 6, stpRow_hi hl 7, stpRow_hi hl 8, stpRow_hi hl 9, stpRow_hi hl 10, stpRow_hi hl 11, stpRow_hi hl 12, stpRow_hi hl 13, stpRow_hi hl 14, stpRow_hi hl 15⟩

/-- The row of events is not the stepper's block. -/
theorem Run.apart {w : World} {base b : Nat} {x : Stp} {evs : List Ev} (h : Run w base b x evs) : ∀ k, x.l.ownBlock = some k → k ≠ b := by
  intro k hk e
  subst e
  rcases h.row.2 with ⟨h1, _⟩ | ⟨g, cap, cur, h1, _, h2, _⟩
  · rw [h1] at hk; cases hk
  · rw [h1] at hk
    cases hk
    rw [h.at_] at h2
    injection h2 with h2
    injection h2 with _ h2
    exact absurd h2 (by decide)

/-- What leaves b and the row alone. -/
theorem own_keep2 {w w' : World} {base e sz n : Nat} {v : Value} {xs : List Value} (h : w.ownsRow base e sz v n xs) (hk : ∀ g, v.ownBlock = some g → w'.heap[g]? = w.heap[g]?) : w'.ownsRow base e sz v n xs := by
  rcases h.2 with ⟨h1, h2⟩ | ⟨g', cap', cur, hv, hg, hh, hr⟩
  · exact ⟨h.1, .inl ⟨h1, h2⟩⟩
  · exact ⟨h.1, .inr ⟨g', cap', cur, hv, hg, (hk g' (by rw [hv]; rfl)).trans hh, hr⟩⟩
theorem own_lt {w : World} {base e sz n : Nat} {v : Value} {xs : List Value} (h : w.ownsRow base e sz v n xs) : ∀ g, v.ownBlock = some g → g < w.heap.size ∧ base ≤ g := by
  intro k hk
  rcases h.2 with ⟨h1, _⟩ | ⟨g, cap, cur, h1, hg, h2, _⟩
  · rw [h1] at hk; cases hk
  · rw [h1] at hk
    cases hk
    rcases Nat.lt_or_ge g w.heap.size with h' | h'
    · exact ⟨h', hg⟩
    · rw [Array.getElem?_eq_none h'] at h2; cases h2

theorem Run.next {w w' : World} {base b : Nat} {x : Stp} {evs : List Ev} (h : Run w base b x evs) (hb : Below w.heap.size w w') : Run w' base b x evs :=
  ⟨(hb.block b h.lt).trans h.at_, h.ok, h.le, own_keep2 h.row fun g hg => hb.block g (own_lt h.row g hg).1, h.few⟩
theorem Run.chg {w w' : World} {F : Nat → Prop} {base b : Nat} {x : Stp} {evs : List Ev} (h : Run w base b x evs) (hc : Chg F w w') (hF : ∀ k, F k → k < base) : Run w' base b x evs :=
  ⟨(hc.block b h.lt (fun h' => by have := hF b h'; have := h.le; omega)).trans h.at_, h.ok, h.le, own_keep2 h.row fun g hg => hc.block g (own_lt h.row g hg).1 (fun h' => by have := hF g h'; have := (own_lt h.row g hg).2; omega), h.few⟩

theorem Run.set_ {w : World} {base b : Nat} {x y : Stp} {evs : List Ev} (h : Run w base b x evs) (k : Nat) (v : Value) (hy : (stpRow x).set k v = stpRow y) (hok : StOk y.st) (hl : y.l = x.l) : Run (w.setCell ⟨b, k, none⟩ v) base b y evs := by
  refine ⟨?_, hok, h.le, ?_, h.few⟩
  · rw [World.setCell, ← hy]
    simp only [Array.getElem?_modify, if_pos, h.at_, Option.map_some]
    simp
  · rw [hl]
    exact own_keep2 h.row fun g hg => Below.heap_setCell _ _ _ _ (h.apart g hg)

theorem set_pc (x : Stp) (h : x.st.regs.length = 16) (n : Nat) : (stpRow x).set 16 (.int .u64 n) = stpRow { x with st := { x.st with pc := n } } := by
  rcases x with ⟨⟨regs, pc, cf, of_, zf⟩, i, m, l, e⟩
  obtain ⟨a0, a1, a2, a3, a4, a5, a6, a7, a8, a9, a10, a11, a12, a13, a14, a15, rfl⟩ := sixteen regs h
  rfl
theorem set_cf (x : Stp) (h : x.st.regs.length = 16) (n : Bool) : (stpRow x).set 17 (.bool n) = stpRow { x with st := { x.st with cf := n } } := by
  rcases x with ⟨⟨regs, pc, cf, of_, zf⟩, i, m, l, e⟩
  obtain ⟨a0, a1, a2, a3, a4, a5, a6, a7, a8, a9, a10, a11, a12, a13, a14, a15, rfl⟩ := sixteen regs h
  rfl
theorem set_of (x : Stp) (h : x.st.regs.length = 16) (n : Bool) : (stpRow x).set 18 (.bool n) = stpRow { x with st := { x.st with of_ := n } } := by
  rcases x with ⟨⟨regs, pc, cf, of_, zf⟩, i, m, l, e⟩
  obtain ⟨a0, a1, a2, a3, a4, a5, a6, a7, a8, a9, a10, a11, a12, a13, a14, a15, rfl⟩ := sixteen regs h
  rfl
theorem set_zf (x : Stp) (h : x.st.regs.length = 16) (n : Bool) : (stpRow x).set 19 (.bool n) = stpRow { x with st := { x.st with zf := n } } := by
  rcases x with ⟨⟨regs, pc, cf, of_, zf⟩, i, m, l, e⟩
  obtain ⟨a0, a1, a2, a3, a4, a5, a6, a7, a8, a9, a10, a11, a12, a13, a14, a15, rfl⟩ := sixteen regs h
  rfl
theorem set_e (x : Stp) (h : x.st.regs.length = 16) (n : Int) : (stpRow x).set 31 (.int .i64 n) = stpRow { x with e := n } := by
  rcases x with ⟨⟨regs, pc, cf, of_, zf⟩, i, m, l, e⟩
  obtain ⟨a0, a1, a2, a3, a4, a5, a6, a7, a8, a9, a10, a11, a12, a13, a14, a15, rfl⟩ := sixteen regs h
  rfl
theorem set_l (x : Stp) (h : x.st.regs.length = 16) (v : Value) : (stpRow x).set 30 v = stpRow { x with l := v } := by
  rcases x with ⟨⟨regs, pc, cf, of_, zf⟩, i, m, l, e⟩
  obtain ⟨a0, a1, a2, a3, a4, a5, a6, a7, a8, a9, a10, a11, a12, a13, a14, a15, rfl⟩ := sixteen regs h
  rfl
theorem set_reg (x : Stp) (k : Nat) (hk : k < x.st.regs.length) (n : Nat) : (stpRow x).set k (.int .u64 n) = stpRow { x with st := { x.st with regs := x.st.regs.set k n } } := by
  rw [stpRow, stRow, List.append_assoc, List.set_append_left _ _ (by simpa using hk), stpRow, stRow, List.append_assoc, List.map_set]

theorem Run.setPc {w : World} {base b : Nat} {x : Stp} {evs : List Ev} (h : Run w base b x evs) {n : Nat} (hn : n < 18446744073709551616) : Run (w.setCell ⟨b, 16, none⟩ (.int .u64 n)) base b { x with st := { x.st with pc := n } } evs :=
  h.set_ 16 _ (set_pc x h.ok.len n) ⟨h.ok.len, h.ok.regs, hn⟩ rfl
theorem Run.setCf {w : World} {base b : Nat} {x : Stp} {evs : List Ev} (h : Run w base b x evs) (n : Bool) : Run (w.setCell ⟨b, 17, none⟩ (.bool n)) base b { x with st := { x.st with cf := n } } evs :=
  h.set_ 17 _ (set_cf x h.ok.len n) ⟨h.ok.len, h.ok.regs, h.ok.pc⟩ rfl
theorem Run.setOf {w : World} {base b : Nat} {x : Stp} {evs : List Ev} (h : Run w base b x evs) (n : Bool) : Run (w.setCell ⟨b, 18, none⟩ (.bool n)) base b { x with st := { x.st with of_ := n } } evs :=
  h.set_ 18 _ (set_of x h.ok.len n) ⟨h.ok.len, h.ok.regs, h.ok.pc⟩ rfl
theorem Run.setZf {w : World} {base b : Nat} {x : Stp} {evs : List Ev} (h : Run w base b x evs) (n : Bool) : Run (w.setCell ⟨b, 19, none⟩ (.bool n)) base b { x with st := { x.st with zf := n } } evs :=
  h.set_ 19 _ (set_zf x h.ok.len n) ⟨h.ok.len, h.ok.regs, h.ok.pc⟩ rfl
theorem Run.setE {w : World} {base b : Nat} {x : Stp} {evs : List Ev} (h : Run w base b x evs) (n : Int) : Run (w.setCell ⟨b, 31, none⟩ (.int .i64 n)) base b { x with e := n } evs :=
  h.set_ 31 _ (set_e x h.ok.len n) h.ok rfl
theorem StOk.set {s : St} (h : StOk s) (k : Nat) {n : Nat} (hn : n < 18446744073709551616) : StOk { s with regs := s.regs.set k n } :=
  ⟨by simpa using h.len, fun r hr => by rcases List.mem_or_eq_of_mem_set hr with h' | rfl; exact h.regs r h'; exact hn, h.pc⟩
theorem Run.setReg {w : World} {base b : Nat} {x : Stp} {evs : List Ev} (h : Run w base b x evs) {k n : Nat} (hk : k < 16) (hn : n < 18446744073709551616) : Run (w.setCell ⟨b, k, none⟩ (.int .u64 n)) base b { x with st := { x.st with regs := x.st.regs.set k n } } evs :=
  h.set_ k _ (set_reg x k (by rw [h.ok.len]; exact hk) n) (h.ok.set k hn) rfl
theorem Run.belowSet {w w0 : World} {base b : Nat} {x : Stp} {evs : List Ev} (h : Run w base b x evs) (hb : Below base w0 w) (k : Nat) (v : Value) : Below base w0 (w.setCell ⟨b, k, none⟩ v) := hb.setCell h.le v

theorem infoEv : (Tryz.prog.info? 47).map (fun i => (i.zero, i.size, i.bytes)) = some (some (.agg #[.int .i64 0, .int .u64 0]), 2, 16) := by kernel_rfl
end Go.Proofs.YtmanhikpccnfaaaGreat
