/- keysmithlaw04.MemoryNames: the regions that it writes out, handed to New. -/
import Derived.Test.YtcciaihghhleoaaClones
namespace Go.Proofs.Ytcciaihghhleoaa
open Go.RowKit

theorem made_zeros (n : Nat) : madeCells #[.int .u8 0] n = zeros n := by
  refine Array.ext (by simp [size_madeCells, zeros]) fun i h1 h2 => ?_
  simp [madeCells, zeros, byteV, Nat.mod_one]

theorem makeB (n : Nat) (hn : n ≤ 1099511627776) (w : World) : (Instr.makeSlice 34 (.int .i64 n) (.int .i64 n)).run Try.prog w = .ok (.slice (some ⟨w.heap.size, 0, none⟩) n n) (w.alloc (.cells (zeros n) 5)) := by
  obtain ⟨i0, hi, hz0, hz1, hz2⟩ := info_parts infoU8
  have h := run_make (P := Try.prog) w 34 5 i0 (.int .u8 0) Try.underlying34 hi hz0 .i64 .i64 n n (by omega) (by omega) (by rw [hz2]; omega) (by omega)
  rw [hz1] at h
  have e : (Value.int IntKind.u8 0).cells = #[.int .u8 0] := rfl
  rw [e] at h
  simp only [Int.toNat_natCast, Nat.mul_one, made_zeros] at h
  exact h

def regs9 : Array Value := ((List.replicate 9 [Value.int .u64 0, .slice none 0 0, .bool false]).flatten).toArray
theorem make9R (w : World) : (Instr.makeSlice 22 (.int .i64 9) (.int .i64 9)).run Try.prog w = .ok (.slice (some ⟨w.heap.size, 0, none⟩) 9 9) (w.alloc (.cells regs9 36)) := by kernel_rfl

/-- A block whose cells are rows of three, one behind the other. -/
theorem flat_row {α : Type} (rows : List (List α)) (h : ∀ r ∈ rows, r.length = 3) {i j : Nat} {r : List α} {u : α} (hr : rows[i]? = some r) (hu : r[j]? = some u) : rows.flatten[i * 3 + j]? = some u := by
  induction rows generalizing i with
  | nil => simp at hr
  | cons q qs ih =>
    have hql := h q (List.mem_cons_self ..)
    cases i with
    | zero =>
      simp at hr
      subst hr
      have hj : j < q.length := (List.getElem?_eq_some_iff.1 hu).1
      rw [List.flatten_cons, List.getElem?_append_left (by omega)]
      simpa using hu
    | succ i =>
      rw [List.flatten_cons, List.getElem?_append_right (by omega), hql, show (i + 1) * 3 + j - 3 = i * 3 + j from by omega]
      exact ih (fun r hr => h r (List.mem_cons_of_mem _ hr)) (by simpa using hr)

theorem lit_at {w : World} {b : Nat} {cs : Array Value} {P : List (Reg × Ent)} (h : w.heap[b]? = some (.cells cs 36 (0, 0))) (hcs : cs.toList = (P.map fun x => entRow x.2).flatten)
    (hs : ∀ x ∈ P, EntSrc w (fun k => k < w.heap.size) x.1 x.2) : RegsAt w (fun k => k < w.heap.size) (.slice (some ⟨b, 0, none⟩) P.length P.length) (P.map (·.1)) := by
  refine ⟨P, rfl, ⟨_, P.length, by simp, by simp, entRows_len P, fun _ => ⟨b, 0, rfl, lt_of_block h, fun i j r u hr hu => ?_⟩⟩, hs⟩
  simp only [World.cell?, h]
  have := flat_row _ (entRows_len P) hr hu
  rw [← hcs] at this
  simpa using this

theorem new_err {w : World} {b c : Nat} {ce : Int} {cs : Array Value} {P : List (Reg × Ent)} (hc : P.length = c) (h : w.heap[b]? = some (.cells cs 36 (0, 0))) (hcs : cs.toList = (P.map fun x => entRow x.2).flatten)
    (hs : ∀ x ∈ P, EntSrc w (fun k => k < w.heap.size) x.1 x.2) (hck : checkF (P.map (·.1)) = ce) (hne : ce ≠ 0) (h10 : c ≤ 10) :
    Calls Try.prog 11 #[.slice (some ⟨b, 0, none⟩) c c] w fun e w' => e = .returned (.tuple #[.pointer none, .int .i64 ce]) ∧ Below w.heap.size w w' := by
  subst hc
  subst hck
  refine (New_any _ w _ _ (by simp; omega) (lit_at h hcs hs) (fun _ h => h)).mono ?_
  rintro e w' ⟨hb, ⟨_, rfl⟩ | ⟨h0, _⟩⟩
  · exact ⟨rfl, hb⟩
  · exact absurd h0 hne
theorem new_ok {w : World} {b c : Nat} {cs : Array Value} {P : List (Reg × Ent)} (hc : P.length = c) (h : w.heap[b]? = some (.cells cs 36 (0, 0))) (hcs : cs.toList = (P.map fun x => entRow x.2).flatten)
    (hs : ∀ x ∈ P, EntSrc w (fun k => k < w.heap.size) x.1 x.2) (hck : checkF (P.map (·.1)) = 0) (h10 : c ≤ 10) :
    Calls Try.prog 11 #[.slice (some ⟨b, 0, none⟩) c c] w fun e w' => (∃ p, e = .returned (.tuple #[p, .int .i64 0]) ∧ MemAt w' (seg w.heap.size w'.heap.size) p (sortBy Reg.base (P.map (·.1)))) ∧ Below w.heap.size w w' := by
  subst hc
  refine (New_any _ w _ _ (by simp; omega) (lit_at h hcs hs) (fun _ h => h)).mono ?_
  rintro e w' ⟨hb, ⟨h0, _⟩ | ⟨_, p, rfl, hm⟩⟩
  · exact absurd hck h0
  · exact ⟨⟨p, rfl, hm⟩, hb⟩

theorem alloc2 (w : World) (a b : Obj) : ((w.alloc a).alloc b).heap[w.heap.size]? = some a ∧ ((w.alloc a).alloc b).heap[w.heap.size + 1]? = some b := by
  have z1 : (w.alloc a).heap.size = w.heap.size + 1 := by simp
  exact ⟨(Below.heap_alloc _ b _ (by omega)).trans (heap_alloc_new w a), by rw [← z1]; exact heap_alloc_new _ b⟩
theorem below2 (w : World) (a b : Obj) : Below w.heap.size w ((w.alloc a).alloc b) := ((Below.refl _ _).alloc (Nat.le_refl _) a).alloc (by simp) b

/-- One region over noughts. -/
def oneP (base : Nat) (b n : Nat) (wr : Bool) : List (Reg × Ent) := [(⟨base, List.replicate n 0, wr⟩, ⟨base, some ⟨b, 0, none⟩, n, n, wr⟩)]
theorem oneP_src {w : World} {base b n : Nat} {wr : Bool} (h : w.heap[b]? = some (.cells (zeros n) 5 (0, 0))) (hb : base < 18446744073709551616) (hn : n ≤ 1099511627776) : ∀ x ∈ oneP base b n wr, EntSrc w (fun k => k < w.heap.size) x.1 x.2 := by
  intro x hx
  simp only [oneP, List.mem_singleton] at hx
  subst hx
  exact ⟨rfl, by simp, rfl, zeros_at h (lt_of_block h), hb, by simp; omega⟩

theorem check1 : checkF [⟨1, [], false⟩] = 2 := by decide
theorem check2 : checkF [⟨1, List.replicate 5 0, false⟩, ⟨5, List.replicate 5 0, false⟩] = 2 := by decide
theorem check3 : checkF [⟨18446744073709551614, List.replicate 3 0, false⟩] = 2 := by decide
theorem check4 : checkF (List.replicate 9 ⟨0, [], false⟩) = 3 := by decide
theorem check5 : checkF [⟨0, List.replicate 1048577 0, false⟩] = 3 := by
  unfold checkF
  rw [if_pos (.inr (by simp only [List.any_cons, List.length_replicate]; decide))]
theorem check6 : checkF [⟨18446744073709551608, List.replicate 8 0, true⟩] = 0 := by decide

section
variable (w : World) (K : Ending → World → Prop)
theorem names1 (hK : ∀ w', Below w.heap.size w w' → K (.returned (.tuple #[.pointer none, .int .i64 2])) w') :
    Calls Try.prog 11 #[.slice (some ⟨w.heap.size, 0, none⟩) 1 1] (w.alloc (.cells #[.int .u64 1, .slice none 0 0, .bool false] 36)) K := by
  refine (new_err (P := [(⟨1, [], false⟩, ⟨1, none, 0, 0, false⟩)]) rfl (heap_alloc_new w _) rfl (fun x hx => ?_) check1 (by decide) (by decide)).mono ?_
  · simp only [List.mem_singleton] at hx
    subst hx
    exact ⟨rfl, rfl, rfl, ⟨none, 0, by simp, by simp, by simp, fun h => absurd rfl h⟩, by decide, by decide⟩
  · rintro e w' ⟨rfl, hb⟩
    exact hK w' (((Below.refl _ _).alloc (Nat.le_refl _) _).trans (hb.mono (by simp)))
theorem names3 (base n : Nat) (wr : Bool) (ce : Int) (hb : base < 18446744073709551616) (hn : n ≤ 1099511627776) (hck : checkF [⟨base, List.replicate n 0, wr⟩] = ce) (hne : ce ≠ 0) (hK : ∀ w', Below w.heap.size w w' → K (.returned (.tuple #[.pointer none, .int .i64 ce])) w') :
    Calls Try.prog 11 #[.slice (some ⟨w.heap.size + 1, 0, none⟩) 1 1] ((w.alloc (.cells (zeros n) 5)).alloc (.cells #[.int .u64 base, .slice (some ⟨w.heap.size, 0, none⟩) n n, .bool wr] 36)) K := by
  obtain ⟨a1, a2⟩ := alloc2 w (.cells (zeros n) 5) (.cells #[.int .u64 base, .slice (some ⟨w.heap.size, 0, none⟩) n n, .bool wr] 36)
  refine (new_err (P := oneP base w.heap.size n wr) rfl a2 rfl (oneP_src a1 hb hn) hck hne (by show 1 ≤ 10; decide)).mono ?_
  rintro e w' ⟨rfl, hb⟩
  exact hK w' ((below2 _ _ _).trans (hb.mono (below2 _ _ _).size))
theorem names4 (hK : ∀ w', Below w.heap.size w w' → K (.returned (.tuple #[.pointer none, .int .i64 3])) w') :
    Calls Try.prog 11 #[.slice (some ⟨w.heap.size, 0, none⟩) 9 9] (w.alloc (.cells regs9 36)) K := by
  refine (new_err (P := List.replicate 9 (⟨0, [], false⟩, ⟨0, none, 0, 0, false⟩)) rfl (heap_alloc_new w _) rfl (fun x hx => ?_) check4 (by decide) (by decide)).mono ?_
  · obtain rfl := (List.mem_replicate.1 hx).2
    exact ⟨rfl, rfl, rfl, ⟨none, 0, by simp, by simp, by simp, fun h => absurd rfl h⟩, by decide, by decide⟩
  · rintro e w' ⟨rfl, hb⟩
    exact hK w' (((Below.refl _ _).alloc (Nat.le_refl _) _).trans (hb.mono (by simp)))
theorem names6 (hK : ∀ p w', MemAt w' (seg w.heap.size w'.heap.size) p [⟨18446744073709551608, List.replicate 8 0, true⟩] → Below w.heap.size w w' → K (.returned (.tuple #[p, .int .i64 0])) w') :
    Calls Try.prog 11 #[.slice (some ⟨w.heap.size + 1, 0, none⟩) 1 1] ((w.alloc (.cells (zeros 8) 5)).alloc (.cells #[.int .u64 18446744073709551608, .slice (some ⟨w.heap.size, 0, none⟩) 8 8, .bool true] 36)) K := by
  obtain ⟨a1, a2⟩ := alloc2 w (.cells (zeros 8) 5) (.cells #[.int .u64 18446744073709551608, .slice (some ⟨w.heap.size, 0, none⟩) 8 8, .bool true] 36)
  refine (new_ok (P := oneP 18446744073709551608 w.heap.size 8 true) rfl a2 rfl (oneP_src a1 (by decide) (by decide)) check6 (by show 1 ≤ 10; decide)).mono ?_
  rintro e w' ⟨⟨p, rfl, hm⟩, hb⟩
  exact hK p w' (hm.mono (fun _ hk => ⟨Nat.le_trans (below2 _ _ _).size hk.1, hk.2⟩)) ((below2 _ _ _).trans (hb.mono (below2 _ _ _).size))
theorem names2 (b1 b2 : Nat) (a b : Obj) (hab : (b1 = w.heap.size ∧ b2 = w.heap.size + 1) ∨ (b1 = w.heap.size + 1 ∧ b2 = w.heap.size)) (ha : a = .cells (zeros 5) 5) (hb : b = .cells (zeros 5) 5)
    (hK : ∀ w', Below w.heap.size w w' → K (.returned (.tuple #[.pointer none, .int .i64 2])) w') :
    Calls Try.prog 11 #[.slice (some ⟨w.heap.size + 1 + 1, 0, none⟩) 2 2] (((w.alloc a).alloc b).alloc (.cells #[.int .u64 1, .slice (some ⟨b1, 0, none⟩) 5 5, .bool false, .int .u64 5, .slice (some ⟨b2, 0, none⟩) 5 5, .bool false] 36)).drew K := by
  subst ha
  subst hb
  obtain ⟨a1, a2, a3⟩ := alloc3 w (.cells (zeros 5) 5) (.cells (zeros 5) 5) (.cells #[.int .u64 1, .slice (some ⟨b1, 0, none⟩) 5 5, .bool false, .int .u64 5, .slice (some ⟨b2, 0, none⟩) 5 5, .bool false] 36)
  refine (new_err (P := [(⟨1, List.replicate 5 0, false⟩, ⟨1, some ⟨b1, 0, none⟩, 5, 5, false⟩), (⟨5, List.replicate 5 0, false⟩, ⟨5, some ⟨b2, 0, none⟩, 5, 5, false⟩)]) rfl a3 rfl (fun x hx => ?_) check2 (by decide) (by show 2 ≤ 10; decide)).mono ?_
  · simp only [List.mem_cons, List.not_mem_nil, or_false] at hx
    rcases hab with ⟨rfl, rfl⟩ | ⟨rfl, rfl⟩ <;> rcases hx with rfl | rfl
    · exact ⟨rfl, rfl, rfl, zeros_at a1 (lt_of_block a1), by show 1 < _; decide, by simp⟩
    · exact ⟨rfl, rfl, rfl, zeros_at a2 (lt_of_block a2), by show 5 < _; decide, by simp⟩
    · exact ⟨rfl, rfl, rfl, zeros_at a2 (lt_of_block a2), by show 1 < _; decide, by simp⟩
    · exact ⟨rfl, rfl, rfl, zeros_at a1 (lt_of_block a1), by show 5 < _; decide, by simp⟩
  · rintro e w' ⟨rfl, hb⟩
    exact hK w' ((below3 _ _ _ _).trans (hb.mono (below3 _ _ _ _).size))
end
end Go.Proofs.Ytcciaihghhleoaa
