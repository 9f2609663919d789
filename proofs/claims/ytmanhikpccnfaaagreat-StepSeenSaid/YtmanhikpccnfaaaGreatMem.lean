/- (*memory.Memory).Bytes, Regions, Clone; memory.New. -/
import Derived.Test.YtmanhikpccnfaaaGreatStore
namespace Go.Proofs.YtmanhikpccnfaaaGreat
open Go.RowKit

theorem RegsOwn.mono {w : World} {F G : Nat → Prop} {v : Value} {l : List Reg} (h : RegsOwn w F v l) (hk : ∀ k, F k → G k) : RegsOwn w G v l := by
  obtain ⟨A, c, P, h1, h2, h3, h4, h5, h6⟩ := h
  refine ⟨A, c, P, h1, h2, h3, fun x hx => (h4 x hx).mono hk, h5, fun hne => ?_⟩
  obtain ⟨g, hA, hF, hr⟩ := h6 hne
  exact ⟨g, hA, hk _ hF, hr⟩

/-- A new block with regions of its own in it is a memory. -/
theorem mem_new {w : World} {s : Nat} {v : Value} {rs : List Reg} (h : RegsOwn w (seg s w.heap.size) v rs) (hg : Good rs) (hs : s ≤ w.heap.size) :
    MemAt (w.alloc (.cells #[v] 75)) (seg s (w.alloc (.cells #[v] 75)).heap.size) (.pointer (some ⟨w.heap.size, 0, none⟩)) rs := by
  have hz : (w.alloc (.cells #[v] 75)).heap.size = w.heap.size + 1 := by simp
  refine ⟨w.heap.size, v, rfl, ⟨hs, by omega⟩, heap_alloc_new w _, ?_, hg⟩
  refine (h.keep (fun k hk => Below.heap_alloc w _ k hk.2)).mono (fun k hk => ⟨hk.1, by have := hk.2; omega⟩)

theorem insBy_last {α : Type} (k : α → Nat) (l : List α) (x : α) (h : ∀ p ∈ l, k p ≤ k x) : insBy k l x = x :: l := by
  cases l with
  | nil => rfl
  | cons p ps => unfold insBy; rw [if_neg (by have := h p (List.mem_cons_self ..); omega)]
theorem sortBy_sortedId {α : Type} (k : α → Nat) (E : List α) (h : E.Pairwise fun a b => k a ≤ k b) : sortBy k E = E := by
  have key : ∀ (E a : List α), (a.reverse ++ E).Pairwise (fun a b => k a ≤ k b) → E.foldl (insBy k) a = E.reverse ++ a := by
    intro E
    induction E with
    | nil => intro a _; rfl
    | cons x E ih =>
      intro a h
      rw [List.foldl_cons, insBy_last, ih]
      · simp
      · simpa using h
      · intro p hp
        have := (List.pairwise_append.1 h).2.2 p (by simpa using hp) x (List.mem_cons_self ..)
        exact this
  rw [sortBy, key E [] (by simpa using h)]
  simp
theorem Good.sorted {rs : List Reg} (h : Good rs) : sortBy Reg.base rs = rs :=
  sortBy_sortedId _ _ (h.gap.imp fun h => by omega)

def bytesF (rs : List Reg) (at_ n : Nat) : Option (List UInt8) := match placeF rs at_ n with
  | none => none
  | some (i, k) => match rs[i]? with
    | none => none
    | some r => some ((r.bytes.drop k).take n)
def strV (l : List UInt8) : Value := .string ⟨l.toArray⟩
def bytesOut : Option (List UInt8) → Value
  | none => .tuple #[strV [], .int .i64 11]
  | some l => .tuple #[strV l, .int .i64 0]

set_option linter.unusedVariables false in
set_option maxHeartbeats 400000 in
theorem Load_nil (a b : Int) (w : World) : Calls Tryz.prog 106 #[.pointer none, .int .u64 a] w fun e w' => e = .returned (.tuple #[.int .u64 0, .int .i64 1]) ∧ w = w' := by
  go_enter Tryz.func106, Tryz.ntmps106
  go_wp2
  go_ret2
  exact ⟨rfl, rfl⟩

set_option linter.unusedVariables false in
set_option maxHeartbeats 400000 in
theorem Store_nil (a b : Int) (w : World) : Calls Tryz.prog 107 #[.pointer none, .int .u64 a, .int .u64 b] w fun e w' => e = .returned (.int .i64 1) ∧ w = w' := by
  go_enter Tryz.func107, Tryz.ntmps107
  go_wp2
  go_ret
  exact ⟨rfl, rfl⟩

set_option linter.unusedVariables false in
set_option maxHeartbeats 400000 in
theorem Regions_nil (a b : Int) (w : World) : Calls Tryz.prog 15 #[.pointer none] w fun e w' => e = .returned (.slice none 0 0) ∧ w = w' := by
  go_enter Tryz.func15, Tryz.ntmps15
  go_wp2
  go_ret
  exact ⟨rfl, rfl⟩

set_option maxHeartbeats 800000 in
theorem Regions_any (p : Value) (w : World) (F : Nat → Prop) (rs : List Reg) (hm : MemAt w F p rs) (hF : ∀ k, F k → k < w.heap.size) :
    Calls Tryz.prog 15 #[p] w fun e w' => ∃ v, e = .returned v ∧ RegsOwn w' (seg w.heap.size w'.heap.size) v rs ∧ Below w.heap.size w w' := by
  obtain ⟨bm, v, rfl, hbm, hblk, hown, hgood⟩ := hm
  have hcell : w.cell? ⟨bm, 0, none⟩ = some v := by simp [World.cell?, hblk]
  have HO := Lib.hid (own_any v w F rs (hown.at_ hgood.base) hF (by have := hgood.len; omega) hgood.bytes)
  have hs : sortBy Reg.base rs = rs := hgood.sorted
  have HS := Lib.hid hs
  obtain ⟨A, c, rfl, _⟩ := (hown.at_ hgood.base).form
  clear hblk hown hgood hF hs
  go_enter Tryz.func15, Tryz.ntmps15
  go_wp2_with ((with_reducible refine (HO.out).mono ?_); rintro e w1 ⟨v1, rfl, hown1, hb1⟩; rw [HS.out] at hown1; have HO1 := Lib.hid hown1; clear hown1)
  go_ret
  exact ⟨v1, rfl, HO1.out, hb1⟩

set_option maxHeartbeats 800000 in
theorem New_any (v : Value) (w : World) (F : Nat → Prop) (l : List Reg) (hn : l.length ≤ 9223372036854775807) (hl : RegsAt w F v l) (hF : ∀ k, F k → k < w.heap.size) :
    Calls Tryz.prog 10 #[v] w fun e w' => Below w.heap.size w w' ∧ ((checkF l ≠ 0 ∧ e = .returned (.tuple #[.pointer none, .int .i64 (checkF l)])) ∨
      (checkF l = 0 ∧ ∃ p, e = .returned (.tuple #[p, .int .i64 0]) ∧ MemAt w' (seg w.heap.size w'.heap.size) p (sortBy Reg.base l))) := by
  have HC := Lib.hid (Check_any v w F l hn hl hF)
  have hbase : ∀ r ∈ l, r.base < 18446744073709551616 := by
    obtain ⟨P, hP, _, hs⟩ := hl
    intro r hr
    rw [← hP] at hr
    obtain ⟨x, hx, rfl⟩ := List.mem_map.1 hr
    exact (hs x hx).base64
  have HO := fun (h0 : checkF l = 0) (w1 : World) (hb : Below w.heap.size w w1) => own_any v w1 F l (hl.below hb hF) (fun k hk => by have := hF k hk; have := hb.size; omega)
    (by have := (good_of_check h0 hbase).len; rw [sortBy_length] at this; omega) (fun r hr => (good_of_check h0 hbase).bytes r ((sortBy_perm _ _).mem_iff.2 hr))
  have HG := fun (h0 : checkF l = 0) => good_of_check h0 hbase
  have HO := Lib.hid HO
  have HG := Lib.hid HG
  obtain ⟨A, c, rfl, _⟩ := hl.form
  clear hl hF hbase
  by_cases h0 : checkF l = 0
  · rw [h0] at HC
    have H0 := Lib.hid h0
    clear h0
    go_enter Tryz.func10, Tryz.ntmps10
    go_wp2_with (first | ((with_reducible refine (HC.out).mono ?_); rintro e w1 ⟨rfl, hb1⟩) | ((with_reducible refine (HO.out H0.out _ hb1).mono ?_); rintro e w2 ⟨v1, rfl, hown1, hb2⟩; obtain ⟨A1, c1, P1, rfl, hrest⟩ := hown1; have HO1 := Lib.hid hrest; clear hrest))
    go_ret2
    have hs := hb1.size
    refine ⟨(hb1.trans (hb2.mono hs)).trans ((Below.refl _ _).alloc (Nat.le_trans hs hb2.size) _), .inr ⟨H0.out, _, rfl, ?_⟩⟩
    exact mem_new (RegsOwn.mono ⟨A1, c1, P1, rfl, HO1.out⟩ (fun k hk => ⟨Nat.le_trans hs hk.1, hk.2⟩)) (HG.out H0.out) (Nat.le_trans hs hb2.size)
  · have hne : (checkF l != 0) = true := by rw [bne_iff_ne]; exact h0
    have H0 := Lib.hid h0
    clear h0
    generalize checkF l = ce at *
    go_enter Tryz.func10, Tryz.ntmps10
    go_wp2_with ((with_reducible refine (HC.out).mono ?_); rintro e w1 ⟨rfl, hb1⟩)
    go_ret2
    exact ⟨hb1, .inl ⟨H0.out, rfl⟩⟩
end Go.Proofs.YtmanhikpccnfaaaGreat
