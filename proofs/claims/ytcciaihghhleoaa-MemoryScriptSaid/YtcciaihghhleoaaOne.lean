/- One memory, and what was before it was made. -/
import Derived.Test.YtcciaihghhleoaaClones
namespace Go.Proofs.Ytcciaihghhleoaa
open Go.RowKit

/-- A memory, and what was before it was made. -/
structure One (w0 w : World) (m : Value) (rs : List Reg) (s e : Nat) : Prop where
  mm : MemAt w (seg s e) m rs
  he : e ≤ w.heap.size
  hs : w0.heap.size ≤ s
  below : Below w0.heap.size w0 w
theorem One.lt {w0 w : World} {m : Value} {rs : List Reg} {s e : Nat} (h : One w0 w m rs s e) : ∀ k, seg s e k → k < w.heap.size := fun _ hk => Nat.lt_of_lt_of_le hk.2 h.he
theorem One.next {w0 w w' : World} {m : Value} {rs : List Reg} {s e : Nat} (h : One w0 w m rs s e) (hb : Below w.heap.size w w') : One w0 w' m rs s e :=
  ⟨h.mm.keep (SameOn.of_below hb h.lt), Nat.le_trans h.he hb.size, h.hs, h.below.trans (hb.mono h.below.size)⟩
theorem One.far {w0 w w' : World} {m : Value} {rs : List Reg} {s e s2 e2 : Nat} (h : One w0 w m rs s e) (hb : Chg (seg s2 e2) w w') (h2 : e ≤ s2) (h3 : w0.heap.size ≤ s2) : One w0 w' m rs s e :=
  ⟨h.mm.keep (hb.same fun k hk => ⟨h.lt k hk, fun h' => by have := hk.2; have := h'.1; omega⟩), Nat.le_trans h.he hb.size, h.hs, h.below.trans (hb.below (fun _ hk h' => by have := h'.1; omega) h.below.size)⟩
theorem One.store {w0 w w' : World} {m : Value} {rs rs' : List Reg} {s e : Nat} (h : One w0 w m rs s e) (hb : Chg (seg s e) w w') (hm : MemAt w' (seg s e) m rs') : One w0 w' m rs' s e :=
  ⟨hm, Nat.le_trans h.he hb.size, h.hs, h.below.trans (hb.below (fun _ hk h' => by have := h'.1; have := h.hs; omega) h.below.size)⟩
end Go.Proofs.Ytcciaihghhleoaa
