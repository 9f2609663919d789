/- A function's text in parts: what stands in the block of a number. -/
import Derived.Test.YtjbabpnepjhllaaGreatPart
namespace Go.Proofs.YtjbabpnepjhllaaGreat
open Go.RowKit

/-- The block of a number in a text. -/
def findB (n : Nat) : Code → Option Code
  | .block id c => if id = n then some (.block id c) else findB n c
  | .seq a b => match findB n a with
    | some c => some c
    | none => findB n b
  | .cond _ a b => match findB n a with
    | some c => some c
    | none => findB n b
  | .loop c => findB n c
  | .scope c => findB n c
  | .rangeFunc _ _ a b => match findB n a with
    | some c => some c
    | none => findB n b
  | _ => none
/-- What stands in the block of a number. -/
noncomputable def partL (f : Func) (n : Nat) : Code := match f.body.bind (findB n) with | some (.block _ c) => c | _ => .skip
theorem any_next {T : Type} {p : T → Bool} {l : List T} {k : Nat} {x : T} (h : (l.take k).any p = false) (hx : l[k]? = some x) (hp : p x = false) : (l.take (k + 1)).any p = false := by
  rw [List.take_add_one, hx, List.any_append, h]
  simp [hp]
theorem any_whole {T : Type} {p : T → Bool} {l : List T} {k : Nat} (h : (l.take k).any p = false) (hk : l.length ≤ k) : l.any p = false := by rwa [List.take_of_length_le hk] at h
theorem any_here {T : Type} {p : T → Bool} {l : List T} {k : Nat} {x : T} (hx : l[k]? = some x) (hp : p x = true) : l.any p = true := List.any_eq_true.2 ⟨x, List.mem_of_getElem? hx, hp⟩
theorem alls_next {T : Type} {p : T → Bool} {l : List T} {k : Nat} {x : T} (h : (l.take k).all p = true) (hx : l[k]? = some x) (hp : p x = true) : (l.take (k + 1)).all p = true := by
  rw [List.take_add_one, hx, List.all_append, h]
  simp [hp]
theorem alls_whole {T : Type} {p : T → Bool} {l : List T} {k : Nat} (h : (l.take k).all p = true) (hk : l.length ≤ k) : l.all p = true := by rwa [List.take_of_length_le hk] at h
theorem alls_here {T : Type} {p : T → Bool} {l : List T} {k : Nat} {x : T} (hx : l[k]? = some x) (hp : p x = false) : l.all p = false := List.all_eq_false.2 ⟨x, List.mem_of_getElem? hx, by rw [hp]; decide⟩
end Go.Proofs.YtjbabpnepjhllaaGreat
