/- A function's text in parts: the region of a number, what follows it; a walk tied to a part. -/
import Derived.Test.YtjbabpnepjhllaaGreatWordsA
namespace Go.Proofs.YtjbabpnepjhllaaGreat
open Go.RowKit

/-- The region of a number in a text. -/
def findR (n : Nat) : Code → Option Code
  | .region id ops d => if id = n then some (.region id ops d) else none
  | .seq a b => match findR n a with
    | some c => some c
    | none => findR n b
  | .cond _ a b => match findR n a with
    | some c => some c
    | none => findR n b
  | .block _ c => findR n c
  | .loop c => findR n c
  | .scope c => findR n c
  | .rangeFunc _ _ a b => match findR n a with
    | some c => some c
    | none => findR n b
  | _ => none
def headIs (n : Nat) : Code → Bool
  | .region id _ _ => id == n
  | _ => false
/-- What follows the region of a number. -/
def restR (n : Nat) : Code → Option Code
  | .seq a b => if headIs n a then some b else match restR n a with
    | some c => some c
    | none => restR n b
  | .cond _ a b => match restR n a with
    | some c => some c
    | none => restR n b
  | .block _ c => restR n c
  | .loop c => restR n c
  | .scope c => restR n c
  | .rangeFunc _ _ a b => match restR n a with
    | some c => some c
    | none => restR n b
  | _ => none
noncomputable def partR (f : Func) (n : Nat) : Code := ((f.body.bind (findR n)).getD .skip)
noncomputable def partT (f : Func) (n : Nat) : Code := ((f.body.bind (restR n)).getD .skip)
theorem wp_code {P : Program} {c d : Code} {Q : Exit → Act → World → Prop} {a : Act} {w : World} (h : c = d) (k : c.wp P Q a w) : d.wp P Q a w := h ▸ k
end Go.Proofs.YtjbabpnepjhllaaGreat
