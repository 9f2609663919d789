/-
  No cell of these rows narrows 'for every input' (looked for: loops, veiled, ifaces, maps, wideKeys, modest, calm, conditions, laid).
  DERIVED. THE GIVEN ROWS OF THIS SEAT. 5 by the template 'for every input the law returns true; each argument reads behind the call as it read before'; 0 by the template 'total and deterministic' (their statements: YtjbabpnepjhllaaGreatTotals.lean).
  GIVEN WITH THE SEED: the statements are not yours to turn. If you find one false, say at which input.
  Laid BY PROGRAM, IN A SANDBOX (cutbox-rows.mjs): the forced cells as the released guide's own fill.sh prints them over the translation 6dda5cc2c5cd374e… (all of the seat's roots in one cut). By AI agents, Wed Nov 11 2026. No macro, syntax, notation, axiom, sorry.
-/
import Derived.Test.YtjbabpnepjhllaaGreatChecked
import GoSem.Claim
import GoSem.ClaimJoined
import GoSem.ClaimMapViews
import Derived.JoinedTies
import Derived.KernelRfl
namespace Go.Proofs.YtjbabpnepjhllaaGreat
/- THE CELL 'sum', in the pinned program and in every row, IS THE sha256 OF THE DUMP (.gsa) THAT YtjbabpnepjhllaaGreatProg.lean LOADS. Nothing in Lean hashes anything: it is a label: what it is worth is what the hold of that sum in a sandbox is worth. -/
noncomputable def Tryz.pinned : Pinned := { name := "ytjbabpnepjhllaagreat", sum := "6dda5cc2c5cd374e13efbd6f24ae25cb8055b338d0a97f849a8106da0cbdb0d5", checked := Tryz.checked }
namespace Rows
def none {H : Type} : Left H := { results := [], args := [] }

/-- 'keysmithlaw21.DutiesSound': WHATEVER THE INPUT: true; the input reads as it did. -/
def dutiesSoundSpec : ChangeSpec := { name := "dutiesSound", fn := fun _ => fun
  | [d1, d2] => { results := [.lit (.bool true)], args := [d1, d2] }
  | _ => none }
def dutiesSoundRow : OpenClaim := { program := "ytjbabpnepjhllaagreat", sum := "6dda5cc2c5cd374e13efbd6f24ae25cb8055b338d0a97f849a8106da0cbdb0d5", func := "keysmith/keysmithlaw21.DutiesSound", spec := "dutiesSound", unfollowed := true, recurses := true, plainKeys := false, apart := false }
def DutiesSoundSaid : Prop := dutiesSoundRow.holds Tryz.pinned (OpenSpec.ofChange dutiesSoundSpec)

/-- ITS FALSE NEIGHBOUR: 'it returns false'. Refute it at one input. -/
def dutiesSoundWrong : ChangeSpec := { name := "dutiesSound", fn := fun _ => fun
  | [d1, d2] => { results := [.lit (.bool false)], args := [d1, d2] }
  | _ => none }
def DutiesSoundWrongFalsely : Prop := dutiesSoundRow.holds Tryz.pinned (OpenSpec.ofChange dutiesSoundWrong)

/-- 'keysmithlaw21.DutiesAsked': WHATEVER THE INPUT: true; the input reads as it did. -/
def dutiesAskedSpec : ChangeSpec := { name := "dutiesAsked", fn := fun _ => fun
  | [d] => { results := [.lit (.bool true)], args := [d] }
  | _ => none }
def dutiesAskedRow : OpenClaim := { program := "ytjbabpnepjhllaagreat", sum := "6dda5cc2c5cd374e13efbd6f24ae25cb8055b338d0a97f849a8106da0cbdb0d5", func := "keysmith/keysmithlaw21.DutiesAsked", spec := "dutiesAsked", unfollowed := true, recurses := true, plainKeys := false, apart := false }
def DutiesAskedSaid : Prop := dutiesAskedRow.holds Tryz.pinned (OpenSpec.ofChange dutiesAskedSpec)

/-- ITS FALSE NEIGHBOUR: 'it returns false'. Refute it at one input. -/
def dutiesAskedWrong : ChangeSpec := { name := "dutiesAsked", fn := fun _ => fun
  | [d] => { results := [.lit (.bool false)], args := [d] }
  | _ => none }
def DutiesAskedWrongFalsely : Prop := dutiesAskedRow.holds Tryz.pinned (OpenSpec.ofChange dutiesAskedWrong)

/-- 'keysmithlaw21.DutiesLoops': WHATEVER THE INPUT: true; the input reads as it did. -/
def dutiesLoopsSpec : ChangeSpec := { name := "dutiesLoops", fn := fun _ => fun
  | [d1, d2] => { results := [.lit (.bool true)], args := [d1, d2] }
  | _ => none }
def dutiesLoopsRow : OpenClaim := { program := "ytjbabpnepjhllaagreat", sum := "6dda5cc2c5cd374e13efbd6f24ae25cb8055b338d0a97f849a8106da0cbdb0d5", func := "keysmith/keysmithlaw21.DutiesLoops", spec := "dutiesLoops", unfollowed := true, recurses := true, plainKeys := false, apart := false }
def DutiesLoopsSaid : Prop := dutiesLoopsRow.holds Tryz.pinned (OpenSpec.ofChange dutiesLoopsSpec)

/-- ITS FALSE NEIGHBOUR: 'it returns false'. Refute it at one input. -/
def dutiesLoopsWrong : ChangeSpec := { name := "dutiesLoops", fn := fun _ => fun
  | [d1, d2] => { results := [.lit (.bool false)], args := [d1, d2] }
  | _ => none }
def DutiesLoopsWrongFalsely : Prop := dutiesLoopsRow.holds Tryz.pinned (OpenSpec.ofChange dutiesLoopsWrong)

/-- 'keysmithlaw21.DutiesNames': WHATEVER THE INPUT: true; the input reads as it did. -/
def dutiesNamesSpec : ChangeSpec := { name := "dutiesNames", fn := fun _ => fun
  | [] => { results := [.lit (.bool true)], args := [] }
  | _ => none }
def dutiesNamesRow : OpenClaim := { program := "ytjbabpnepjhllaagreat", sum := "6dda5cc2c5cd374e13efbd6f24ae25cb8055b338d0a97f849a8106da0cbdb0d5", func := "keysmith/keysmithlaw21.DutiesNames", spec := "dutiesNames", unfollowed := true, recurses := true, plainKeys := false, apart := false }
def DutiesNamesSaid : Prop := dutiesNamesRow.holds Tryz.pinned (OpenSpec.ofChange dutiesNamesSpec)

/-- ITS FALSE NEIGHBOUR: 'it returns false'. Refute it at one input. -/
def dutiesNamesWrong : ChangeSpec := { name := "dutiesNames", fn := fun _ => fun
  | [] => { results := [.lit (.bool false)], args := [] }
  | _ => none }
def DutiesNamesWrongFalsely : Prop := dutiesNamesRow.holds Tryz.pinned (OpenSpec.ofChange dutiesNamesWrong)

/-- 'keysmithlaw21.DutiesMore': WHATEVER THE INPUT: true; the input reads as it did. -/
def dutiesMoreSpec : ChangeSpec := { name := "dutiesMore", fn := fun _ => fun
  | [d1, d2, d3, d4] => { results := [.lit (.bool true)], args := [d1, d2, d3, d4] }
  | _ => none }
def dutiesMoreRow : OpenClaim := { program := "ytjbabpnepjhllaagreat", sum := "6dda5cc2c5cd374e13efbd6f24ae25cb8055b338d0a97f849a8106da0cbdb0d5", func := "keysmith/keysmithlaw21.DutiesMore", spec := "dutiesMore", unfollowed := true, recurses := true, plainKeys := false, apart := false }
def DutiesMoreSaid : Prop := dutiesMoreRow.holds Tryz.pinned (OpenSpec.ofChange dutiesMoreSpec)

/-- ITS FALSE NEIGHBOUR: 'it returns false'. Refute it at one input. -/
def dutiesMoreWrong : ChangeSpec := { name := "dutiesMore", fn := fun _ => fun
  | [d1, d2, d3, d4] => { results := [.lit (.bool false)], args := [d1, d2, d3, d4] }
  | _ => none }
def DutiesMoreWrongFalsely : Prop := dutiesMoreRow.holds Tryz.pinned (OpenSpec.ofChange dutiesMoreWrong)

/- THE SECOND FORM. 'bulk': how many values and letters a reading holds, each counted each time it is reached (what is shared counts as often as it is met; a slice's spare places count too). A statement '..UptoSaid' is the law's where the arguments, and the package variables that the reading takes, are together of bulk at most 1048576: NARROWER than '..Said'. Prove '..Said' where nothing that the law and all that it calls make is longer than what came in: it says more and counts as full. Else prove '..UptoSaid'. A law counts once. -/
mutual
def uptoBulk {H : Type} : DataW H → Nat
  | .lit (.string bytes) => bytes.length + 1
  | .lit _ => 1
  | .nil => 1
  | .ptr d => uptoBulk d + 1
  | .slice elems spare => uptoBulkAll elems + uptoBulkAll spare + 1
  | .agg parts => uptoBulkAll parts + 1
  | .iface _ d => uptoBulk d + 1
  | .map entries => uptoBulkEntries entries + 1
  | .held _ => 1
def uptoBulkAll {H : Type} : List (DataW H) → Nat
  | [] => 0
  | d :: r => uptoBulk d + uptoBulkAll r
def uptoBulkEntries {H : Type} : List (Lit × DataW H) → Nat
  | [] => 0
  | x :: r => uptoBulkEntry x + uptoBulkEntries r
def uptoBulkEntry {H : Type} : Lit × DataW H → Nat
  | (.string bytes, d) => bytes.length + uptoBulk d + 1
  | (_, d) => uptoBulk d + 1
 end
def uptoSmall : (H : Type) → List (DataW H) → Bool := fun _ ds => decide (uptoBulkAll ds ≤ 1048576)
def OpenSpec.upto (s : _root_.Go.ChangeSpec) : _root_.Go.OpenSpec := { _root_.Go.OpenSpec.ofChange s with cond := some uptoSmall }

/-- 'keysmithlaw21.DutiesSound', WHERE WHAT IT READS IS OF BULK AT MOST 1048576: true; the input reads as it did. -/
def dutiesSoundUptoRow : OpenClaim := { program := "ytjbabpnepjhllaagreat", sum := "6dda5cc2c5cd374e13efbd6f24ae25cb8055b338d0a97f849a8106da0cbdb0d5", func := "keysmith/keysmithlaw21.DutiesSound", spec := "dutiesSound", unfollowed := true, recurses := true, plainKeys := false, apart := false, narrowed := true }
def DutiesSoundUptoSaid : Prop := dutiesSoundUptoRow.holds Tryz.pinned (OpenSpec.upto dutiesSoundSpec)

/-- 'keysmithlaw21.DutiesAsked', WHERE WHAT IT READS IS OF BULK AT MOST 1048576: true; the input reads as it did. -/
def dutiesAskedUptoRow : OpenClaim := { program := "ytjbabpnepjhllaagreat", sum := "6dda5cc2c5cd374e13efbd6f24ae25cb8055b338d0a97f849a8106da0cbdb0d5", func := "keysmith/keysmithlaw21.DutiesAsked", spec := "dutiesAsked", unfollowed := true, recurses := true, plainKeys := false, apart := false, narrowed := true }
def DutiesAskedUptoSaid : Prop := dutiesAskedUptoRow.holds Tryz.pinned (OpenSpec.upto dutiesAskedSpec)

/-- 'keysmithlaw21.DutiesLoops', WHERE WHAT IT READS IS OF BULK AT MOST 1048576: true; the input reads as it did. -/
def dutiesLoopsUptoRow : OpenClaim := { program := "ytjbabpnepjhllaagreat", sum := "6dda5cc2c5cd374e13efbd6f24ae25cb8055b338d0a97f849a8106da0cbdb0d5", func := "keysmith/keysmithlaw21.DutiesLoops", spec := "dutiesLoops", unfollowed := true, recurses := true, plainKeys := false, apart := false, narrowed := true }
def DutiesLoopsUptoSaid : Prop := dutiesLoopsUptoRow.holds Tryz.pinned (OpenSpec.upto dutiesLoopsSpec)

/-- 'keysmithlaw21.DutiesNames', WHERE WHAT IT READS IS OF BULK AT MOST 1048576: true; the input reads as it did. -/
def dutiesNamesUptoRow : OpenClaim := { program := "ytjbabpnepjhllaagreat", sum := "6dda5cc2c5cd374e13efbd6f24ae25cb8055b338d0a97f849a8106da0cbdb0d5", func := "keysmith/keysmithlaw21.DutiesNames", spec := "dutiesNames", unfollowed := true, recurses := true, plainKeys := false, apart := false, narrowed := true }
def DutiesNamesUptoSaid : Prop := dutiesNamesUptoRow.holds Tryz.pinned (OpenSpec.upto dutiesNamesSpec)

/-- 'keysmithlaw21.DutiesMore', WHERE WHAT IT READS IS OF BULK AT MOST 1048576: true; the input reads as it did. -/
def dutiesMoreUptoRow : OpenClaim := { program := "ytjbabpnepjhllaagreat", sum := "6dda5cc2c5cd374e13efbd6f24ae25cb8055b338d0a97f849a8106da0cbdb0d5", func := "keysmith/keysmithlaw21.DutiesMore", spec := "dutiesMore", unfollowed := true, recurses := true, plainKeys := false, apart := false, narrowed := true }
def DutiesMoreUptoSaid : Prop := dutiesMoreUptoRow.holds Tryz.pinned (OpenSpec.upto dutiesMoreSpec)

end Rows
end Go.Proofs.YtjbabpnepjhllaaGreat
