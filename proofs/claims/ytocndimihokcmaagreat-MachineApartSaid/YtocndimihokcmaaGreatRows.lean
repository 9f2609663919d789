/-
  No cell of these rows narrows 'for every input' (looked for: loops, veiled, ifaces, maps, wideKeys, modest, calm, conditions, laid).
  DERIVED. THE GIVEN ROWS OF THIS SEAT. 3 by the template 'for every input the law returns true; each argument reads behind the call as it read before'; 0 by the template 'total and deterministic' (their statements: YtocndimihokcmaaGreatTotals.lean).
  GIVEN WITH THE SEED: the statements are not yours to turn. If you find one false, say at which input.
  Laid BY PROGRAM, IN A SANDBOX (cutbox-rows.mjs): the forced cells as the released guide's own fill.sh prints them over the translation 153f082f7d9ca941… (all of the seat's roots in one cut). By AI agents, Wed Nov 11 2026. No macro, syntax, notation, axiom, sorry.
-/
import Derived.Test.YtocndimihokcmaaGreatChecked
import GoSem.Claim
import GoSem.ClaimJoined
import GoSem.ClaimMapViews
import Derived.JoinedTies
import Derived.KernelRfl
namespace Go.Proofs.YtocndimihokcmaaGreat
/- THE CELL 'sum', in the pinned program and in every row, IS THE sha256 OF THE DUMP (.gsa) THAT YtocndimihokcmaaGreatProg.lean LOADS. Nothing in Lean hashes anything: it is a label: what it is worth is what the hold of that sum in a sandbox is worth. -/
noncomputable def Tryz.pinned : Pinned := { name := "ytocndimihokcmaagreat", sum := "153f082f7d9ca9416dbb6e77b415dafb4137274f45b16c9fb448c5765cccc1e4", checked := Tryz.checked }
namespace Rows
def none {H : Type} : Left H := { results := [], args := [] }

/-- 'keysmithlaw09.MachineNames': WHATEVER THE INPUT: true; the input reads as it did. -/
def machineNamesSpec : ChangeSpec := { name := "machineNames", fn := fun _ => fun
  | [] => { results := [.lit (.bool true)], args := [] }
  | _ => none }
def machineNamesRow : OpenClaim := { program := "ytocndimihokcmaagreat", sum := "153f082f7d9ca9416dbb6e77b415dafb4137274f45b16c9fb448c5765cccc1e4", func := "keysmith/keysmithlaw09.MachineNames", spec := "machineNames", unfollowed := true, recurses := true, plainKeys := false, apart := false }
def MachineNamesSaid : Prop := machineNamesRow.holds Tryz.pinned (OpenSpec.ofChange machineNamesSpec)

/-- ITS FALSE NEIGHBOUR: 'it returns false'. Refute it at one input. -/
def machineNamesWrong : ChangeSpec := { name := "machineNames", fn := fun _ => fun
  | [] => { results := [.lit (.bool false)], args := [] }
  | _ => none }
def MachineNamesWrongFalsely : Prop := machineNamesRow.holds Tryz.pinned (OpenSpec.ofChange machineNamesWrong)

/-- 'keysmithlaw09.MachineSteps': WHATEVER THE INPUT: true; the input reads as it did. -/
def machineStepsSpec : ChangeSpec := { name := "machineSteps", fn := fun _ => fun
  | [d1, d2, d3, d4] => { results := [.lit (.bool true)], args := [d1, d2, d3, d4] }
  | _ => none }
def machineStepsRow : OpenClaim := { program := "ytocndimihokcmaagreat", sum := "153f082f7d9ca9416dbb6e77b415dafb4137274f45b16c9fb448c5765cccc1e4", func := "keysmith/keysmithlaw09.MachineSteps", spec := "machineSteps", unfollowed := true, recurses := true, plainKeys := false, apart := false }
def MachineStepsSaid : Prop := machineStepsRow.holds Tryz.pinned (OpenSpec.ofChange machineStepsSpec)

/-- ITS FALSE NEIGHBOUR: 'it returns false'. Refute it at one input. -/
def machineStepsWrong : ChangeSpec := { name := "machineSteps", fn := fun _ => fun
  | [d1, d2, d3, d4] => { results := [.lit (.bool false)], args := [d1, d2, d3, d4] }
  | _ => none }
def MachineStepsWrongFalsely : Prop := machineStepsRow.holds Tryz.pinned (OpenSpec.ofChange machineStepsWrong)

/-- 'keysmithlaw09.MachineApart': WHATEVER THE INPUT: true; the input reads as it did. -/
def machineApartSpec : ChangeSpec := { name := "machineApart", fn := fun _ => fun
  | [d1, d2, d3, d4] => { results := [.lit (.bool true)], args := [d1, d2, d3, d4] }
  | _ => none }
def machineApartRow : OpenClaim := { program := "ytocndimihokcmaagreat", sum := "153f082f7d9ca9416dbb6e77b415dafb4137274f45b16c9fb448c5765cccc1e4", func := "keysmith/keysmithlaw09.MachineApart", spec := "machineApart", unfollowed := true, recurses := true, plainKeys := false, apart := false }
def MachineApartSaid : Prop := machineApartRow.holds Tryz.pinned (OpenSpec.ofChange machineApartSpec)

/-- ITS FALSE NEIGHBOUR: 'it returns false'. Refute it at one input. -/
def machineApartWrong : ChangeSpec := { name := "machineApart", fn := fun _ => fun
  | [d1, d2, d3, d4] => { results := [.lit (.bool false)], args := [d1, d2, d3, d4] }
  | _ => none }
def MachineApartWrongFalsely : Prop := machineApartRow.holds Tryz.pinned (OpenSpec.ofChange machineApartWrong)

/- THE SECOND FORM. 'bulk': how many values and letters a reading holds, each counted each time it is reached (what is shared counts as often as it is met; a slice's spare places count too). A statement '..UptoSaid' is the law's where the arguments, and the package variables that the reading takes, are together of bulk at most 1048576: NARROWER than '..Said'. Prove '..Said' where nothing that the law and all that it calls make is longer than what came in: it says more and counts as full. Else prove '..UptoSaid'. A law counts once. -/
mutual
def uptoBulk {H : Type} : DataW H → Nat
  | .lit (.string bytes) => bytes.length + 1
  | .lit _ => 1
  | .nil => 1
  | .ptr d => uptoBulk d + 1
  | .slice elems spare => uptoBulkAll elems + uptoBulkAll spare + 1
  | .agg parts => uptoBulkAll parts + 1
  | .iface _ d => uptoBulk d + 1
  | .map entries => uptoBulkEntries entries + 1
  | .held _ => 1
def uptoBulkAll {H : Type} : List (DataW H) → Nat
  | [] => 0
  | d :: r => uptoBulk d + uptoBulkAll r
def uptoBulkEntries {H : Type} : List (Lit × DataW H) → Nat
  | [] => 0
  | x :: r => uptoBulkEntry x + uptoBulkEntries r
def uptoBulkEntry {H : Type} : Lit × DataW H → Nat
  | (.string bytes, d) => bytes.length + uptoBulk d + 1
  | (_, d) => uptoBulk d + 1
 end
def uptoSmall : (H : Type) → List (DataW H) → Bool := fun _ ds => decide (uptoBulkAll ds ≤ 1048576)
def OpenSpec.upto (s : _root_.Go.ChangeSpec) : _root_.Go.OpenSpec := { _root_.Go.OpenSpec.ofChange s with cond := some uptoSmall }

/-- 'keysmithlaw09.MachineNames', WHERE WHAT IT READS IS OF BULK AT MOST 1048576: true; the input reads as it did. -/
def machineNamesUptoRow : OpenClaim := { program := "ytocndimihokcmaagreat", sum := "153f082f7d9ca9416dbb6e77b415dafb4137274f45b16c9fb448c5765cccc1e4", func := "keysmith/keysmithlaw09.MachineNames", spec := "machineNames", unfollowed := true, recurses := true, plainKeys := false, apart := false, narrowed := true }
def MachineNamesUptoSaid : Prop := machineNamesUptoRow.holds Tryz.pinned (OpenSpec.upto machineNamesSpec)

/-- 'keysmithlaw09.MachineSteps', WHERE WHAT IT READS IS OF BULK AT MOST 1048576: true; the input reads as it did. -/
def machineStepsUptoRow : OpenClaim := { program := "ytocndimihokcmaagreat", sum := "153f082f7d9ca9416dbb6e77b415dafb4137274f45b16c9fb448c5765cccc1e4", func := "keysmith/keysmithlaw09.MachineSteps", spec := "machineSteps", unfollowed := true, recurses := true, plainKeys := false, apart := false, narrowed := true }
def MachineStepsUptoSaid : Prop := machineStepsUptoRow.holds Tryz.pinned (OpenSpec.upto machineStepsSpec)

/-- 'keysmithlaw09.MachineApart', WHERE WHAT IT READS IS OF BULK AT MOST 1048576: true; the input reads as it did. -/
def machineApartUptoRow : OpenClaim := { program := "ytocndimihokcmaagreat", sum := "153f082f7d9ca9416dbb6e77b415dafb4137274f45b16c9fb448c5765cccc1e4", func := "keysmith/keysmithlaw09.MachineApart", spec := "machineApart", unfollowed := true, recurses := true, plainKeys := false, apart := false, narrowed := true }
def MachineApartUptoSaid : Prop := machineApartUptoRow.holds Tryz.pinned (OpenSpec.upto machineApartSpec)

end Rows
end Go.Proofs.YtocndimihokcmaaGreat
