/-
  No cell of these rows narrows 'for every input' (looked for: loops, veiled, ifaces, maps, wideKeys, modest, calm, conditions, laid).
  DERIVED. THE GIVEN ROWS OF THIS SEAT. 6 by the template 'for every input the law returns true; each argument reads behind the call as it read before'; 0 by the template 'total and deterministic' (their statements: YtcciaihghhleoaaTotals.lean).
  GIVEN WITH THE SEED: the statements are not yours to turn. If you find one false, say at which input.
  Laid BY PROGRAM, IN A SANDBOX (cutbox-rows.mjs): the forced cells as the released guide's own fill.sh prints them over the translation a8b1c4934cdab526… (all of the seat's roots in one cut). By AI agents, Wed Nov 11 2026. No macro, syntax, notation, axiom, sorry.
-/
import Derived.Test.YtcciaihghhleoaaChecked
import GoSem.Claim
import GoSem.ClaimJoined
import GoSem.ClaimMapViews
import Derived.JoinedTies
import Derived.KernelRfl
namespace Go.Proofs.Ytcciaihghhleoaa
/- THE CELL 'sum', in the pinned program and in every row, IS THE sha256 OF THE DUMP (.gsa) THAT YtcciaihghhleoaaProg.lean LOADS. Nothing in Lean hashes anything: it is a label: what it is worth is what the hold of that sum in a sandbox is worth. -/
noncomputable def Try.pinned : Pinned := { name := "ytcciaihghhleoaa", sum := "a8b1c4934cdab5262055a7a830b42883394096e6307e67aa6ff2ebec186ce058", checked := Try.checked }
namespace Rows
def none {H : Type} : Left H := { results := [], args := [] }

/-- 'keysmithlaw04.MemoryStores': WHATEVER THE INPUT: true; the input reads as it did. -/
def memoryStoresSpec : ChangeSpec := { name := "memoryStores", fn := fun _ => fun
  | [d1, d2, d3] => { results := [.lit (.bool true)], args := [d1, d2, d3] }
  | _ => none }
def memoryStoresRow : OpenClaim := { program := "ytcciaihghhleoaa", sum := "a8b1c4934cdab5262055a7a830b42883394096e6307e67aa6ff2ebec186ce058", func := "keysmith/keysmithlaw04.MemoryStores", spec := "memoryStores", unfollowed := true, recurses := true, apart := false }
def MemoryStoresSaid : Prop := memoryStoresRow.holds Try.pinned (OpenSpec.ofChange memoryStoresSpec)

/-- ITS FALSE NEIGHBOUR: 'it returns false'. Refute it at one input. -/
def memoryStoresWrong : ChangeSpec := { name := "memoryStores", fn := fun _ => fun
  | [d1, d2, d3] => { results := [.lit (.bool false)], args := [d1, d2, d3] }
  | _ => none }
def MemoryStoresWrongFalsely : Prop := memoryStoresRow.holds Try.pinned (OpenSpec.ofChange memoryStoresWrong)

/-- 'keysmithlaw04.MemoryClones': WHATEVER THE INPUT: true; the input reads as it did. -/
def memoryClonesSpec : ChangeSpec := { name := "memoryClones", fn := fun _ => fun
  | [d1, d2, d3, d4] => { results := [.lit (.bool true)], args := [d1, d2, d3, d4] }
  | _ => none }
def memoryClonesRow : OpenClaim := { program := "ytcciaihghhleoaa", sum := "a8b1c4934cdab5262055a7a830b42883394096e6307e67aa6ff2ebec186ce058", func := "keysmith/keysmithlaw04.MemoryClones", spec := "memoryClones", unfollowed := true, recurses := true, apart := false }
def MemoryClonesSaid : Prop := memoryClonesRow.holds Try.pinned (OpenSpec.ofChange memoryClonesSpec)

/-- ITS FALSE NEIGHBOUR: 'it returns false'. Refute it at one input. -/
def memoryClonesWrong : ChangeSpec := { name := "memoryClones", fn := fun _ => fun
  | [d1, d2, d3, d4] => { results := [.lit (.bool false)], args := [d1, d2, d3, d4] }
  | _ => none }
def MemoryClonesWrongFalsely : Prop := memoryClonesRow.holds Try.pinned (OpenSpec.ofChange memoryClonesWrong)

/-- 'keysmithlaw04.MemoryBytes': WHATEVER THE INPUT: true; the input reads as it did. -/
def memoryBytesSpec : ChangeSpec := { name := "memoryBytes", fn := fun _ => fun
  | [d1, d2, d3, d4] => { results := [.lit (.bool true)], args := [d1, d2, d3, d4] }
  | _ => none }
def memoryBytesRow : OpenClaim := { program := "ytcciaihghhleoaa", sum := "a8b1c4934cdab5262055a7a830b42883394096e6307e67aa6ff2ebec186ce058", func := "keysmith/keysmithlaw04.MemoryBytes", spec := "memoryBytes", unfollowed := true, recurses := true, apart := false }
def MemoryBytesSaid : Prop := memoryBytesRow.holds Try.pinned (OpenSpec.ofChange memoryBytesSpec)

/-- ITS FALSE NEIGHBOUR: 'it returns false'. Refute it at one input. -/
def memoryBytesWrong : ChangeSpec := { name := "memoryBytes", fn := fun _ => fun
  | [d1, d2, d3, d4] => { results := [.lit (.bool false)], args := [d1, d2, d3, d4] }
  | _ => none }
def MemoryBytesWrongFalsely : Prop := memoryBytesRow.holds Try.pinned (OpenSpec.ofChange memoryBytesWrong)

/-- 'keysmithlaw04.MemoryNames': WHATEVER THE INPUT: true; the input reads as it did. -/
def memoryNamesSpec : ChangeSpec := { name := "memoryNames", fn := fun _ => fun
  | [] => { results := [.lit (.bool true)], args := [] }
  | _ => none }
def memoryNamesRow : OpenClaim := { program := "ytcciaihghhleoaa", sum := "a8b1c4934cdab5262055a7a830b42883394096e6307e67aa6ff2ebec186ce058", func := "keysmith/keysmithlaw04.MemoryNames", spec := "memoryNames", unfollowed := true, recurses := true, apart := false }
def MemoryNamesSaid : Prop := memoryNamesRow.holds Try.pinned (OpenSpec.ofChange memoryNamesSpec)

/-- ITS FALSE NEIGHBOUR: 'it returns false'. Refute it at one input. -/
def memoryNamesWrong : ChangeSpec := { name := "memoryNames", fn := fun _ => fun
  | [] => { results := [.lit (.bool false)], args := [] }
  | _ => none }
def MemoryNamesWrongFalsely : Prop := memoryNamesRow.holds Try.pinned (OpenSpec.ofChange memoryNamesWrong)

/-- 'keysmithlaw04.MemoryScript': WHATEVER THE INPUT: true; the input reads as it did. -/
def memoryScriptSpec : ChangeSpec := { name := "memoryScript", fn := fun _ => fun
  | [d1, d2] => { results := [.lit (.bool true)], args := [d1, d2] }
  | _ => none }
def memoryScriptRow : OpenClaim := { program := "ytcciaihghhleoaa", sum := "a8b1c4934cdab5262055a7a830b42883394096e6307e67aa6ff2ebec186ce058", func := "keysmith/keysmithlaw04.MemoryScript", spec := "memoryScript", unfollowed := true, recurses := true, apart := false }
def MemoryScriptSaid : Prop := memoryScriptRow.holds Try.pinned (OpenSpec.ofChange memoryScriptSpec)

/-- ITS FALSE NEIGHBOUR: 'it returns false'. Refute it at one input. -/
def memoryScriptWrong : ChangeSpec := { name := "memoryScript", fn := fun _ => fun
  | [d1, d2] => { results := [.lit (.bool false)], args := [d1, d2] }
  | _ => none }
def MemoryScriptWrongFalsely : Prop := memoryScriptRow.holds Try.pinned (OpenSpec.ofChange memoryScriptWrong)

/-- 'keysmithlaw04.MemoryNil': WHATEVER THE INPUT: true; the input reads as it did. -/
def memoryNilSpec : ChangeSpec := { name := "memoryNil", fn := fun _ => fun
  | [d1, d2, d3] => { results := [.lit (.bool true)], args := [d1, d2, d3] }
  | _ => none }
def memoryNilRow : OpenClaim := { program := "ytcciaihghhleoaa", sum := "a8b1c4934cdab5262055a7a830b42883394096e6307e67aa6ff2ebec186ce058", func := "keysmith/keysmithlaw04.MemoryNil", spec := "memoryNil", unfollowed := true, recurses := true, apart := false }
def MemoryNilSaid : Prop := memoryNilRow.holds Try.pinned (OpenSpec.ofChange memoryNilSpec)

/-- ITS FALSE NEIGHBOUR: 'it returns false'. Refute it at one input. -/
def memoryNilWrong : ChangeSpec := { name := "memoryNil", fn := fun _ => fun
  | [d1, d2, d3] => { results := [.lit (.bool false)], args := [d1, d2, d3] }
  | _ => none }
def MemoryNilWrongFalsely : Prop := memoryNilRow.holds Try.pinned (OpenSpec.ofChange memoryNilWrong)

/- THE SECOND FORM. 'bulk': how many values and letters a reading holds, each counted each time it is reached (what is shared counts as often as it is met; a slice's spare places count too). A statement '..UptoSaid' is the law's where the arguments, and the package variables that the reading takes, are together of bulk at most 1048576: NARROWER than '..Said'. Prove '..Said' where nothing that the law and all that it calls make is longer than what came in: it says more and counts as full. Else prove '..UptoSaid'. A law counts once. -/
mutual
def uptoBulk {H : Type} : DataW H → Nat
  | .lit (.string bytes) => bytes.length + 1
  | .lit _ => 1
  | .nil => 1
  | .ptr d => uptoBulk d + 1
  | .slice elems spare => uptoBulkAll elems + uptoBulkAll spare + 1
  | .agg parts => uptoBulkAll parts + 1
  | .iface _ d => uptoBulk d + 1
  | .map entries => uptoBulkEntries entries + 1
  | .held _ => 1
def uptoBulkAll {H : Type} : List (DataW H) → Nat
  | [] => 0
  | d :: r => uptoBulk d + uptoBulkAll r
def uptoBulkEntries {H : Type} : List (Lit × DataW H) → Nat
  | [] => 0
  | x :: r => uptoBulkEntry x + uptoBulkEntries r
def uptoBulkEntry {H : Type} : Lit × DataW H → Nat
  | (.string bytes, d) => bytes.length + uptoBulk d + 1
  | (_, d) => uptoBulk d + 1
 end
def uptoSmall : (H : Type) → List (DataW H) → Bool := fun _ ds => decide (uptoBulkAll ds ≤ 1048576)
def OpenSpec.upto (s : _root_.Go.ChangeSpec) : _root_.Go.OpenSpec := { _root_.Go.OpenSpec.ofChange s with cond := some uptoSmall }

/-- 'keysmithlaw04.MemoryStores', WHERE WHAT IT READS IS OF BULK AT MOST 1048576: true; the input reads as it did. -/
def memoryStoresUptoRow : OpenClaim := { program := "ytcciaihghhleoaa", sum := "a8b1c4934cdab5262055a7a830b42883394096e6307e67aa6ff2ebec186ce058", func := "keysmith/keysmithlaw04.MemoryStores", spec := "memoryStores", unfollowed := true, recurses := true, apart := false, narrowed := true }
def MemoryStoresUptoSaid : Prop := memoryStoresUptoRow.holds Try.pinned (OpenSpec.upto memoryStoresSpec)

/-- 'keysmithlaw04.MemoryClones', WHERE WHAT IT READS IS OF BULK AT MOST 1048576: true; the input reads as it did. -/
def memoryClonesUptoRow : OpenClaim := { program := "ytcciaihghhleoaa", sum := "a8b1c4934cdab5262055a7a830b42883394096e6307e67aa6ff2ebec186ce058", func := "keysmith/keysmithlaw04.MemoryClones", spec := "memoryClones", unfollowed := true, recurses := true, apart := false, narrowed := true }
def MemoryClonesUptoSaid : Prop := memoryClonesUptoRow.holds Try.pinned (OpenSpec.upto memoryClonesSpec)

/-- 'keysmithlaw04.MemoryBytes', WHERE WHAT IT READS IS OF BULK AT MOST 1048576: true; the input reads as it did. -/
def memoryBytesUptoRow : OpenClaim := { program := "ytcciaihghhleoaa", sum := "a8b1c4934cdab5262055a7a830b42883394096e6307e67aa6ff2ebec186ce058", func := "keysmith/keysmithlaw04.MemoryBytes", spec := "memoryBytes", unfollowed := true, recurses := true, apart := false, narrowed := true }
def MemoryBytesUptoSaid : Prop := memoryBytesUptoRow.holds Try.pinned (OpenSpec.upto memoryBytesSpec)

/-- 'keysmithlaw04.MemoryNames', WHERE WHAT IT READS IS OF BULK AT MOST 1048576: true; the input reads as it did. -/
def memoryNamesUptoRow : OpenClaim := { program := "ytcciaihghhleoaa", sum := "a8b1c4934cdab5262055a7a830b42883394096e6307e67aa6ff2ebec186ce058", func := "keysmith/keysmithlaw04.MemoryNames", spec := "memoryNames", unfollowed := true, recurses := true, apart := false, narrowed := true }
def MemoryNamesUptoSaid : Prop := memoryNamesUptoRow.holds Try.pinned (OpenSpec.upto memoryNamesSpec)

/-- 'keysmithlaw04.MemoryScript', WHERE WHAT IT READS IS OF BULK AT MOST 1048576: true; the input reads as it did. -/
def memoryScriptUptoRow : OpenClaim := { program := "ytcciaihghhleoaa", sum := "a8b1c4934cdab5262055a7a830b42883394096e6307e67aa6ff2ebec186ce058", func := "keysmith/keysmithlaw04.MemoryScript", spec := "memoryScript", unfollowed := true, recurses := true, apart := false, narrowed := true }
def MemoryScriptUptoSaid : Prop := memoryScriptUptoRow.holds Try.pinned (OpenSpec.upto memoryScriptSpec)

/-- 'keysmithlaw04.MemoryNil', WHERE WHAT IT READS IS OF BULK AT MOST 1048576: true; the input reads as it did. -/
def memoryNilUptoRow : OpenClaim := { program := "ytcciaihghhleoaa", sum := "a8b1c4934cdab5262055a7a830b42883394096e6307e67aa6ff2ebec186ce058", func := "keysmith/keysmithlaw04.MemoryNil", spec := "memoryNil", unfollowed := true, recurses := true, apart := false, narrowed := true }
def MemoryNilUptoSaid : Prop := memoryNilUptoRow.holds Try.pinned (OpenSpec.upto memoryNilSpec)

end Rows
end Go.Proofs.Ytcciaihghhleoaa
