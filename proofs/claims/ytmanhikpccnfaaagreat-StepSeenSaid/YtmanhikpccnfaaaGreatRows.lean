/-
  No cell of these rows narrows 'for every input' (looked for: loops, veiled, ifaces, maps, wideKeys, modest, calm, conditions, laid).
  DERIVED. THE GIVEN ROWS OF THIS SEAT. 3 by the template 'for every input the law returns true; each argument reads behind the call as it read before'; 0 by the template 'total and deterministic' (their statements: YtmanhikpccnfaaaGreatTotals.lean).
  GIVEN WITH THE SEED: the statements are not yours to turn. If you find one false, say at which input.
  Laid BY PROGRAM, IN A SANDBOX (cutbox-rows.mjs): the forced cells as the released guide's own fill.sh prints them over the translation f47e7aa463e01f60… (all of the seat's roots in one cut). By AI agents, Wed Nov 11 2026. No macro, syntax, notation, axiom, sorry.
-/
import Derived.Test.YtmanhikpccnfaaaGreatChecked
import GoSem.Claim
import GoSem.ClaimJoined
import GoSem.ClaimMapViews
import Derived.JoinedTies
import Derived.KernelRfl
namespace Go.Proofs.YtmanhikpccnfaaaGreat
/- THE CELL 'sum', in the pinned program and in every row, IS THE sha256 OF THE DUMP (.gsa) THAT YtmanhikpccnfaaaGreatProg.lean LOADS. Nothing in Lean hashes anything: it is a label: what it is worth is what the hold of that sum in a sandbox is worth. -/
noncomputable def Tryz.pinned : Pinned := { name := "ytmanhikpccnfaaagreat", sum := "f47e7aa463e01f60f95b1741f5f447dfb010eb376c1d494b40139f2c15c1ecb3", checked := Tryz.checked }
namespace Rows
def none {H : Type} : Left H := { results := [], args := [] }

/-- 'keysmithlaw08.StepSeen': WHATEVER THE INPUT: true; the input reads as it did. -/
def stepSeenSpec : ChangeSpec := { name := "stepSeen", fn := fun _ => fun
  | [d1, d2, d3, d4, d5] => { results := [.lit (.bool true)], args := [d1, d2, d3, d4, d5] }
  | _ => none }
def stepSeenRow : OpenClaim := { program := "ytmanhikpccnfaaagreat", sum := "f47e7aa463e01f60f95b1741f5f447dfb010eb376c1d494b40139f2c15c1ecb3", func := "keysmith/keysmithlaw08.StepSeen", spec := "stepSeen", unfollowed := true, recurses := true, apart := false }
def StepSeenSaid : Prop := stepSeenRow.holds Tryz.pinned (OpenSpec.ofChange stepSeenSpec)

/-- ITS FALSE NEIGHBOUR: 'it returns false'. Refute it at one input. -/
def stepSeenWrong : ChangeSpec := { name := "stepSeen", fn := fun _ => fun
  | [d1, d2, d3, d4, d5] => { results := [.lit (.bool false)], args := [d1, d2, d3, d4, d5] }
  | _ => none }
def StepSeenWrongFalsely : Prop := stepSeenRow.holds Tryz.pinned (OpenSpec.ofChange stepSeenWrong)

/-- 'keysmithlaw08.StepStays': WHATEVER THE INPUT: true; the input reads as it did. -/
def stepStaysSpec : ChangeSpec := { name := "stepStays", fn := fun _ => fun
  | [d1, d2, d3, d4, d5] => { results := [.lit (.bool true)], args := [d1, d2, d3, d4, d5] }
  | _ => none }
def stepStaysRow : OpenClaim := { program := "ytmanhikpccnfaaagreat", sum := "f47e7aa463e01f60f95b1741f5f447dfb010eb376c1d494b40139f2c15c1ecb3", func := "keysmith/keysmithlaw08.StepStays", spec := "stepStays", unfollowed := true, recurses := true, apart := false }
def StepStaysSaid : Prop := stepStaysRow.holds Tryz.pinned (OpenSpec.ofChange stepStaysSpec)

/-- ITS FALSE NEIGHBOUR: 'it returns false'. Refute it at one input. -/
def stepStaysWrong : ChangeSpec := { name := "stepStays", fn := fun _ => fun
  | [d1, d2, d3, d4, d5] => { results := [.lit (.bool false)], args := [d1, d2, d3, d4, d5] }
  | _ => none }
def StepStaysWrongFalsely : Prop := stepStaysRow.holds Tryz.pinned (OpenSpec.ofChange stepStaysWrong)

/-- 'keysmithlaw08.StepCalls': WHATEVER THE INPUT: true; the input reads as it did. -/
def stepCallsSpec : ChangeSpec := { name := "stepCalls", fn := fun _ => fun
  | [d1, d2, d3, d4, d5, d6, d7] => { results := [.lit (.bool true)], args := [d1, d2, d3, d4, d5, d6, d7] }
  | _ => none }
def stepCallsRow : OpenClaim := { program := "ytmanhikpccnfaaagreat", sum := "f47e7aa463e01f60f95b1741f5f447dfb010eb376c1d494b40139f2c15c1ecb3", func := "keysmith/keysmithlaw08.StepCalls", spec := "stepCalls", unfollowed := true, recurses := true, apart := false }
def StepCallsSaid : Prop := stepCallsRow.holds Tryz.pinned (OpenSpec.ofChange stepCallsSpec)

/-- ITS FALSE NEIGHBOUR: 'it returns false'. Refute it at one input. -/
def stepCallsWrong : ChangeSpec := { name := "stepCalls", fn := fun _ => fun
  | [d1, d2, d3, d4, d5, d6, d7] => { results := [.lit (.bool false)], args := [d1, d2, d3, d4, d5, d6, d7] }
  | _ => none }
def StepCallsWrongFalsely : Prop := stepCallsRow.holds Tryz.pinned (OpenSpec.ofChange stepCallsWrong)

/- THE SECOND FORM. 'bulk': how many values and letters a reading holds, each counted each time it is reached (what is shared counts as often as it is met; a slice's spare places count too). A statement '..UptoSaid' is the law's where the arguments, and the package variables that the reading takes, are together of bulk at most 1048576: NARROWER than '..Said'. Prove '..Said' where nothing that the law and all that it calls make is longer than what came in: it says more and counts as full. Else prove '..UptoSaid'. A law counts once. -/
mutual
def uptoBulk {H : Type} : DataW H → Nat
  | .lit (.string bytes) => bytes.length + 1
  | .lit _ => 1
  | .nil => 1
  | .ptr d => uptoBulk d + 1
  | .slice elems spare => uptoBulkAll elems + uptoBulkAll spare + 1
  | .agg parts => uptoBulkAll parts + 1
  | .iface _ d => uptoBulk d + 1
  | .map entries => uptoBulkEntries entries + 1
  | .held _ => 1
def uptoBulkAll {H : Type} : List (DataW H) → Nat
  | [] => 0
  | d :: r => uptoBulk d + uptoBulkAll r
def uptoBulkEntries {H : Type} : List (Lit × DataW H) → Nat
  | [] => 0
  | x :: r => uptoBulkEntry x + uptoBulkEntries r
def uptoBulkEntry {H : Type} : Lit × DataW H → Nat
  | (.string bytes, d) => bytes.length + uptoBulk d + 1
  | (_, d) => uptoBulk d + 1
 end
def uptoSmall : (H : Type) → List (DataW H) → Bool := fun _ ds => decide (uptoBulkAll ds ≤ 1048576)
def OpenSpec.upto (s : _root_.Go.ChangeSpec) : _root_.Go.OpenSpec := { _root_.Go.OpenSpec.ofChange s with cond := some uptoSmall }

/-- 'keysmithlaw08.StepSeen', WHERE WHAT IT READS IS OF BULK AT MOST 1048576: true; the input reads as it did. -/
def stepSeenUptoRow : OpenClaim := { program := "ytmanhikpccnfaaagreat", sum := "f47e7aa463e01f60f95b1741f5f447dfb010eb376c1d494b40139f2c15c1ecb3", func := "keysmith/keysmithlaw08.StepSeen", spec := "stepSeen", unfollowed := true, recurses := true, apart := false, narrowed := true }
def StepSeenUptoSaid : Prop := stepSeenUptoRow.holds Tryz.pinned (OpenSpec.upto stepSeenSpec)

/-- 'keysmithlaw08.StepStays', WHERE WHAT IT READS IS OF BULK AT MOST 1048576: true; the input reads as it did. -/
def stepStaysUptoRow : OpenClaim := { program := "ytmanhikpccnfaaagreat", sum := "f47e7aa463e01f60f95b1741f5f447dfb010eb376c1d494b40139f2c15c1ecb3", func := "keysmith/keysmithlaw08.StepStays", spec := "stepStays", unfollowed := true, recurses := true, apart := false, narrowed := true }
def StepStaysUptoSaid : Prop := stepStaysUptoRow.holds Tryz.pinned (OpenSpec.upto stepStaysSpec)

/-- 'keysmithlaw08.StepCalls', WHERE WHAT IT READS IS OF BULK AT MOST 1048576: true; the input reads as it did. -/
def stepCallsUptoRow : OpenClaim := { program := "ytmanhikpccnfaaagreat", sum := "f47e7aa463e01f60f95b1741f5f447dfb010eb376c1d494b40139f2c15c1ecb3", func := "keysmith/keysmithlaw08.StepCalls", spec := "stepCalls", unfollowed := true, recurses := true, apart := false, narrowed := true }
def StepCallsUptoSaid : Prop := stepCallsUptoRow.holds Tryz.pinned (OpenSpec.upto stepCallsSpec)

end Rows
end Go.Proofs.YtmanhikpccnfaaaGreat
