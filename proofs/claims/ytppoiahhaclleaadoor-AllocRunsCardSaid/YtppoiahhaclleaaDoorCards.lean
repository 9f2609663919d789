/-
  DERIVED. GIVEN WITH THE SEED: THE CARDS: each row of YtppoiahhaclleaaDoorRows.lean that lists a variable, with what it lists TIED to the program's text (the seventh form; the later family's looks); each row that meets fmt, with fmt's text TOLD by the authors' own Lean function (tested against real Go, not proved from fmt's source: count such statements apart). THE CARD IS WHAT COUNTS. Prove the row's statement (the work); the ties are given (YtppoiahhaclleaaDoorTie.lean); close each card by the builder's one call (the guide's Derived/Test/ToyasCard.lean, 'card_holds'). Laid BY PROGRAM, IN A SANDBOX (cutbox-door.mjs). By AI agents, Wed Nov 11 2026. No macro, syntax, notation, axiom, sorry.
-/
import Derived.Test.YtppoiahhaclleaaDoorRows
import GoSem.ClaimSeven
namespace Go.Proofs.YtppoiahhaclleaaDoor
namespace Rows

/-- THE TIED CARD OF 'keysmithlaw14.AllocRuns'. -/
def allocRunsCard : Claim7 := { stood := { row := allocRunsRow, standIns := [], harness := (true, "d51b28ec476ad5e110a5fa4d00725c99c0202bcd09048f8c0e32b6214a67fac0"), looks := false }, kinds := [], alts := [], laidByText := true, laidKinds := [.data], laidTests := true, laidLooks := .later }
def AllocRunsCardSaid : Prop := Claim7.holds Tryd.pinned (.plain (OpenSpec.ofChange allocRunsSpec)) allocRunsCard

/-- THE TIED CARD OF 'keysmithlaw14.AllocLive'. -/
def allocLiveCard : Claim7 := { stood := { row := allocLiveRow, standIns := [], harness := (true, "d51b28ec476ad5e110a5fa4d00725c99c0202bcd09048f8c0e32b6214a67fac0"), looks := false }, kinds := [], alts := [], laidByText := true, laidKinds := [.data], laidTests := true, laidLooks := .later }
def AllocLiveCardSaid : Prop := Claim7.holds Tryd.pinned (.plain (OpenSpec.ofChange allocLiveSpec)) allocLiveCard

/-- THE TIED CARD OF 'keysmithlaw14.AllocNames'. -/
def allocNamesCard : Claim7 := { stood := { row := allocNamesRow, standIns := [], harness := (true, "d51b28ec476ad5e110a5fa4d00725c99c0202bcd09048f8c0e32b6214a67fac0"), looks := false }, kinds := [], alts := [], laidByText := true, laidKinds := [.data], laidTests := true, laidLooks := .later }
def AllocNamesCardSaid : Prop := Claim7.holds Tryd.pinned (.plain (OpenSpec.ofChange allocNamesSpec)) allocNamesCard

/-- THE TIED CARD OF 'keysmithlaw14.AllocCalls'. -/
def allocCallsCard : Claim7 := { stood := { row := allocCallsRow, standIns := [], harness := (true, "d51b28ec476ad5e110a5fa4d00725c99c0202bcd09048f8c0e32b6214a67fac0"), looks := false }, kinds := [], alts := [], laidByText := true, laidKinds := [.data], laidTests := true, laidLooks := .later }
def AllocCallsCardSaid : Prop := Claim7.holds Tryd.pinned (.plain (OpenSpec.ofChange allocCallsSpec)) allocCallsCard

/-- THE SECOND FORM's CARD OF 'keysmithlaw14.AllocRuns'. -/
def allocRunsUptoCard : Claim7 := { stood := { row := allocRunsUptoRow, standIns := [], harness := (true, "d51b28ec476ad5e110a5fa4d00725c99c0202bcd09048f8c0e32b6214a67fac0"), looks := false }, kinds := [], alts := [], laidByText := true, laidKinds := [.data], laidTests := true, laidLooks := .later }
def AllocRunsUptoCardSaid : Prop := Claim7.holds Tryd.pinned (.plain (OpenSpec.upto allocRunsSpec)) allocRunsUptoCard

/-- THE SECOND FORM's CARD OF 'keysmithlaw14.AllocLive'. -/
def allocLiveUptoCard : Claim7 := { stood := { row := allocLiveUptoRow, standIns := [], harness := (true, "d51b28ec476ad5e110a5fa4d00725c99c0202bcd09048f8c0e32b6214a67fac0"), looks := false }, kinds := [], alts := [], laidByText := true, laidKinds := [.data], laidTests := true, laidLooks := .later }
def AllocLiveUptoCardSaid : Prop := Claim7.holds Tryd.pinned (.plain (OpenSpec.upto allocLiveSpec)) allocLiveUptoCard

/-- THE SECOND FORM's CARD OF 'keysmithlaw14.AllocNames'. -/
def allocNamesUptoCard : Claim7 := { stood := { row := allocNamesUptoRow, standIns := [], harness := (true, "d51b28ec476ad5e110a5fa4d00725c99c0202bcd09048f8c0e32b6214a67fac0"), looks := false }, kinds := [], alts := [], laidByText := true, laidKinds := [.data], laidTests := true, laidLooks := .later }
def AllocNamesUptoCardSaid : Prop := Claim7.holds Tryd.pinned (.plain (OpenSpec.upto allocNamesSpec)) allocNamesUptoCard

/-- THE SECOND FORM's CARD OF 'keysmithlaw14.AllocCalls'. -/
def allocCallsUptoCard : Claim7 := { stood := { row := allocCallsUptoRow, standIns := [], harness := (true, "d51b28ec476ad5e110a5fa4d00725c99c0202bcd09048f8c0e32b6214a67fac0"), looks := false }, kinds := [], alts := [], laidByText := true, laidKinds := [.data], laidTests := true, laidLooks := .later }
def AllocCallsUptoCardSaid : Prop := Claim7.holds Tryd.pinned (.plain (OpenSpec.upto allocCallsSpec)) allocCallsUptoCard
end Rows
end Go.Proofs.YtppoiahhaclleaaDoor
