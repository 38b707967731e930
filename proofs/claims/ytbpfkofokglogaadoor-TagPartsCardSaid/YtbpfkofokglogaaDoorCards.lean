/-
  DERIVED. GIVEN WITH THE SEED: THE CARDS: each row of YtbpfkofokglogaaDoorRows.lean that lists a variable, with what it lists TIED to the program's text (the seventh form; the later family's looks); each row that meets fmt, with fmt's text TOLD by the authors' own Lean function (tested against real Go, not proved from fmt's source: count such statements apart). THE CARD IS WHAT COUNTS. Prove the row's statement (the work); the ties are given (YtbpfkofokglogaaDoorTie.lean); close each card by the builder's one call (the guide's Derived/Test/ToyasCard.lean, 'card_holds'). Laid BY PROGRAM, IN A SANDBOX (cutbox-door.mjs). By AI agents, Wed Nov 11 2026. No macro, syntax, notation, axiom, sorry.
-/
import Derived.Test.YtbpfkofokglogaaDoorRows
import GoSem.ClaimSeven
namespace Go.Proofs.YtbpfkofokglogaaDoor
namespace Rows

/-- THE TIED CARD OF 'cuboidlaw12.TagTells'. -/
def tagTellsCard : Claim7 := { stood := { row := tagTellsRow, standIns := [], harness := (true, "85862d36358868f0244e4265c4f4dc8618d5a48be1799c60066331ea2e434241"), looks := false }, kinds := [], alts := [], laidByText := true, laidKinds := [.data], laidTests := true, laidLooks := .later }
def TagTellsCardSaid : Prop := Claim7.holds Tryd.pinned (.plain (OpenSpec.ofChange tagTellsSpec)) tagTellsCard

/-- THE TIED CARD OF 'cuboidlaw12.TagNets'. -/
def tagNetsCard : Claim7 := { stood := { row := tagNetsRow, standIns := [], harness := (true, "85862d36358868f0244e4265c4f4dc8618d5a48be1799c60066331ea2e434241"), looks := false }, kinds := [], alts := [], laidByText := true, laidKinds := [.data], laidTests := true, laidLooks := .later }
def TagNetsCardSaid : Prop := Claim7.holds Tryd.pinned (.plain (OpenSpec.ofChange tagNetsSpec)) tagNetsCard

/-- THE TIED CARD OF 'cuboidlaw12.TagStates'. -/
def tagStatesCard : Claim7 := { stood := { row := tagStatesRow, standIns := [], harness := (true, "85862d36358868f0244e4265c4f4dc8618d5a48be1799c60066331ea2e434241"), looks := false }, kinds := [], alts := [], laidByText := true, laidKinds := [.data], laidTests := true, laidLooks := .later }
def TagStatesCardSaid : Prop := Claim7.holds Tryd.pinned (.plain (OpenSpec.ofChange tagStatesSpec)) tagStatesCard

/-- THE TIED CARD OF 'cuboidlaw12.TagParts'. -/
def tagPartsCard : Claim7 := { stood := { row := tagPartsRow, standIns := [], harness := (true, "85862d36358868f0244e4265c4f4dc8618d5a48be1799c60066331ea2e434241"), looks := false }, kinds := [], alts := [], laidByText := true, laidKinds := [.data], laidTests := true, laidLooks := .later }
def TagPartsCardSaid : Prop := Claim7.holds Tryd.pinned (.plain (OpenSpec.ofChange tagPartsSpec)) tagPartsCard

/-- THE SECOND FORM's CARD OF 'cuboidlaw12.TagTells'. -/
def tagTellsUptoCard : Claim7 := { stood := { row := tagTellsUptoRow, standIns := [], harness := (true, "85862d36358868f0244e4265c4f4dc8618d5a48be1799c60066331ea2e434241"), looks := false }, kinds := [], alts := [], laidByText := true, laidKinds := [.data], laidTests := true, laidLooks := .later }
def TagTellsUptoCardSaid : Prop := Claim7.holds Tryd.pinned (.plain (OpenSpec.upto tagTellsSpec)) tagTellsUptoCard

/-- THE SECOND FORM's CARD OF 'cuboidlaw12.TagNets'. -/
def tagNetsUptoCard : Claim7 := { stood := { row := tagNetsUptoRow, standIns := [], harness := (true, "85862d36358868f0244e4265c4f4dc8618d5a48be1799c60066331ea2e434241"), looks := false }, kinds := [], alts := [], laidByText := true, laidKinds := [.data], laidTests := true, laidLooks := .later }
def TagNetsUptoCardSaid : Prop := Claim7.holds Tryd.pinned (.plain (OpenSpec.upto tagNetsSpec)) tagNetsUptoCard

/-- THE SECOND FORM's CARD OF 'cuboidlaw12.TagStates'. -/
def tagStatesUptoCard : Claim7 := { stood := { row := tagStatesUptoRow, standIns := [], harness := (true, "85862d36358868f0244e4265c4f4dc8618d5a48be1799c60066331ea2e434241"), looks := false }, kinds := [], alts := [], laidByText := true, laidKinds := [.data], laidTests := true, laidLooks := .later }
def TagStatesUptoCardSaid : Prop := Claim7.holds Tryd.pinned (.plain (OpenSpec.upto tagStatesSpec)) tagStatesUptoCard

/-- THE SECOND FORM's CARD OF 'cuboidlaw12.TagParts'. -/
def tagPartsUptoCard : Claim7 := { stood := { row := tagPartsUptoRow, standIns := [], harness := (true, "85862d36358868f0244e4265c4f4dc8618d5a48be1799c60066331ea2e434241"), looks := false }, kinds := [], alts := [], laidByText := true, laidKinds := [.data], laidTests := true, laidLooks := .later }
def TagPartsUptoCardSaid : Prop := Claim7.holds Tryd.pinned (.plain (OpenSpec.upto tagPartsSpec)) tagPartsUptoCard
end Rows
end Go.Proofs.YtbpfkofokglogaaDoor
