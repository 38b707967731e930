/-
  DERIVED. GIVEN WITH THE SEED: THE CARDS: each row of YtbppemcdphgknaaDoorRows.lean that lists a variable, with what it lists TIED to the program's text (the seventh form; the later family's looks); each row that meets fmt, with fmt's text TOLD by the authors' own Lean function (tested against real Go, not proved from fmt's source: count such statements apart). THE CARD IS WHAT COUNTS. Prove the row's statement (the work); the ties are given (YtbppemcdphgknaaDoorTie.lean); close each card by the builder's one call (the guide's Derived/Test/ToyasCard.lean, 'card_holds'). Laid BY PROGRAM, IN A SANDBOX (cutbox-door.mjs). By AI agents, Wed Nov 11 2026. No macro, syntax, notation, axiom, sorry.
-/
import Derived.Test.YtbppemcdphgknaaDoorRows
import GoSem.ClaimSeven
namespace Go.Proofs.YtbppemcdphgknaaDoor
namespace Rows

/-- THE TIED CARD OF 'cuboidlaw13.ChainTells'. -/
def chainTellsCard : Claim7 := { stood := { row := chainTellsRow, standIns := [], harness := (true, "f349746af49711caa4bdd05c55cd4be819e63216c40c5c8a6c9d61fa08a824be"), looks := false }, kinds := [], alts := [], laidByText := true, laidKinds := [.data], laidTests := true, laidLooks := .later }
def ChainTellsCardSaid : Prop := Claim7.holds Tryd.pinned (.plain (OpenSpec.ofChange chainTellsSpec)) chainTellsCard

/-- THE TIED CARD OF 'cuboidlaw13.ChainPuts'. -/
def chainPutsCard : Claim7 := { stood := { row := chainPutsRow, standIns := [], harness := (true, "f349746af49711caa4bdd05c55cd4be819e63216c40c5c8a6c9d61fa08a824be"), looks := false }, kinds := [], alts := [], laidByText := true, laidKinds := [.data], laidTests := true, laidLooks := .later }
def ChainPutsCardSaid : Prop := Claim7.holds Tryd.pinned (.plain (OpenSpec.ofChange chainPutsSpec)) chainPutsCard

/-- THE TIED CARD OF 'cuboidlaw13.ChainReads'. -/
def chainReadsCard : Claim7 := { stood := { row := chainReadsRow, standIns := [], harness := (true, "f349746af49711caa4bdd05c55cd4be819e63216c40c5c8a6c9d61fa08a824be"), looks := false }, kinds := [], alts := [], laidByText := true, laidKinds := [.data], laidTests := true, laidLooks := .later }
def ChainReadsCardSaid : Prop := Claim7.holds Tryd.pinned (.plain (OpenSpec.ofChange chainReadsSpec)) chainReadsCard

/-- THE TIED CARD OF 'cuboidlaw13.ChainUndo'. -/
def chainUndoCard : Claim7 := { stood := { row := chainUndoRow, standIns := [], harness := (true, "f349746af49711caa4bdd05c55cd4be819e63216c40c5c8a6c9d61fa08a824be"), looks := false }, kinds := [], alts := [], laidByText := true, laidKinds := [.data], laidTests := true, laidLooks := .later }
def ChainUndoCardSaid : Prop := Claim7.holds Tryd.pinned (.plain (OpenSpec.ofChange chainUndoSpec)) chainUndoCard

/-- THE TIED CARD OF 'cuboidlaw13.ChainPrune'. -/
def chainPruneCard : Claim7 := { stood := { row := chainPruneRow, standIns := [], harness := (true, "f349746af49711caa4bdd05c55cd4be819e63216c40c5c8a6c9d61fa08a824be"), looks := false }, kinds := [], alts := [], laidByText := true, laidKinds := [.data], laidTests := true, laidLooks := .later }
def ChainPruneCardSaid : Prop := Claim7.holds Tryd.pinned (.plain (OpenSpec.ofChange chainPruneSpec)) chainPruneCard

/-- THE TIED CARD OF 'cuboidlaw13.ChainBounds'. -/
def chainBoundsCard : Claim7 := { stood := { row := chainBoundsRow, standIns := [], harness := (true, "f349746af49711caa4bdd05c55cd4be819e63216c40c5c8a6c9d61fa08a824be"), looks := false }, kinds := [], alts := [], laidByText := true, laidKinds := [.data], laidTests := true, laidLooks := .later }
def ChainBoundsCardSaid : Prop := Claim7.holds Tryd.pinned (.plain (OpenSpec.ofChange chainBoundsSpec)) chainBoundsCard

/-- THE TIED CARD OF 'cuboidlaw18.TableCopies'. -/
def tableCopiesCard : Claim7 := { stood := { row := tableCopiesRow, standIns := [], harness := (true, "f349746af49711caa4bdd05c55cd4be819e63216c40c5c8a6c9d61fa08a824be"), looks := false }, kinds := [], alts := [], laidByText := true, laidKinds := [.data], laidTests := true, laidLooks := .later }
def TableCopiesCardSaid : Prop := Claim7.holds Tryd.pinned (.plain (OpenSpec.ofChange tableCopiesSpec)) tableCopiesCard

/-- THE TIED CARD OF 'cuboidlaw18.TableRoom'. -/
def tableRoomCard : Claim7 := { stood := { row := tableRoomRow, standIns := [], harness := (true, "f349746af49711caa4bdd05c55cd4be819e63216c40c5c8a6c9d61fa08a824be"), looks := false }, kinds := [], alts := [], laidByText := true, laidKinds := [.data], laidTests := true, laidLooks := .later }
def TableRoomCardSaid : Prop := Claim7.holds Tryd.pinned (.plain (OpenSpec.ofChange tableRoomSpec)) tableRoomCard

/-- THE SECOND FORM's CARD OF 'cuboidlaw13.ChainTells'. -/
def chainTellsUptoCard : Claim7 := { stood := { row := chainTellsUptoRow, standIns := [], harness := (true, "f349746af49711caa4bdd05c55cd4be819e63216c40c5c8a6c9d61fa08a824be"), looks := false }, kinds := [], alts := [], laidByText := true, laidKinds := [.data], laidTests := true, laidLooks := .later }
def ChainTellsUptoCardSaid : Prop := Claim7.holds Tryd.pinned (.plain (OpenSpec.upto chainTellsSpec)) chainTellsUptoCard

/-- THE SECOND FORM's CARD OF 'cuboidlaw13.ChainPuts'. -/
def chainPutsUptoCard : Claim7 := { stood := { row := chainPutsUptoRow, standIns := [], harness := (true, "f349746af49711caa4bdd05c55cd4be819e63216c40c5c8a6c9d61fa08a824be"), looks := false }, kinds := [], alts := [], laidByText := true, laidKinds := [.data], laidTests := true, laidLooks := .later }
def ChainPutsUptoCardSaid : Prop := Claim7.holds Tryd.pinned (.plain (OpenSpec.upto chainPutsSpec)) chainPutsUptoCard

/-- THE SECOND FORM's CARD OF 'cuboidlaw13.ChainReads'. -/
def chainReadsUptoCard : Claim7 := { stood := { row := chainReadsUptoRow, standIns := [], harness := (true, "f349746af49711caa4bdd05c55cd4be819e63216c40c5c8a6c9d61fa08a824be"), looks := false }, kinds := [], alts := [], laidByText := true, laidKinds := [.data], laidTests := true, laidLooks := .later }
def ChainReadsUptoCardSaid : Prop := Claim7.holds Tryd.pinned (.plain (OpenSpec.upto chainReadsSpec)) chainReadsUptoCard

/-- THE SECOND FORM's CARD OF 'cuboidlaw13.ChainUndo'. -/
def chainUndoUptoCard : Claim7 := { stood := { row := chainUndoUptoRow, standIns := [], harness := (true, "f349746af49711caa4bdd05c55cd4be819e63216c40c5c8a6c9d61fa08a824be"), looks := false }, kinds := [], alts := [], laidByText := true, laidKinds := [.data], laidTests := true, laidLooks := .later }
def ChainUndoUptoCardSaid : Prop := Claim7.holds Tryd.pinned (.plain (OpenSpec.upto chainUndoSpec)) chainUndoUptoCard

/-- THE SECOND FORM's CARD OF 'cuboidlaw13.ChainPrune'. -/
def chainPruneUptoCard : Claim7 := { stood := { row := chainPruneUptoRow, standIns := [], harness := (true, "f349746af49711caa4bdd05c55cd4be819e63216c40c5c8a6c9d61fa08a824be"), looks := false }, kinds := [], alts := [], laidByText := true, laidKinds := [.data], laidTests := true, laidLooks := .later }
def ChainPruneUptoCardSaid : Prop := Claim7.holds Tryd.pinned (.plain (OpenSpec.upto chainPruneSpec)) chainPruneUptoCard

/-- THE SECOND FORM's CARD OF 'cuboidlaw13.ChainBounds'. -/
def chainBoundsUptoCard : Claim7 := { stood := { row := chainBoundsUptoRow, standIns := [], harness := (true, "f349746af49711caa4bdd05c55cd4be819e63216c40c5c8a6c9d61fa08a824be"), looks := false }, kinds := [], alts := [], laidByText := true, laidKinds := [.data], laidTests := true, laidLooks := .later }
def ChainBoundsUptoCardSaid : Prop := Claim7.holds Tryd.pinned (.plain (OpenSpec.upto chainBoundsSpec)) chainBoundsUptoCard

/-- THE SECOND FORM's CARD OF 'cuboidlaw18.TableCopies'. -/
def tableCopiesUptoCard : Claim7 := { stood := { row := tableCopiesUptoRow, standIns := [], harness := (true, "f349746af49711caa4bdd05c55cd4be819e63216c40c5c8a6c9d61fa08a824be"), looks := false }, kinds := [], alts := [], laidByText := true, laidKinds := [.data], laidTests := true, laidLooks := .later }
def TableCopiesUptoCardSaid : Prop := Claim7.holds Tryd.pinned (.plain (OpenSpec.upto tableCopiesSpec)) tableCopiesUptoCard

/-- THE SECOND FORM's CARD OF 'cuboidlaw18.TableRoom'. -/
def tableRoomUptoCard : Claim7 := { stood := { row := tableRoomUptoRow, standIns := [], harness := (true, "f349746af49711caa4bdd05c55cd4be819e63216c40c5c8a6c9d61fa08a824be"), looks := false }, kinds := [], alts := [], laidByText := true, laidKinds := [.data], laidTests := true, laidLooks := .later }
def TableRoomUptoCardSaid : Prop := Claim7.holds Tryd.pinned (.plain (OpenSpec.upto tableRoomSpec)) tableRoomUptoCard
end Rows
end Go.Proofs.YtbppemcdphgknaaDoor
