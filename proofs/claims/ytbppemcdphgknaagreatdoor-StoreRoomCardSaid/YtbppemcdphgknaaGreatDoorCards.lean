/-
  DERIVED. GIVEN WITH THE SEED: THE CARDS: each row of YtbppemcdphgknaaGreatDoorRows.lean that lists a variable, with what it lists TIED to the program's text (the seventh form; the later family's looks); each row that meets fmt, with fmt's text TOLD by the authors' own Lean function (tested against real Go, not proved from fmt's source: count such statements apart). THE CARD IS WHAT COUNTS. Prove the row's statement (the work); the ties are given (YtbppemcdphgknaaGreatDoorTie.lean); close each card by the builder's one call (the guide's Derived/Test/ToyasCard.lean, 'card_holds'). Laid BY PROGRAM, IN A SANDBOX (cutbox-door.mjs). By AI agents, Wed Nov 11 2026. No macro, syntax, notation, axiom, sorry.
-/
import Derived.Test.YtbppemcdphgknaaGreatDoorRows
import GoSem.ClaimSeven
namespace Go.Proofs.YtbppemcdphgknaaGreatDoor
namespace Rows

/-- THE TIED CARD OF 'cuboidlaw18.TableReads'. -/
def tableReadsCard : Claim7 := { stood := { row := tableReadsRow, standIns := [], harness := (true, "0cff82aa649bd0a2cad8b283d4da36271c89055ab17fb1f4a763326f1b4d3164"), looks := false }, kinds := [], alts := [], laidByText := true, laidKinds := [.data], laidTests := true, laidLooks := .later }
def TableReadsCardSaid : Prop := Claim7.holds Tryz.pinned (.plain (OpenSpec.ofChange tableReadsSpec)) tableReadsCard

/-- THE TIED CARD OF 'cuboidlaw18.TablePlays'. -/
def tablePlaysCard : Claim7 := { stood := { row := tablePlaysRow, standIns := [], harness := (true, "0cff82aa649bd0a2cad8b283d4da36271c89055ab17fb1f4a763326f1b4d3164"), looks := false }, kinds := [], alts := [], laidByText := true, laidKinds := [.data], laidTests := true, laidLooks := .later }
def TablePlaysCardSaid : Prop := Claim7.holds Tryz.pinned (.plain (OpenSpec.ofChange tablePlaysSpec)) tablePlaysCard

/-- THE TIED CARD OF 'cuboidlaw18.TableScans'. -/
def tableScansCard : Claim7 := { stood := { row := tableScansRow, standIns := [], harness := (true, "0cff82aa649bd0a2cad8b283d4da36271c89055ab17fb1f4a763326f1b4d3164"), looks := false }, kinds := [], alts := [], laidByText := true, laidKinds := [.data], laidTests := true, laidLooks := .later }
def TableScansCardSaid : Prop := Claim7.holds Tryz.pinned (.plain (OpenSpec.ofChange tableScansSpec)) tableScansCard

/-- THE TIED CARD OF 'cuboidlaw23.SweepEnds'. -/
def sweepEndsCard : Claim7 := { stood := { row := sweepEndsRow, standIns := [], harness := (true, "0cff82aa649bd0a2cad8b283d4da36271c89055ab17fb1f4a763326f1b4d3164"), looks := false }, kinds := [], alts := [], laidByText := true, laidKinds := [.data], laidTests := true, laidLooks := .later }
def SweepEndsCardSaid : Prop := Claim7.holds Tryz.pinned (.plain (OpenSpec.ofChange sweepEndsSpec)) sweepEndsCard

/-- THE TIED CARD OF 'cuboidlaw19.StoreRoom'. -/
def storeRoomCard : Claim7 := { stood := { row := storeRoomRow, standIns := [], harness := (true, "0cff82aa649bd0a2cad8b283d4da36271c89055ab17fb1f4a763326f1b4d3164"), looks := false }, kinds := [], alts := [], laidByText := true, laidKinds := [.data], laidTests := true, laidLooks := .later }
def StoreRoomCardSaid : Prop := Claim7.holds Tryz.pinned (.plain (OpenSpec.ofChange storeRoomSpec)) storeRoomCard

/-- THE TIED CARD OF 'cuboidlaw23.SweepPlays'. -/
def sweepPlaysCard : Claim7 := { stood := { row := sweepPlaysRow, standIns := [], harness := (true, "0cff82aa649bd0a2cad8b283d4da36271c89055ab17fb1f4a763326f1b4d3164"), looks := false }, kinds := [], alts := [], laidByText := true, laidKinds := [.data], laidTests := true, laidLooks := .later }
def SweepPlaysCardSaid : Prop := Claim7.holds Tryz.pinned (.plain (OpenSpec.ofChange sweepPlaysSpec)) sweepPlaysCard

/-- THE TIED CARD OF 'cuboidlaw23.SweepCleans'. -/
def sweepCleansCard : Claim7 := { stood := { row := sweepCleansRow, standIns := [], harness := (true, "0cff82aa649bd0a2cad8b283d4da36271c89055ab17fb1f4a763326f1b4d3164"), looks := false }, kinds := [], alts := [], laidByText := true, laidKinds := [.data], laidTests := true, laidLooks := .later }
def SweepCleansCardSaid : Prop := Claim7.holds Tryz.pinned (.plain (OpenSpec.ofChange sweepCleansSpec)) sweepCleansCard

/-- THE TIED CARD OF 'cuboidlaw23.SweepTwice'. -/
def sweepTwiceCard : Claim7 := { stood := { row := sweepTwiceRow, standIns := [], harness := (true, "0cff82aa649bd0a2cad8b283d4da36271c89055ab17fb1f4a763326f1b4d3164"), looks := false }, kinds := [], alts := [], laidByText := true, laidKinds := [.data], laidTests := true, laidLooks := .later }
def SweepTwiceCardSaid : Prop := Claim7.holds Tryz.pinned (.plain (OpenSpec.ofChange sweepTwiceSpec)) sweepTwiceCard

/-- THE TIED CARD OF 'cuboidlaw19.StoreTells'. -/
def storeTellsCard : Claim7 := { stood := { row := storeTellsRow, standIns := [], harness := (true, "0cff82aa649bd0a2cad8b283d4da36271c89055ab17fb1f4a763326f1b4d3164"), looks := false }, kinds := [], alts := [], laidByText := true, laidKinds := [.data], laidTests := true, laidLooks := .later }
def StoreTellsCardSaid : Prop := Claim7.holds Tryz.pinned (.plain (OpenSpec.ofChange storeTellsSpec)) storeTellsCard

/-- THE TIED CARD OF 'cuboidlaw19.StorePlays'. -/
def storePlaysCard : Claim7 := { stood := { row := storePlaysRow, standIns := [], harness := (true, "0cff82aa649bd0a2cad8b283d4da36271c89055ab17fb1f4a763326f1b4d3164"), looks := false }, kinds := [], alts := [], laidByText := true, laidKinds := [.data], laidTests := true, laidLooks := .later }
def StorePlaysCardSaid : Prop := Claim7.holds Tryz.pinned (.plain (OpenSpec.ofChange storePlaysSpec)) storePlaysCard

/-- THE TIED CARD OF 'cuboidlaw19.StoreApart'. -/
def storeApartCard : Claim7 := { stood := { row := storeApartRow, standIns := [], harness := (true, "0cff82aa649bd0a2cad8b283d4da36271c89055ab17fb1f4a763326f1b4d3164"), looks := false }, kinds := [], alts := [], laidByText := true, laidKinds := [.data], laidTests := true, laidLooks := .later }
def StoreApartCardSaid : Prop := Claim7.holds Tryz.pinned (.plain (OpenSpec.ofChange storeApartSpec)) storeApartCard

/-- THE TIED CARD OF 'cuboidlaw19.StoreTables'. -/
def storeTablesCard : Claim7 := { stood := { row := storeTablesRow, standIns := [], harness := (true, "0cff82aa649bd0a2cad8b283d4da36271c89055ab17fb1f4a763326f1b4d3164"), looks := false }, kinds := [], alts := [], laidByText := true, laidKinds := [.data], laidTests := true, laidLooks := .later }
def StoreTablesCardSaid : Prop := Claim7.holds Tryz.pinned (.plain (OpenSpec.ofChange storeTablesSpec)) storeTablesCard

/-- THE TIED CARD OF 'cuboidlaw23.SweepReads'. -/
def sweepReadsCard : Claim7 := { stood := { row := sweepReadsRow, standIns := [], harness := (true, "0cff82aa649bd0a2cad8b283d4da36271c89055ab17fb1f4a763326f1b4d3164"), looks := false }, kinds := [], alts := [], laidByText := true, laidKinds := [.data], laidTests := true, laidLooks := .later }
def SweepReadsCardSaid : Prop := Claim7.holds Tryz.pinned (.plain (OpenSpec.ofChange sweepReadsSpec)) sweepReadsCard

/-- THE SECOND FORM's CARD OF 'cuboidlaw18.TableReads'. -/
def tableReadsUptoCard : Claim7 := { stood := { row := tableReadsUptoRow, standIns := [], harness := (true, "0cff82aa649bd0a2cad8b283d4da36271c89055ab17fb1f4a763326f1b4d3164"), looks := false }, kinds := [], alts := [], laidByText := true, laidKinds := [.data], laidTests := true, laidLooks := .later }
def TableReadsUptoCardSaid : Prop := Claim7.holds Tryz.pinned (.plain (OpenSpec.upto tableReadsSpec)) tableReadsUptoCard

/-- THE SECOND FORM's CARD OF 'cuboidlaw18.TablePlays'. -/
def tablePlaysUptoCard : Claim7 := { stood := { row := tablePlaysUptoRow, standIns := [], harness := (true, "0cff82aa649bd0a2cad8b283d4da36271c89055ab17fb1f4a763326f1b4d3164"), looks := false }, kinds := [], alts := [], laidByText := true, laidKinds := [.data], laidTests := true, laidLooks := .later }
def TablePlaysUptoCardSaid : Prop := Claim7.holds Tryz.pinned (.plain (OpenSpec.upto tablePlaysSpec)) tablePlaysUptoCard

/-- THE SECOND FORM's CARD OF 'cuboidlaw18.TableScans'. -/
def tableScansUptoCard : Claim7 := { stood := { row := tableScansUptoRow, standIns := [], harness := (true, "0cff82aa649bd0a2cad8b283d4da36271c89055ab17fb1f4a763326f1b4d3164"), looks := false }, kinds := [], alts := [], laidByText := true, laidKinds := [.data], laidTests := true, laidLooks := .later }
def TableScansUptoCardSaid : Prop := Claim7.holds Tryz.pinned (.plain (OpenSpec.upto tableScansSpec)) tableScansUptoCard

/-- THE SECOND FORM's CARD OF 'cuboidlaw23.SweepEnds'. -/
def sweepEndsUptoCard : Claim7 := { stood := { row := sweepEndsUptoRow, standIns := [], harness := (true, "0cff82aa649bd0a2cad8b283d4da36271c89055ab17fb1f4a763326f1b4d3164"), looks := false }, kinds := [], alts := [], laidByText := true, laidKinds := [.data], laidTests := true, laidLooks := .later }
def SweepEndsUptoCardSaid : Prop := Claim7.holds Tryz.pinned (.plain (OpenSpec.upto sweepEndsSpec)) sweepEndsUptoCard

/-- THE SECOND FORM's CARD OF 'cuboidlaw19.StoreRoom'. -/
def storeRoomUptoCard : Claim7 := { stood := { row := storeRoomUptoRow, standIns := [], harness := (true, "0cff82aa649bd0a2cad8b283d4da36271c89055ab17fb1f4a763326f1b4d3164"), looks := false }, kinds := [], alts := [], laidByText := true, laidKinds := [.data], laidTests := true, laidLooks := .later }
def StoreRoomUptoCardSaid : Prop := Claim7.holds Tryz.pinned (.plain (OpenSpec.upto storeRoomSpec)) storeRoomUptoCard

/-- THE SECOND FORM's CARD OF 'cuboidlaw23.SweepPlays'. -/
def sweepPlaysUptoCard : Claim7 := { stood := { row := sweepPlaysUptoRow, standIns := [], harness := (true, "0cff82aa649bd0a2cad8b283d4da36271c89055ab17fb1f4a763326f1b4d3164"), looks := false }, kinds := [], alts := [], laidByText := true, laidKinds := [.data], laidTests := true, laidLooks := .later }
def SweepPlaysUptoCardSaid : Prop := Claim7.holds Tryz.pinned (.plain (OpenSpec.upto sweepPlaysSpec)) sweepPlaysUptoCard

/-- THE SECOND FORM's CARD OF 'cuboidlaw23.SweepCleans'. -/
def sweepCleansUptoCard : Claim7 := { stood := { row := sweepCleansUptoRow, standIns := [], harness := (true, "0cff82aa649bd0a2cad8b283d4da36271c89055ab17fb1f4a763326f1b4d3164"), looks := false }, kinds := [], alts := [], laidByText := true, laidKinds := [.data], laidTests := true, laidLooks := .later }
def SweepCleansUptoCardSaid : Prop := Claim7.holds Tryz.pinned (.plain (OpenSpec.upto sweepCleansSpec)) sweepCleansUptoCard

/-- THE SECOND FORM's CARD OF 'cuboidlaw23.SweepTwice'. -/
def sweepTwiceUptoCard : Claim7 := { stood := { row := sweepTwiceUptoRow, standIns := [], harness := (true, "0cff82aa649bd0a2cad8b283d4da36271c89055ab17fb1f4a763326f1b4d3164"), looks := false }, kinds := [], alts := [], laidByText := true, laidKinds := [.data], laidTests := true, laidLooks := .later }
def SweepTwiceUptoCardSaid : Prop := Claim7.holds Tryz.pinned (.plain (OpenSpec.upto sweepTwiceSpec)) sweepTwiceUptoCard

/-- THE SECOND FORM's CARD OF 'cuboidlaw19.StoreTells'. -/
def storeTellsUptoCard : Claim7 := { stood := { row := storeTellsUptoRow, standIns := [], harness := (true, "0cff82aa649bd0a2cad8b283d4da36271c89055ab17fb1f4a763326f1b4d3164"), looks := false }, kinds := [], alts := [], laidByText := true, laidKinds := [.data], laidTests := true, laidLooks := .later }
def StoreTellsUptoCardSaid : Prop := Claim7.holds Tryz.pinned (.plain (OpenSpec.upto storeTellsSpec)) storeTellsUptoCard

/-- THE SECOND FORM's CARD OF 'cuboidlaw19.StorePlays'. -/
def storePlaysUptoCard : Claim7 := { stood := { row := storePlaysUptoRow, standIns := [], harness := (true, "0cff82aa649bd0a2cad8b283d4da36271c89055ab17fb1f4a763326f1b4d3164"), looks := false }, kinds := [], alts := [], laidByText := true, laidKinds := [.data], laidTests := true, laidLooks := .later }
def StorePlaysUptoCardSaid : Prop := Claim7.holds Tryz.pinned (.plain (OpenSpec.upto storePlaysSpec)) storePlaysUptoCard

/-- THE SECOND FORM's CARD OF 'cuboidlaw19.StoreApart'. -/
def storeApartUptoCard : Claim7 := { stood := { row := storeApartUptoRow, standIns := [], harness := (true, "0cff82aa649bd0a2cad8b283d4da36271c89055ab17fb1f4a763326f1b4d3164"), looks := false }, kinds := [], alts := [], laidByText := true, laidKinds := [.data], laidTests := true, laidLooks := .later }
def StoreApartUptoCardSaid : Prop := Claim7.holds Tryz.pinned (.plain (OpenSpec.upto storeApartSpec)) storeApartUptoCard

/-- THE SECOND FORM's CARD OF 'cuboidlaw19.StoreTables'. -/
def storeTablesUptoCard : Claim7 := { stood := { row := storeTablesUptoRow, standIns := [], harness := (true, "0cff82aa649bd0a2cad8b283d4da36271c89055ab17fb1f4a763326f1b4d3164"), looks := false }, kinds := [], alts := [], laidByText := true, laidKinds := [.data], laidTests := true, laidLooks := .later }
def StoreTablesUptoCardSaid : Prop := Claim7.holds Tryz.pinned (.plain (OpenSpec.upto storeTablesSpec)) storeTablesUptoCard

/-- THE SECOND FORM's CARD OF 'cuboidlaw23.SweepReads'. -/
def sweepReadsUptoCard : Claim7 := { stood := { row := sweepReadsUptoRow, standIns := [], harness := (true, "0cff82aa649bd0a2cad8b283d4da36271c89055ab17fb1f4a763326f1b4d3164"), looks := false }, kinds := [], alts := [], laidByText := true, laidKinds := [.data], laidTests := true, laidLooks := .later }
def SweepReadsUptoCardSaid : Prop := Claim7.holds Tryz.pinned (.plain (OpenSpec.upto sweepReadsSpec)) sweepReadsUptoCard
end Rows
end Go.Proofs.YtbppemcdphgknaaGreatDoor
