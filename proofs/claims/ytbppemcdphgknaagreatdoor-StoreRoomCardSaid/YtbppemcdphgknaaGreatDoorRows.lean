/-
  NARROWER THAN 'FOR EVERY INPUT', by the rows' own cells (each row's printed sentence says how): TableReads: laid · TablePlays: laid · TableScans: laid · SweepEnds: laid · StoreRoom: laid · SweepPlays: laid · SweepCleans: laid · SweepTwice: laid · StoreTells: laid · StorePlays: laid · StoreApart: laid · StoreTables: laid · SweepReads: laid.
  DERIVED. THE GIVEN ROWS OF THIS SEAT. 13 by the template 'for every input the law returns true; each argument reads behind the call as it read before'; 0 by the template 'total and deterministic' (their statements: YtbppemcdphgknaaGreatDoorTotals.lean).
  GIVEN WITH THE SEED: the statements are not yours to turn. If you find one false, say at which input.
  Laid BY PROGRAM, IN A SANDBOX (cutbox-rows.mjs): the forced cells as the released guide's own fill.sh prints them over the translation 620264405d68e27d… (all of the seat's roots in one cut). By AI agents, Wed Nov 11 2026. No macro, syntax, notation, axiom, sorry.
-/
import Derived.Test.YtbppemcdphgknaaGreatDoorChecked
import GoSem.Claim
import GoSem.ClaimJoined
import GoSem.ClaimMapViews
import Derived.JoinedTies
import Derived.KernelRfl
namespace Go.Proofs.YtbppemcdphgknaaGreatDoor
/- THE CELL 'sum', in the pinned program and in every row, IS THE sha256 OF THE DUMP (.gsa) THAT YtbppemcdphgknaaGreatDoorProg.lean LOADS. Nothing in Lean hashes anything: it is a label: what it is worth is what the hold of that sum in a sandbox is worth. -/
noncomputable def Tryz.pinned : Pinned := { name := "ytbppemcdphgknaagreatdoor", sum := "620264405d68e27dfc55dde1de98c5a826854ad81b452d379c42fcb354e8539f", checked := Tryz.checked }
namespace Rows
def none {H : Type} : Left H := { results := [], args := [] }

/- WHAT THE LISTED PACKAGE-LEVEL VARIABLES READ AS WHEN THE CALL BEGINS. Each datum BY PROGRAM (the guide's laid-datum.mjs) off the statement by which the dump's own 'gosem.cut.vars' lays the variable. In a bare row this is a premise. The card (YtbppemcdphgknaaGreatDoorCards.lean) ties it to the program's text. -/
def laid_cuboid_tag_rows {H : Type} : DataW H := .agg [.agg [.lit (.int .i64 0), .lit (.bool false), .lit (.bool false)], .agg [.lit (.int .i64 1), .lit (.bool false), .lit (.bool true)], .agg [.lit (.int .i64 2), .lit (.bool true), .lit (.bool true)], .agg [.lit (.int .i64 3), .lit (.bool true), .lit (.bool false)]]

/-- 'cuboidlaw18.TableReads': WHATEVER THE INPUT: true; the input reads as it did. -/
def tableReadsSpec : ChangeSpec := { name := "tableReads", fn := fun _ => fun
  | [d1, d2, d3] => { results := [.lit (.bool true)], args := [d1, d2, d3] }
  | _ => none }
def tableReadsRow : OpenClaim := { program := "ytbppemcdphgknaagreatdoor", sum := "620264405d68e27dfc55dde1de98c5a826854ad81b452d379c42fcb354e8539f", func := "cuboid/cuboidlaw18.TableReads", spec := "tableReads", inPlace := ["math/bits.Sub64", "math/bits.Add64"], recurses := true, named := ["cuboid/tag.rows"], apart := false, laid := [("cuboid/tag.rows", laid_cuboid_tag_rows)] }
def TableReadsSaid : Prop := tableReadsRow.holds Tryz.pinned (OpenSpec.ofChange tableReadsSpec)

/-- ITS FALSE NEIGHBOUR: 'it returns false'. Refute it at one input. -/
def tableReadsWrong : ChangeSpec := { name := "tableReads", fn := fun _ => fun
  | [d1, d2, d3] => { results := [.lit (.bool false)], args := [d1, d2, d3] }
  | _ => none }
def TableReadsWrongFalsely : Prop := tableReadsRow.holds Tryz.pinned (OpenSpec.ofChange tableReadsWrong)

/-- 'cuboidlaw18.TablePlays': WHATEVER THE INPUT: true; the input reads as it did. -/
def tablePlaysSpec : ChangeSpec := { name := "tablePlays", fn := fun _ => fun
  | [d1, d2, d3] => { results := [.lit (.bool true)], args := [d1, d2, d3] }
  | _ => none }
def tablePlaysRow : OpenClaim := { program := "ytbppemcdphgknaagreatdoor", sum := "620264405d68e27dfc55dde1de98c5a826854ad81b452d379c42fcb354e8539f", func := "cuboid/cuboidlaw18.TablePlays", spec := "tablePlays", inPlace := ["math/bits.Sub64", "math/bits.Add64"], recurses := true, named := ["cuboid/tag.rows"], apart := false, laid := [("cuboid/tag.rows", laid_cuboid_tag_rows)] }
def TablePlaysSaid : Prop := tablePlaysRow.holds Tryz.pinned (OpenSpec.ofChange tablePlaysSpec)

/-- ITS FALSE NEIGHBOUR: 'it returns false'. Refute it at one input. -/
def tablePlaysWrong : ChangeSpec := { name := "tablePlays", fn := fun _ => fun
  | [d1, d2, d3] => { results := [.lit (.bool false)], args := [d1, d2, d3] }
  | _ => none }
def TablePlaysWrongFalsely : Prop := tablePlaysRow.holds Tryz.pinned (OpenSpec.ofChange tablePlaysWrong)

/-- 'cuboidlaw18.TableScans': WHATEVER THE INPUT: true; the input reads as it did. -/
def tableScansSpec : ChangeSpec := { name := "tableScans", fn := fun _ => fun
  | [d1, d2, d3] => { results := [.lit (.bool true)], args := [d1, d2, d3] }
  | _ => none }
def tableScansRow : OpenClaim := { program := "ytbppemcdphgknaagreatdoor", sum := "620264405d68e27dfc55dde1de98c5a826854ad81b452d379c42fcb354e8539f", func := "cuboid/cuboidlaw18.TableScans", spec := "tableScans", inPlace := ["math/bits.Sub64", "math/bits.Add64"], recurses := true, named := ["cuboid/tag.rows"], apart := false, laid := [("cuboid/tag.rows", laid_cuboid_tag_rows)] }
def TableScansSaid : Prop := tableScansRow.holds Tryz.pinned (OpenSpec.ofChange tableScansSpec)

/-- ITS FALSE NEIGHBOUR: 'it returns false'. Refute it at one input. -/
def tableScansWrong : ChangeSpec := { name := "tableScans", fn := fun _ => fun
  | [d1, d2, d3] => { results := [.lit (.bool false)], args := [d1, d2, d3] }
  | _ => none }
def TableScansWrongFalsely : Prop := tableScansRow.holds Tryz.pinned (OpenSpec.ofChange tableScansWrong)

/-- 'cuboidlaw23.SweepEnds': WHATEVER THE INPUT: true; the input reads as it did. -/
def sweepEndsSpec : ChangeSpec := { name := "sweepEnds", fn := fun _ => fun
  | [d1, d2, d3] => { results := [.lit (.bool true)], args := [d1, d2, d3] }
  | _ => none }
def sweepEndsRow : OpenClaim := { program := "ytbppemcdphgknaagreatdoor", sum := "620264405d68e27dfc55dde1de98c5a826854ad81b452d379c42fcb354e8539f", func := "cuboid/cuboidlaw23.SweepEnds", spec := "sweepEnds", inPlace := ["math/bits.Sub64", "math/bits.Add64"], recurses := true, named := ["cuboid/tag.rows"], apart := false, laid := [("cuboid/tag.rows", laid_cuboid_tag_rows)] }
def SweepEndsSaid : Prop := sweepEndsRow.holds Tryz.pinned (OpenSpec.ofChange sweepEndsSpec)

/-- ITS FALSE NEIGHBOUR: 'it returns false'. Refute it at one input. -/
def sweepEndsWrong : ChangeSpec := { name := "sweepEnds", fn := fun _ => fun
  | [d1, d2, d3] => { results := [.lit (.bool false)], args := [d1, d2, d3] }
  | _ => none }
def SweepEndsWrongFalsely : Prop := sweepEndsRow.holds Tryz.pinned (OpenSpec.ofChange sweepEndsWrong)

/-- 'cuboidlaw19.StoreRoom': WHATEVER THE INPUT: true; the input reads as it did. -/
def storeRoomSpec : ChangeSpec := { name := "storeRoom", fn := fun _ => fun
  | [d1, d2, d3] => { results := [.lit (.bool true)], args := [d1, d2, d3] }
  | _ => none }
def storeRoomRow : OpenClaim := { program := "ytbppemcdphgknaagreatdoor", sum := "620264405d68e27dfc55dde1de98c5a826854ad81b452d379c42fcb354e8539f", func := "cuboid/cuboidlaw19.StoreRoom", spec := "storeRoom", inPlace := ["math/bits.Sub64", "math/bits.Add64"], recurses := true, named := ["cuboid/tag.rows"], apart := false, laid := [("cuboid/tag.rows", laid_cuboid_tag_rows)] }
def StoreRoomSaid : Prop := storeRoomRow.holds Tryz.pinned (OpenSpec.ofChange storeRoomSpec)

/-- ITS FALSE NEIGHBOUR: 'it returns false'. Refute it at one input. -/
def storeRoomWrong : ChangeSpec := { name := "storeRoom", fn := fun _ => fun
  | [d1, d2, d3] => { results := [.lit (.bool false)], args := [d1, d2, d3] }
  | _ => none }
def StoreRoomWrongFalsely : Prop := storeRoomRow.holds Tryz.pinned (OpenSpec.ofChange storeRoomWrong)

/-- 'cuboidlaw23.SweepPlays': WHATEVER THE INPUT: true; the input reads as it did. -/
def sweepPlaysSpec : ChangeSpec := { name := "sweepPlays", fn := fun _ => fun
  | [d1, d2, d3] => { results := [.lit (.bool true)], args := [d1, d2, d3] }
  | _ => none }
def sweepPlaysRow : OpenClaim := { program := "ytbppemcdphgknaagreatdoor", sum := "620264405d68e27dfc55dde1de98c5a826854ad81b452d379c42fcb354e8539f", func := "cuboid/cuboidlaw23.SweepPlays", spec := "sweepPlays", inPlace := ["math/bits.Sub64", "math/bits.Add64"], recurses := true, named := ["cuboid/tag.rows"], apart := false, laid := [("cuboid/tag.rows", laid_cuboid_tag_rows)] }
def SweepPlaysSaid : Prop := sweepPlaysRow.holds Tryz.pinned (OpenSpec.ofChange sweepPlaysSpec)

/-- ITS FALSE NEIGHBOUR: 'it returns false'. Refute it at one input. -/
def sweepPlaysWrong : ChangeSpec := { name := "sweepPlays", fn := fun _ => fun
  | [d1, d2, d3] => { results := [.lit (.bool false)], args := [d1, d2, d3] }
  | _ => none }
def SweepPlaysWrongFalsely : Prop := sweepPlaysRow.holds Tryz.pinned (OpenSpec.ofChange sweepPlaysWrong)

/-- 'cuboidlaw23.SweepCleans': WHATEVER THE INPUT: true; the input reads as it did. -/
def sweepCleansSpec : ChangeSpec := { name := "sweepCleans", fn := fun _ => fun
  | [d1, d2, d3] => { results := [.lit (.bool true)], args := [d1, d2, d3] }
  | _ => none }
def sweepCleansRow : OpenClaim := { program := "ytbppemcdphgknaagreatdoor", sum := "620264405d68e27dfc55dde1de98c5a826854ad81b452d379c42fcb354e8539f", func := "cuboid/cuboidlaw23.SweepCleans", spec := "sweepCleans", inPlace := ["math/bits.Sub64", "math/bits.Add64"], recurses := true, named := ["cuboid/tag.rows"], apart := false, laid := [("cuboid/tag.rows", laid_cuboid_tag_rows)] }
def SweepCleansSaid : Prop := sweepCleansRow.holds Tryz.pinned (OpenSpec.ofChange sweepCleansSpec)

/-- ITS FALSE NEIGHBOUR: 'it returns false'. Refute it at one input. -/
def sweepCleansWrong : ChangeSpec := { name := "sweepCleans", fn := fun _ => fun
  | [d1, d2, d3] => { results := [.lit (.bool false)], args := [d1, d2, d3] }
  | _ => none }
def SweepCleansWrongFalsely : Prop := sweepCleansRow.holds Tryz.pinned (OpenSpec.ofChange sweepCleansWrong)

/-- 'cuboidlaw23.SweepTwice': WHATEVER THE INPUT: true; the input reads as it did. -/
def sweepTwiceSpec : ChangeSpec := { name := "sweepTwice", fn := fun _ => fun
  | [d1, d2, d3] => { results := [.lit (.bool true)], args := [d1, d2, d3] }
  | _ => none }
def sweepTwiceRow : OpenClaim := { program := "ytbppemcdphgknaagreatdoor", sum := "620264405d68e27dfc55dde1de98c5a826854ad81b452d379c42fcb354e8539f", func := "cuboid/cuboidlaw23.SweepTwice", spec := "sweepTwice", inPlace := ["math/bits.Sub64", "math/bits.Add64"], recurses := true, named := ["cuboid/tag.rows"], apart := false, laid := [("cuboid/tag.rows", laid_cuboid_tag_rows)] }
def SweepTwiceSaid : Prop := sweepTwiceRow.holds Tryz.pinned (OpenSpec.ofChange sweepTwiceSpec)

/-- ITS FALSE NEIGHBOUR: 'it returns false'. Refute it at one input. -/
def sweepTwiceWrong : ChangeSpec := { name := "sweepTwice", fn := fun _ => fun
  | [d1, d2, d3] => { results := [.lit (.bool false)], args := [d1, d2, d3] }
  | _ => none }
def SweepTwiceWrongFalsely : Prop := sweepTwiceRow.holds Tryz.pinned (OpenSpec.ofChange sweepTwiceWrong)

/-- 'cuboidlaw19.StoreTells': WHATEVER THE INPUT: true; the input reads as it did. -/
def storeTellsSpec : ChangeSpec := { name := "storeTells", fn := fun _ => fun
  | [d] => { results := [.lit (.bool true)], args := [d] }
  | _ => none }
def storeTellsRow : OpenClaim := { program := "ytbppemcdphgknaagreatdoor", sum := "620264405d68e27dfc55dde1de98c5a826854ad81b452d379c42fcb354e8539f", func := "cuboid/cuboidlaw19.StoreTells", spec := "storeTells", inPlace := ["math/bits.Sub64", "math/bits.Add64"], recurses := true, named := ["cuboid/tag.rows"], apart := false, laid := [("cuboid/tag.rows", laid_cuboid_tag_rows)] }
def StoreTellsSaid : Prop := storeTellsRow.holds Tryz.pinned (OpenSpec.ofChange storeTellsSpec)

/-- ITS FALSE NEIGHBOUR: 'it returns false'. Refute it at one input. -/
def storeTellsWrong : ChangeSpec := { name := "storeTells", fn := fun _ => fun
  | [d] => { results := [.lit (.bool false)], args := [d] }
  | _ => none }
def StoreTellsWrongFalsely : Prop := storeTellsRow.holds Tryz.pinned (OpenSpec.ofChange storeTellsWrong)

/-- 'cuboidlaw19.StorePlays': WHATEVER THE INPUT: true; the input reads as it did. -/
def storePlaysSpec : ChangeSpec := { name := "storePlays", fn := fun _ => fun
  | [d1, d2, d3] => { results := [.lit (.bool true)], args := [d1, d2, d3] }
  | _ => none }
def storePlaysRow : OpenClaim := { program := "ytbppemcdphgknaagreatdoor", sum := "620264405d68e27dfc55dde1de98c5a826854ad81b452d379c42fcb354e8539f", func := "cuboid/cuboidlaw19.StorePlays", spec := "storePlays", inPlace := ["math/bits.Sub64", "math/bits.Add64"], recurses := true, named := ["cuboid/tag.rows"], apart := false, laid := [("cuboid/tag.rows", laid_cuboid_tag_rows)] }
def StorePlaysSaid : Prop := storePlaysRow.holds Tryz.pinned (OpenSpec.ofChange storePlaysSpec)

/-- ITS FALSE NEIGHBOUR: 'it returns false'. Refute it at one input. -/
def storePlaysWrong : ChangeSpec := { name := "storePlays", fn := fun _ => fun
  | [d1, d2, d3] => { results := [.lit (.bool false)], args := [d1, d2, d3] }
  | _ => none }
def StorePlaysWrongFalsely : Prop := storePlaysRow.holds Tryz.pinned (OpenSpec.ofChange storePlaysWrong)

/-- 'cuboidlaw19.StoreApart': WHATEVER THE INPUT: true; the input reads as it did. -/
def storeApartSpec : ChangeSpec := { name := "storeApart", fn := fun _ => fun
  | [d1, d2, d3] => { results := [.lit (.bool true)], args := [d1, d2, d3] }
  | _ => none }
def storeApartRow : OpenClaim := { program := "ytbppemcdphgknaagreatdoor", sum := "620264405d68e27dfc55dde1de98c5a826854ad81b452d379c42fcb354e8539f", func := "cuboid/cuboidlaw19.StoreApart", spec := "storeApart", inPlace := ["math/bits.Sub64", "math/bits.Add64"], recurses := true, named := ["cuboid/tag.rows"], apart := false, laid := [("cuboid/tag.rows", laid_cuboid_tag_rows)] }
def StoreApartSaid : Prop := storeApartRow.holds Tryz.pinned (OpenSpec.ofChange storeApartSpec)

/-- ITS FALSE NEIGHBOUR: 'it returns false'. Refute it at one input. -/
def storeApartWrong : ChangeSpec := { name := "storeApart", fn := fun _ => fun
  | [d1, d2, d3] => { results := [.lit (.bool false)], args := [d1, d2, d3] }
  | _ => none }
def StoreApartWrongFalsely : Prop := storeApartRow.holds Tryz.pinned (OpenSpec.ofChange storeApartWrong)

/-- 'cuboidlaw19.StoreTables': WHATEVER THE INPUT: true; the input reads as it did. -/
def storeTablesSpec : ChangeSpec := { name := "storeTables", fn := fun _ => fun
  | [d1, d2, d3] => { results := [.lit (.bool true)], args := [d1, d2, d3] }
  | _ => none }
def storeTablesRow : OpenClaim := { program := "ytbppemcdphgknaagreatdoor", sum := "620264405d68e27dfc55dde1de98c5a826854ad81b452d379c42fcb354e8539f", func := "cuboid/cuboidlaw19.StoreTables", spec := "storeTables", inPlace := ["math/bits.Sub64", "math/bits.Add64"], recurses := true, named := ["cuboid/tag.rows"], apart := false, laid := [("cuboid/tag.rows", laid_cuboid_tag_rows)] }
def StoreTablesSaid : Prop := storeTablesRow.holds Tryz.pinned (OpenSpec.ofChange storeTablesSpec)

/-- ITS FALSE NEIGHBOUR: 'it returns false'. Refute it at one input. -/
def storeTablesWrong : ChangeSpec := { name := "storeTables", fn := fun _ => fun
  | [d1, d2, d3] => { results := [.lit (.bool false)], args := [d1, d2, d3] }
  | _ => none }
def StoreTablesWrongFalsely : Prop := storeTablesRow.holds Tryz.pinned (OpenSpec.ofChange storeTablesWrong)

/-- 'cuboidlaw23.SweepReads': WHATEVER THE INPUT: true; the input reads as it did. -/
def sweepReadsSpec : ChangeSpec := { name := "sweepReads", fn := fun _ => fun
  | [d1, d2, d3] => { results := [.lit (.bool true)], args := [d1, d2, d3] }
  | _ => none }
def sweepReadsRow : OpenClaim := { program := "ytbppemcdphgknaagreatdoor", sum := "620264405d68e27dfc55dde1de98c5a826854ad81b452d379c42fcb354e8539f", func := "cuboid/cuboidlaw23.SweepReads", spec := "sweepReads", inPlace := ["math/bits.Sub64", "math/bits.Add64"], recurses := true, named := ["cuboid/tag.rows"], apart := false, laid := [("cuboid/tag.rows", laid_cuboid_tag_rows)] }
def SweepReadsSaid : Prop := sweepReadsRow.holds Tryz.pinned (OpenSpec.ofChange sweepReadsSpec)

/-- ITS FALSE NEIGHBOUR: 'it returns false'. Refute it at one input. -/
def sweepReadsWrong : ChangeSpec := { name := "sweepReads", fn := fun _ => fun
  | [d1, d2, d3] => { results := [.lit (.bool false)], args := [d1, d2, d3] }
  | _ => none }
def SweepReadsWrongFalsely : Prop := sweepReadsRow.holds Tryz.pinned (OpenSpec.ofChange sweepReadsWrong)

/- THE SECOND FORM. 'bulk': how many values and letters a reading holds, each counted each time it is reached (what is shared counts as often as it is met; a slice's spare places count too). A statement '..UptoSaid' is the law's where the arguments, and the package variables that the reading takes, are together of bulk at most 1048576: NARROWER than '..Said'. Prove '..Said' where nothing that the law and all that it calls make is longer than what came in: it says more and counts as full. Else prove '..UptoSaid'. A law counts once. -/
mutual
def uptoBulk {H : Type} : DataW H → Nat
  | .lit (.string bytes) => bytes.length + 1
  | .lit _ => 1
  | .nil => 1
  | .ptr d => uptoBulk d + 1
  | .slice elems spare => uptoBulkAll elems + uptoBulkAll spare + 1
  | .agg parts => uptoBulkAll parts + 1
  | .iface _ d => uptoBulk d + 1
  | .map entries => uptoBulkEntries entries + 1
  | .held _ => 1
def uptoBulkAll {H : Type} : List (DataW H) → Nat
  | [] => 0
  | d :: r => uptoBulk d + uptoBulkAll r
def uptoBulkEntries {H : Type} : List (Lit × DataW H) → Nat
  | [] => 0
  | x :: r => uptoBulkEntry x + uptoBulkEntries r
def uptoBulkEntry {H : Type} : Lit × DataW H → Nat
  | (.string bytes, d) => bytes.length + uptoBulk d + 1
  | (_, d) => uptoBulk d + 1
 end
def uptoSmall : (H : Type) → List (DataW H) → Bool := fun _ ds => decide (uptoBulkAll ds ≤ 1048576)
def OpenSpec.upto (s : _root_.Go.ChangeSpec) : _root_.Go.OpenSpec := { _root_.Go.OpenSpec.ofChange s with cond := some uptoSmall }

/-- 'cuboidlaw18.TableReads', WHERE WHAT IT READS IS OF BULK AT MOST 1048576: true; the input reads as it did. -/
def tableReadsUptoRow : OpenClaim := { program := "ytbppemcdphgknaagreatdoor", sum := "620264405d68e27dfc55dde1de98c5a826854ad81b452d379c42fcb354e8539f", func := "cuboid/cuboidlaw18.TableReads", spec := "tableReads", inPlace := ["math/bits.Sub64", "math/bits.Add64"], recurses := true, named := ["cuboid/tag.rows"], apart := false, laid := [("cuboid/tag.rows", laid_cuboid_tag_rows)], narrowed := true }
def TableReadsUptoSaid : Prop := tableReadsUptoRow.holds Tryz.pinned (OpenSpec.upto tableReadsSpec)

/-- 'cuboidlaw18.TablePlays', WHERE WHAT IT READS IS OF BULK AT MOST 1048576: true; the input reads as it did. -/
def tablePlaysUptoRow : OpenClaim := { program := "ytbppemcdphgknaagreatdoor", sum := "620264405d68e27dfc55dde1de98c5a826854ad81b452d379c42fcb354e8539f", func := "cuboid/cuboidlaw18.TablePlays", spec := "tablePlays", inPlace := ["math/bits.Sub64", "math/bits.Add64"], recurses := true, named := ["cuboid/tag.rows"], apart := false, laid := [("cuboid/tag.rows", laid_cuboid_tag_rows)], narrowed := true }
def TablePlaysUptoSaid : Prop := tablePlaysUptoRow.holds Tryz.pinned (OpenSpec.upto tablePlaysSpec)

/-- 'cuboidlaw18.TableScans', WHERE WHAT IT READS IS OF BULK AT MOST 1048576: true; the input reads as it did. -/
def tableScansUptoRow : OpenClaim := { program := "ytbppemcdphgknaagreatdoor", sum := "620264405d68e27dfc55dde1de98c5a826854ad81b452d379c42fcb354e8539f", func := "cuboid/cuboidlaw18.TableScans", spec := "tableScans", inPlace := ["math/bits.Sub64", "math/bits.Add64"], recurses := true, named := ["cuboid/tag.rows"], apart := false, laid := [("cuboid/tag.rows", laid_cuboid_tag_rows)], narrowed := true }
def TableScansUptoSaid : Prop := tableScansUptoRow.holds Tryz.pinned (OpenSpec.upto tableScansSpec)

/-- 'cuboidlaw23.SweepEnds', WHERE WHAT IT READS IS OF BULK AT MOST 1048576: true; the input reads as it did. -/
def sweepEndsUptoRow : OpenClaim := { program := "ytbppemcdphgknaagreatdoor", sum := "620264405d68e27dfc55dde1de98c5a826854ad81b452d379c42fcb354e8539f", func := "cuboid/cuboidlaw23.SweepEnds", spec := "sweepEnds", inPlace := ["math/bits.Sub64", "math/bits.Add64"], recurses := true, named := ["cuboid/tag.rows"], apart := false, laid := [("cuboid/tag.rows", laid_cuboid_tag_rows)], narrowed := true }
def SweepEndsUptoSaid : Prop := sweepEndsUptoRow.holds Tryz.pinned (OpenSpec.upto sweepEndsSpec)

/-- 'cuboidlaw19.StoreRoom', WHERE WHAT IT READS IS OF BULK AT MOST 1048576: true; the input reads as it did. -/
def storeRoomUptoRow : OpenClaim := { program := "ytbppemcdphgknaagreatdoor", sum := "620264405d68e27dfc55dde1de98c5a826854ad81b452d379c42fcb354e8539f", func := "cuboid/cuboidlaw19.StoreRoom", spec := "storeRoom", inPlace := ["math/bits.Sub64", "math/bits.Add64"], recurses := true, named := ["cuboid/tag.rows"], apart := false, laid := [("cuboid/tag.rows", laid_cuboid_tag_rows)], narrowed := true }
def StoreRoomUptoSaid : Prop := storeRoomUptoRow.holds Tryz.pinned (OpenSpec.upto storeRoomSpec)

/-- 'cuboidlaw23.SweepPlays', WHERE WHAT IT READS IS OF BULK AT MOST 1048576: true; the input reads as it did. -/
def sweepPlaysUptoRow : OpenClaim := { program := "ytbppemcdphgknaagreatdoor", sum := "620264405d68e27dfc55dde1de98c5a826854ad81b452d379c42fcb354e8539f", func := "cuboid/cuboidlaw23.SweepPlays", spec := "sweepPlays", inPlace := ["math/bits.Sub64", "math/bits.Add64"], recurses := true, named := ["cuboid/tag.rows"], apart := false, laid := [("cuboid/tag.rows", laid_cuboid_tag_rows)], narrowed := true }
def SweepPlaysUptoSaid : Prop := sweepPlaysUptoRow.holds Tryz.pinned (OpenSpec.upto sweepPlaysSpec)

/-- 'cuboidlaw23.SweepCleans', WHERE WHAT IT READS IS OF BULK AT MOST 1048576: true; the input reads as it did. -/
def sweepCleansUptoRow : OpenClaim := { program := "ytbppemcdphgknaagreatdoor", sum := "620264405d68e27dfc55dde1de98c5a826854ad81b452d379c42fcb354e8539f", func := "cuboid/cuboidlaw23.SweepCleans", spec := "sweepCleans", inPlace := ["math/bits.Sub64", "math/bits.Add64"], recurses := true, named := ["cuboid/tag.rows"], apart := false, laid := [("cuboid/tag.rows", laid_cuboid_tag_rows)], narrowed := true }
def SweepCleansUptoSaid : Prop := sweepCleansUptoRow.holds Tryz.pinned (OpenSpec.upto sweepCleansSpec)

/-- 'cuboidlaw23.SweepTwice', WHERE WHAT IT READS IS OF BULK AT MOST 1048576: true; the input reads as it did. -/
def sweepTwiceUptoRow : OpenClaim := { program := "ytbppemcdphgknaagreatdoor", sum := "620264405d68e27dfc55dde1de98c5a826854ad81b452d379c42fcb354e8539f", func := "cuboid/cuboidlaw23.SweepTwice", spec := "sweepTwice", inPlace := ["math/bits.Sub64", "math/bits.Add64"], recurses := true, named := ["cuboid/tag.rows"], apart := false, laid := [("cuboid/tag.rows", laid_cuboid_tag_rows)], narrowed := true }
def SweepTwiceUptoSaid : Prop := sweepTwiceUptoRow.holds Tryz.pinned (OpenSpec.upto sweepTwiceSpec)

/-- 'cuboidlaw19.StoreTells', WHERE WHAT IT READS IS OF BULK AT MOST 1048576: true; the input reads as it did. -/
def storeTellsUptoRow : OpenClaim := { program := "ytbppemcdphgknaagreatdoor", sum := "620264405d68e27dfc55dde1de98c5a826854ad81b452d379c42fcb354e8539f", func := "cuboid/cuboidlaw19.StoreTells", spec := "storeTells", inPlace := ["math/bits.Sub64", "math/bits.Add64"], recurses := true, named := ["cuboid/tag.rows"], apart := false, laid := [("cuboid/tag.rows", laid_cuboid_tag_rows)], narrowed := true }
def StoreTellsUptoSaid : Prop := storeTellsUptoRow.holds Tryz.pinned (OpenSpec.upto storeTellsSpec)

/-- 'cuboidlaw19.StorePlays', WHERE WHAT IT READS IS OF BULK AT MOST 1048576: true; the input reads as it did. -/
def storePlaysUptoRow : OpenClaim := { program := "ytbppemcdphgknaagreatdoor", sum := "620264405d68e27dfc55dde1de98c5a826854ad81b452d379c42fcb354e8539f", func := "cuboid/cuboidlaw19.StorePlays", spec := "storePlays", inPlace := ["math/bits.Sub64", "math/bits.Add64"], recurses := true, named := ["cuboid/tag.rows"], apart := false, laid := [("cuboid/tag.rows", laid_cuboid_tag_rows)], narrowed := true }
def StorePlaysUptoSaid : Prop := storePlaysUptoRow.holds Tryz.pinned (OpenSpec.upto storePlaysSpec)

/-- 'cuboidlaw19.StoreApart', WHERE WHAT IT READS IS OF BULK AT MOST 1048576: true; the input reads as it did. -/
def storeApartUptoRow : OpenClaim := { program := "ytbppemcdphgknaagreatdoor", sum := "620264405d68e27dfc55dde1de98c5a826854ad81b452d379c42fcb354e8539f", func := "cuboid/cuboidlaw19.StoreApart", spec := "storeApart", inPlace := ["math/bits.Sub64", "math/bits.Add64"], recurses := true, named := ["cuboid/tag.rows"], apart := false, laid := [("cuboid/tag.rows", laid_cuboid_tag_rows)], narrowed := true }
def StoreApartUptoSaid : Prop := storeApartUptoRow.holds Tryz.pinned (OpenSpec.upto storeApartSpec)

/-- 'cuboidlaw19.StoreTables', WHERE WHAT IT READS IS OF BULK AT MOST 1048576: true; the input reads as it did. -/
def storeTablesUptoRow : OpenClaim := { program := "ytbppemcdphgknaagreatdoor", sum := "620264405d68e27dfc55dde1de98c5a826854ad81b452d379c42fcb354e8539f", func := "cuboid/cuboidlaw19.StoreTables", spec := "storeTables", inPlace := ["math/bits.Sub64", "math/bits.Add64"], recurses := true, named := ["cuboid/tag.rows"], apart := false, laid := [("cuboid/tag.rows", laid_cuboid_tag_rows)], narrowed := true }
def StoreTablesUptoSaid : Prop := storeTablesUptoRow.holds Tryz.pinned (OpenSpec.upto storeTablesSpec)

/-- 'cuboidlaw23.SweepReads', WHERE WHAT IT READS IS OF BULK AT MOST 1048576: true; the input reads as it did. -/
def sweepReadsUptoRow : OpenClaim := { program := "ytbppemcdphgknaagreatdoor", sum := "620264405d68e27dfc55dde1de98c5a826854ad81b452d379c42fcb354e8539f", func := "cuboid/cuboidlaw23.SweepReads", spec := "sweepReads", inPlace := ["math/bits.Sub64", "math/bits.Add64"], recurses := true, named := ["cuboid/tag.rows"], apart := false, laid := [("cuboid/tag.rows", laid_cuboid_tag_rows)], narrowed := true }
def SweepReadsUptoSaid : Prop := sweepReadsUptoRow.holds Tryz.pinned (OpenSpec.upto sweepReadsSpec)

end Rows
end Go.Proofs.YtbppemcdphgknaaGreatDoor
