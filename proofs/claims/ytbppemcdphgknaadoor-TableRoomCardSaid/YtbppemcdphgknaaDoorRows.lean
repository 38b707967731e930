/-
  NARROWER THAN 'FOR EVERY INPUT', by the rows' own cells (each row's printed sentence says how): ChainTells: laid · ChainPuts: laid · ChainReads: laid · ChainUndo: laid · ChainPrune: laid · ChainBounds: laid · TableCopies: laid · TableRoom: laid.
  DERIVED. THE GIVEN ROWS OF THIS SEAT. 8 by the template 'for every input the law returns true; each argument reads behind the call as it read before'; 0 by the template 'total and deterministic' (their statements: YtbppemcdphgknaaDoorTotals.lean).
  GIVEN WITH THE SEED: the statements are not yours to turn. If you find one false, say at which input.
  Laid BY PROGRAM, IN A SANDBOX (cutbox-rows.mjs): the forced cells as the released guide's own fill.sh prints them over the translation 258fccc42088795f… (all of the seat's roots in one cut). By AI agents, Wed Nov 11 2026. No macro, syntax, notation, axiom, sorry.
-/
import Derived.Test.YtbppemcdphgknaaDoorChecked
import GoSem.Claim
import GoSem.ClaimJoined
import GoSem.ClaimMapViews
import Derived.JoinedTies
import Derived.KernelRfl
namespace Go.Proofs.YtbppemcdphgknaaDoor
/- THE CELL 'sum', in the pinned program and in every row, IS THE sha256 OF THE DUMP (.gsa) THAT YtbppemcdphgknaaDoorProg.lean LOADS. Nothing in Lean hashes anything: it is a label: what it is worth is what the hold of that sum in a sandbox is worth. -/
noncomputable def Tryd.pinned : Pinned := { name := "ytbppemcdphgknaadoor", sum := "258fccc42088795f1638f78753a398808fff22218fd7bc614485fcfebbed24cd", checked := Tryd.checked }
namespace Rows
def none {H : Type} : Left H := { results := [], args := [] }

/- WHAT THE LISTED PACKAGE-LEVEL VARIABLES READ AS WHEN THE CALL BEGINS. Each datum BY PROGRAM (the guide's laid-datum.mjs) off the statement by which the dump's own 'gosem.cut.vars' lays the variable. In a bare row this is a premise. The card (YtbppemcdphgknaaDoorCards.lean) ties it to the program's text. -/
def laid_cuboid_tag_rows {H : Type} : DataW H := .agg [.agg [.lit (.int .i64 0), .lit (.bool false), .lit (.bool false)], .agg [.lit (.int .i64 1), .lit (.bool false), .lit (.bool true)], .agg [.lit (.int .i64 2), .lit (.bool true), .lit (.bool true)], .agg [.lit (.int .i64 3), .lit (.bool true), .lit (.bool false)]]

/-- 'cuboidlaw13.ChainTells': WHATEVER THE INPUT: true; the input reads as it did. -/
def chainTellsSpec : ChangeSpec := { name := "chainTells", fn := fun _ => fun
  | [d1, d2] => { results := [.lit (.bool true)], args := [d1, d2] }
  | _ => none }
def chainTellsRow : OpenClaim := { program := "ytbppemcdphgknaadoor", sum := "258fccc42088795f1638f78753a398808fff22218fd7bc614485fcfebbed24cd", func := "cuboid/cuboidlaw13.ChainTells", spec := "chainTells", inPlace := ["math/bits.Sub64", "math/bits.Add64"], unfollowed := true, recurses := true, named := ["cuboid/tag.rows"], apart := false, laid := [("cuboid/tag.rows", laid_cuboid_tag_rows)] }
def ChainTellsSaid : Prop := chainTellsRow.holds Tryd.pinned (OpenSpec.ofChange chainTellsSpec)

/-- ITS FALSE NEIGHBOUR: 'it returns false'. Refute it at one input. -/
def chainTellsWrong : ChangeSpec := { name := "chainTells", fn := fun _ => fun
  | [d1, d2] => { results := [.lit (.bool false)], args := [d1, d2] }
  | _ => none }
def ChainTellsWrongFalsely : Prop := chainTellsRow.holds Tryd.pinned (OpenSpec.ofChange chainTellsWrong)

/-- 'cuboidlaw13.ChainPuts': WHATEVER THE INPUT: true; the input reads as it did. -/
def chainPutsSpec : ChangeSpec := { name := "chainPuts", fn := fun _ => fun
  | [d1, d2, d3] => { results := [.lit (.bool true)], args := [d1, d2, d3] }
  | _ => none }
def chainPutsRow : OpenClaim := { program := "ytbppemcdphgknaadoor", sum := "258fccc42088795f1638f78753a398808fff22218fd7bc614485fcfebbed24cd", func := "cuboid/cuboidlaw13.ChainPuts", spec := "chainPuts", inPlace := ["math/bits.Sub64", "math/bits.Add64"], unfollowed := true, recurses := true, named := ["cuboid/tag.rows"], apart := false, laid := [("cuboid/tag.rows", laid_cuboid_tag_rows)] }
def ChainPutsSaid : Prop := chainPutsRow.holds Tryd.pinned (OpenSpec.ofChange chainPutsSpec)

/-- ITS FALSE NEIGHBOUR: 'it returns false'. Refute it at one input. -/
def chainPutsWrong : ChangeSpec := { name := "chainPuts", fn := fun _ => fun
  | [d1, d2, d3] => { results := [.lit (.bool false)], args := [d1, d2, d3] }
  | _ => none }
def ChainPutsWrongFalsely : Prop := chainPutsRow.holds Tryd.pinned (OpenSpec.ofChange chainPutsWrong)

/-- 'cuboidlaw13.ChainReads': WHATEVER THE INPUT: true; the input reads as it did. -/
def chainReadsSpec : ChangeSpec := { name := "chainReads", fn := fun _ => fun
  | [d1, d2] => { results := [.lit (.bool true)], args := [d1, d2] }
  | _ => none }
def chainReadsRow : OpenClaim := { program := "ytbppemcdphgknaadoor", sum := "258fccc42088795f1638f78753a398808fff22218fd7bc614485fcfebbed24cd", func := "cuboid/cuboidlaw13.ChainReads", spec := "chainReads", inPlace := ["math/bits.Sub64", "math/bits.Add64"], unfollowed := true, recurses := true, named := ["cuboid/tag.rows"], apart := false, laid := [("cuboid/tag.rows", laid_cuboid_tag_rows)] }
def ChainReadsSaid : Prop := chainReadsRow.holds Tryd.pinned (OpenSpec.ofChange chainReadsSpec)

/-- ITS FALSE NEIGHBOUR: 'it returns false'. Refute it at one input. -/
def chainReadsWrong : ChangeSpec := { name := "chainReads", fn := fun _ => fun
  | [d1, d2] => { results := [.lit (.bool false)], args := [d1, d2] }
  | _ => none }
def ChainReadsWrongFalsely : Prop := chainReadsRow.holds Tryd.pinned (OpenSpec.ofChange chainReadsWrong)

/-- 'cuboidlaw13.ChainUndo': WHATEVER THE INPUT: true; the input reads as it did. -/
def chainUndoSpec : ChangeSpec := { name := "chainUndo", fn := fun _ => fun
  | [d1, d2] => { results := [.lit (.bool true)], args := [d1, d2] }
  | _ => none }
def chainUndoRow : OpenClaim := { program := "ytbppemcdphgknaadoor", sum := "258fccc42088795f1638f78753a398808fff22218fd7bc614485fcfebbed24cd", func := "cuboid/cuboidlaw13.ChainUndo", spec := "chainUndo", inPlace := ["math/bits.Sub64", "math/bits.Add64"], unfollowed := true, recurses := true, named := ["cuboid/tag.rows"], apart := false, laid := [("cuboid/tag.rows", laid_cuboid_tag_rows)] }
def ChainUndoSaid : Prop := chainUndoRow.holds Tryd.pinned (OpenSpec.ofChange chainUndoSpec)

/-- ITS FALSE NEIGHBOUR: 'it returns false'. Refute it at one input. -/
def chainUndoWrong : ChangeSpec := { name := "chainUndo", fn := fun _ => fun
  | [d1, d2] => { results := [.lit (.bool false)], args := [d1, d2] }
  | _ => none }
def ChainUndoWrongFalsely : Prop := chainUndoRow.holds Tryd.pinned (OpenSpec.ofChange chainUndoWrong)

/-- 'cuboidlaw13.ChainPrune': WHATEVER THE INPUT: true; the input reads as it did. -/
def chainPruneSpec : ChangeSpec := { name := "chainPrune", fn := fun _ => fun
  | [d1, d2, d3] => { results := [.lit (.bool true)], args := [d1, d2, d3] }
  | _ => none }
def chainPruneRow : OpenClaim := { program := "ytbppemcdphgknaadoor", sum := "258fccc42088795f1638f78753a398808fff22218fd7bc614485fcfebbed24cd", func := "cuboid/cuboidlaw13.ChainPrune", spec := "chainPrune", inPlace := ["math/bits.Sub64", "math/bits.Add64"], unfollowed := true, recurses := true, named := ["cuboid/tag.rows"], apart := false, laid := [("cuboid/tag.rows", laid_cuboid_tag_rows)] }
def ChainPruneSaid : Prop := chainPruneRow.holds Tryd.pinned (OpenSpec.ofChange chainPruneSpec)

/-- ITS FALSE NEIGHBOUR: 'it returns false'. Refute it at one input. -/
def chainPruneWrong : ChangeSpec := { name := "chainPrune", fn := fun _ => fun
  | [d1, d2, d3] => { results := [.lit (.bool false)], args := [d1, d2, d3] }
  | _ => none }
def ChainPruneWrongFalsely : Prop := chainPruneRow.holds Tryd.pinned (OpenSpec.ofChange chainPruneWrong)

/-- 'cuboidlaw13.ChainBounds': WHATEVER THE INPUT: true; the input reads as it did. -/
def chainBoundsSpec : ChangeSpec := { name := "chainBounds", fn := fun _ => fun
  | [d1, d2, d3] => { results := [.lit (.bool true)], args := [d1, d2, d3] }
  | _ => none }
def chainBoundsRow : OpenClaim := { program := "ytbppemcdphgknaadoor", sum := "258fccc42088795f1638f78753a398808fff22218fd7bc614485fcfebbed24cd", func := "cuboid/cuboidlaw13.ChainBounds", spec := "chainBounds", inPlace := ["math/bits.Sub64", "math/bits.Add64"], unfollowed := true, recurses := true, named := ["cuboid/tag.rows"], apart := false, laid := [("cuboid/tag.rows", laid_cuboid_tag_rows)] }
def ChainBoundsSaid : Prop := chainBoundsRow.holds Tryd.pinned (OpenSpec.ofChange chainBoundsSpec)

/-- ITS FALSE NEIGHBOUR: 'it returns false'. Refute it at one input. -/
def chainBoundsWrong : ChangeSpec := { name := "chainBounds", fn := fun _ => fun
  | [d1, d2, d3] => { results := [.lit (.bool false)], args := [d1, d2, d3] }
  | _ => none }
def ChainBoundsWrongFalsely : Prop := chainBoundsRow.holds Tryd.pinned (OpenSpec.ofChange chainBoundsWrong)

/-- 'cuboidlaw18.TableCopies': WHATEVER THE INPUT: true; the input reads as it did. -/
def tableCopiesSpec : ChangeSpec := { name := "tableCopies", fn := fun _ => fun
  | [d1, d2, d3] => { results := [.lit (.bool true)], args := [d1, d2, d3] }
  | _ => none }
def tableCopiesRow : OpenClaim := { program := "ytbppemcdphgknaadoor", sum := "258fccc42088795f1638f78753a398808fff22218fd7bc614485fcfebbed24cd", func := "cuboid/cuboidlaw18.TableCopies", spec := "tableCopies", inPlace := ["math/bits.Sub64", "math/bits.Add64"], recurses := true, named := ["cuboid/tag.rows"], apart := false, laid := [("cuboid/tag.rows", laid_cuboid_tag_rows)] }
def TableCopiesSaid : Prop := tableCopiesRow.holds Tryd.pinned (OpenSpec.ofChange tableCopiesSpec)

/-- ITS FALSE NEIGHBOUR: 'it returns false'. Refute it at one input. -/
def tableCopiesWrong : ChangeSpec := { name := "tableCopies", fn := fun _ => fun
  | [d1, d2, d3] => { results := [.lit (.bool false)], args := [d1, d2, d3] }
  | _ => none }
def TableCopiesWrongFalsely : Prop := tableCopiesRow.holds Tryd.pinned (OpenSpec.ofChange tableCopiesWrong)

/-- 'cuboidlaw18.TableRoom': WHATEVER THE INPUT: true; the input reads as it did. -/
def tableRoomSpec : ChangeSpec := { name := "tableRoom", fn := fun _ => fun
  | [d1, d2, d3] => { results := [.lit (.bool true)], args := [d1, d2, d3] }
  | _ => none }
def tableRoomRow : OpenClaim := { program := "ytbppemcdphgknaadoor", sum := "258fccc42088795f1638f78753a398808fff22218fd7bc614485fcfebbed24cd", func := "cuboid/cuboidlaw18.TableRoom", spec := "tableRoom", inPlace := ["math/bits.Sub64", "math/bits.Add64"], recurses := true, named := ["cuboid/tag.rows"], apart := false, laid := [("cuboid/tag.rows", laid_cuboid_tag_rows)] }
def TableRoomSaid : Prop := tableRoomRow.holds Tryd.pinned (OpenSpec.ofChange tableRoomSpec)

/-- ITS FALSE NEIGHBOUR: 'it returns false'. Refute it at one input. -/
def tableRoomWrong : ChangeSpec := { name := "tableRoom", fn := fun _ => fun
  | [d1, d2, d3] => { results := [.lit (.bool false)], args := [d1, d2, d3] }
  | _ => none }
def TableRoomWrongFalsely : Prop := tableRoomRow.holds Tryd.pinned (OpenSpec.ofChange tableRoomWrong)

/- THE SECOND FORM. 'bulk': how many values and letters a reading holds, each counted each time it is reached (what is shared counts as often as it is met; a slice's spare places count too). A statement '..UptoSaid' is the law's where the arguments, and the package variables that the reading takes, are together of bulk at most 1048576: NARROWER than '..Said'. Prove '..Said' where nothing that the law and all that it calls make is longer than what came in: it says more and counts as full. Else prove '..UptoSaid'. A law counts once. -/
mutual
def uptoBulk {H : Type} : DataW H → Nat
  | .lit (.string bytes) => bytes.length + 1
  | .lit _ => 1
  | .nil => 1
  | .ptr d => uptoBulk d + 1
  | .slice elems spare => uptoBulkAll elems + uptoBulkAll spare + 1
  | .agg parts => uptoBulkAll parts + 1
  | .iface _ d => uptoBulk d + 1
  | .map entries => uptoBulkEntries entries + 1
  | .held _ => 1
def uptoBulkAll {H : Type} : List (DataW H) → Nat
  | [] => 0
  | d :: r => uptoBulk d + uptoBulkAll r
def uptoBulkEntries {H : Type} : List (Lit × DataW H) → Nat
  | [] => 0
  | x :: r => uptoBulkEntry x + uptoBulkEntries r
def uptoBulkEntry {H : Type} : Lit × DataW H → Nat
  | (.string bytes, d) => bytes.length + uptoBulk d + 1
  | (_, d) => uptoBulk d + 1
 end
def uptoSmall : (H : Type) → List (DataW H) → Bool := fun _ ds => decide (uptoBulkAll ds ≤ 1048576)
def OpenSpec.upto (s : _root_.Go.ChangeSpec) : _root_.Go.OpenSpec := { _root_.Go.OpenSpec.ofChange s with cond := some uptoSmall }

/-- 'cuboidlaw13.ChainTells', WHERE WHAT IT READS IS OF BULK AT MOST 1048576: true; the input reads as it did. -/
def chainTellsUptoRow : OpenClaim := { program := "ytbppemcdphgknaadoor", sum := "258fccc42088795f1638f78753a398808fff22218fd7bc614485fcfebbed24cd", func := "cuboid/cuboidlaw13.ChainTells", spec := "chainTells", inPlace := ["math/bits.Sub64", "math/bits.Add64"], unfollowed := true, recurses := true, named := ["cuboid/tag.rows"], apart := false, laid := [("cuboid/tag.rows", laid_cuboid_tag_rows)], narrowed := true }
def ChainTellsUptoSaid : Prop := chainTellsUptoRow.holds Tryd.pinned (OpenSpec.upto chainTellsSpec)

/-- 'cuboidlaw13.ChainPuts', WHERE WHAT IT READS IS OF BULK AT MOST 1048576: true; the input reads as it did. -/
def chainPutsUptoRow : OpenClaim := { program := "ytbppemcdphgknaadoor", sum := "258fccc42088795f1638f78753a398808fff22218fd7bc614485fcfebbed24cd", func := "cuboid/cuboidlaw13.ChainPuts", spec := "chainPuts", inPlace := ["math/bits.Sub64", "math/bits.Add64"], unfollowed := true, recurses := true, named := ["cuboid/tag.rows"], apart := false, laid := [("cuboid/tag.rows", laid_cuboid_tag_rows)], narrowed := true }
def ChainPutsUptoSaid : Prop := chainPutsUptoRow.holds Tryd.pinned (OpenSpec.upto chainPutsSpec)

/-- 'cuboidlaw13.ChainReads', WHERE WHAT IT READS IS OF BULK AT MOST 1048576: true; the input reads as it did. -/
def chainReadsUptoRow : OpenClaim := { program := "ytbppemcdphgknaadoor", sum := "258fccc42088795f1638f78753a398808fff22218fd7bc614485fcfebbed24cd", func := "cuboid/cuboidlaw13.ChainReads", spec := "chainReads", inPlace := ["math/bits.Sub64", "math/bits.Add64"], unfollowed := true, recurses := true, named := ["cuboid/tag.rows"], apart := false, laid := [("cuboid/tag.rows", laid_cuboid_tag_rows)], narrowed := true }
def ChainReadsUptoSaid : Prop := chainReadsUptoRow.holds Tryd.pinned (OpenSpec.upto chainReadsSpec)

/-- 'cuboidlaw13.ChainUndo', WHERE WHAT IT READS IS OF BULK AT MOST 1048576: true; the input reads as it did. -/
def chainUndoUptoRow : OpenClaim := { program := "ytbppemcdphgknaadoor", sum := "258fccc42088795f1638f78753a398808fff22218fd7bc614485fcfebbed24cd", func := "cuboid/cuboidlaw13.ChainUndo", spec := "chainUndo", inPlace := ["math/bits.Sub64", "math/bits.Add64"], unfollowed := true, recurses := true, named := ["cuboid/tag.rows"], apart := false, laid := [("cuboid/tag.rows", laid_cuboid_tag_rows)], narrowed := true }
def ChainUndoUptoSaid : Prop := chainUndoUptoRow.holds Tryd.pinned (OpenSpec.upto chainUndoSpec)

/-- 'cuboidlaw13.ChainPrune', WHERE WHAT IT READS IS OF BULK AT MOST 1048576: true; the input reads as it did. -/
def chainPruneUptoRow : OpenClaim := { program := "ytbppemcdphgknaadoor", sum := "258fccc42088795f1638f78753a398808fff22218fd7bc614485fcfebbed24cd", func := "cuboid/cuboidlaw13.ChainPrune", spec := "chainPrune", inPlace := ["math/bits.Sub64", "math/bits.Add64"], unfollowed := true, recurses := true, named := ["cuboid/tag.rows"], apart := false, laid := [("cuboid/tag.rows", laid_cuboid_tag_rows)], narrowed := true }
def ChainPruneUptoSaid : Prop := chainPruneUptoRow.holds Tryd.pinned (OpenSpec.upto chainPruneSpec)

/-- 'cuboidlaw13.ChainBounds', WHERE WHAT IT READS IS OF BULK AT MOST 1048576: true; the input reads as it did. -/
def chainBoundsUptoRow : OpenClaim := { program := "ytbppemcdphgknaadoor", sum := "258fccc42088795f1638f78753a398808fff22218fd7bc614485fcfebbed24cd", func := "cuboid/cuboidlaw13.ChainBounds", spec := "chainBounds", inPlace := ["math/bits.Sub64", "math/bits.Add64"], unfollowed := true, recurses := true, named := ["cuboid/tag.rows"], apart := false, laid := [("cuboid/tag.rows", laid_cuboid_tag_rows)], narrowed := true }
def ChainBoundsUptoSaid : Prop := chainBoundsUptoRow.holds Tryd.pinned (OpenSpec.upto chainBoundsSpec)

/-- 'cuboidlaw18.TableCopies', WHERE WHAT IT READS IS OF BULK AT MOST 1048576: true; the input reads as it did. -/
def tableCopiesUptoRow : OpenClaim := { program := "ytbppemcdphgknaadoor", sum := "258fccc42088795f1638f78753a398808fff22218fd7bc614485fcfebbed24cd", func := "cuboid/cuboidlaw18.TableCopies", spec := "tableCopies", inPlace := ["math/bits.Sub64", "math/bits.Add64"], recurses := true, named := ["cuboid/tag.rows"], apart := false, laid := [("cuboid/tag.rows", laid_cuboid_tag_rows)], narrowed := true }
def TableCopiesUptoSaid : Prop := tableCopiesUptoRow.holds Tryd.pinned (OpenSpec.upto tableCopiesSpec)

/-- 'cuboidlaw18.TableRoom', WHERE WHAT IT READS IS OF BULK AT MOST 1048576: true; the input reads as it did. -/
def tableRoomUptoRow : OpenClaim := { program := "ytbppemcdphgknaadoor", sum := "258fccc42088795f1638f78753a398808fff22218fd7bc614485fcfebbed24cd", func := "cuboid/cuboidlaw18.TableRoom", spec := "tableRoom", inPlace := ["math/bits.Sub64", "math/bits.Add64"], recurses := true, named := ["cuboid/tag.rows"], apart := false, laid := [("cuboid/tag.rows", laid_cuboid_tag_rows)], narrowed := true }
def TableRoomUptoSaid : Prop := tableRoomUptoRow.holds Tryd.pinned (OpenSpec.upto tableRoomSpec)

end Rows
end Go.Proofs.YtbppemcdphgknaaDoor
