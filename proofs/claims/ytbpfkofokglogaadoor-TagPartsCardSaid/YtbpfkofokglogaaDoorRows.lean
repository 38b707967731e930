/-
  NARROWER THAN 'FOR EVERY INPUT', by the rows' own cells (each row's printed sentence says how): TagTells: laid · TagNets: laid · TagStates: laid · TagParts: laid.
  DERIVED. THE GIVEN ROWS OF THIS SEAT. 4 by the template 'for every input the law returns true; each argument reads behind the call as it read before'; 0 by the template 'total and deterministic' (their statements: YtbpfkofokglogaaDoorTotals.lean).
  GIVEN WITH THE SEED: the statements are not yours to turn. If you find one false, say at which input.
  Laid BY PROGRAM, IN A SANDBOX (cutbox-rows.mjs): the forced cells as the released guide's own fill.sh prints them over the translation 0d9779414c95fac0… (all of the seat's roots in one cut). By AI agents, Wed Nov 11 2026. No macro, syntax, notation, axiom, sorry.
-/
import Derived.Test.YtbpfkofokglogaaDoorChecked
import GoSem.Claim
import GoSem.ClaimJoined
import GoSem.ClaimMapViews
import Derived.JoinedTies
import Derived.KernelRfl
namespace Go.Proofs.YtbpfkofokglogaaDoor
/- THE CELL 'sum', in the pinned program and in every row, IS THE sha256 OF THE DUMP (.gsa) THAT YtbpfkofokglogaaDoorProg.lean LOADS. Nothing in Lean hashes anything: it is a label: what it is worth is what the hold of that sum in a sandbox is worth. -/
noncomputable def Tryd.pinned : Pinned := { name := "ytbpfkofokglogaadoor", sum := "0d9779414c95fac03f6c4c24305a99ba9cfe24bc778ad8ad443051a3c2d8fbff", checked := Tryd.checked }
namespace Rows
def none {H : Type} : Left H := { results := [], args := [] }

/- WHAT THE LISTED PACKAGE-LEVEL VARIABLES READ AS WHEN THE CALL BEGINS. Each datum BY PROGRAM (the guide's laid-datum.mjs) off the statement by which the dump's own 'gosem.cut.vars' lays the variable. In a bare row this is a premise. The card (YtbpfkofokglogaaDoorCards.lean) ties it to the program's text. -/
def laid_cuboid_tag_rows {H : Type} : DataW H := .agg [.agg [.lit (.int .i64 0), .lit (.bool false), .lit (.bool false)], .agg [.lit (.int .i64 1), .lit (.bool false), .lit (.bool true)], .agg [.lit (.int .i64 2), .lit (.bool true), .lit (.bool true)], .agg [.lit (.int .i64 3), .lit (.bool true), .lit (.bool false)]]

/-- 'cuboidlaw12.TagTells': WHATEVER THE INPUT: true; the input reads as it did. -/
def tagTellsSpec : ChangeSpec := { name := "tagTells", fn := fun _ => fun
  | [d1, d2, d3] => { results := [.lit (.bool true)], args := [d1, d2, d3] }
  | _ => none }
def tagTellsRow : OpenClaim := { program := "ytbpfkofokglogaadoor", sum := "0d9779414c95fac03f6c4c24305a99ba9cfe24bc778ad8ad443051a3c2d8fbff", func := "cuboid/cuboidlaw12.TagTells", spec := "tagTells", named := ["cuboid/tag.rows"], apart := false, laid := [("cuboid/tag.rows", laid_cuboid_tag_rows)] }
def TagTellsSaid : Prop := tagTellsRow.holds Tryd.pinned (OpenSpec.ofChange tagTellsSpec)

/-- ITS FALSE NEIGHBOUR: 'it returns false'. Refute it at one input. -/
def tagTellsWrong : ChangeSpec := { name := "tagTells", fn := fun _ => fun
  | [d1, d2, d3] => { results := [.lit (.bool false)], args := [d1, d2, d3] }
  | _ => none }
def TagTellsWrongFalsely : Prop := tagTellsRow.holds Tryd.pinned (OpenSpec.ofChange tagTellsWrong)

/-- 'cuboidlaw12.TagNets': WHATEVER THE INPUT: true; the input reads as it did. -/
def tagNetsSpec : ChangeSpec := { name := "tagNets", fn := fun _ => fun
  | [d] => { results := [.lit (.bool true)], args := [d] }
  | _ => none }
def tagNetsRow : OpenClaim := { program := "ytbpfkofokglogaadoor", sum := "0d9779414c95fac03f6c4c24305a99ba9cfe24bc778ad8ad443051a3c2d8fbff", func := "cuboid/cuboidlaw12.TagNets", spec := "tagNets", named := ["cuboid/tag.rows"], apart := false, laid := [("cuboid/tag.rows", laid_cuboid_tag_rows)] }
def TagNetsSaid : Prop := tagNetsRow.holds Tryd.pinned (OpenSpec.ofChange tagNetsSpec)

/-- ITS FALSE NEIGHBOUR: 'it returns false'. Refute it at one input. -/
def tagNetsWrong : ChangeSpec := { name := "tagNets", fn := fun _ => fun
  | [d] => { results := [.lit (.bool false)], args := [d] }
  | _ => none }
def TagNetsWrongFalsely : Prop := tagNetsRow.holds Tryd.pinned (OpenSpec.ofChange tagNetsWrong)

/-- 'cuboidlaw12.TagStates': WHATEVER THE INPUT: true; the input reads as it did. -/
def tagStatesSpec : ChangeSpec := { name := "tagStates", fn := fun _ => fun
  | [d] => { results := [.lit (.bool true)], args := [d] }
  | _ => none }
def tagStatesRow : OpenClaim := { program := "ytbpfkofokglogaadoor", sum := "0d9779414c95fac03f6c4c24305a99ba9cfe24bc778ad8ad443051a3c2d8fbff", func := "cuboid/cuboidlaw12.TagStates", spec := "tagStates", named := ["cuboid/tag.rows"], apart := false, laid := [("cuboid/tag.rows", laid_cuboid_tag_rows)] }
def TagStatesSaid : Prop := tagStatesRow.holds Tryd.pinned (OpenSpec.ofChange tagStatesSpec)

/-- ITS FALSE NEIGHBOUR: 'it returns false'. Refute it at one input. -/
def tagStatesWrong : ChangeSpec := { name := "tagStates", fn := fun _ => fun
  | [d] => { results := [.lit (.bool false)], args := [d] }
  | _ => none }
def TagStatesWrongFalsely : Prop := tagStatesRow.holds Tryd.pinned (OpenSpec.ofChange tagStatesWrong)

/-- 'cuboidlaw12.TagParts': WHATEVER THE INPUT: true; the input reads as it did. -/
def tagPartsSpec : ChangeSpec := { name := "tagParts", fn := fun _ => fun
  | [d1, d2] => { results := [.lit (.bool true)], args := [d1, d2] }
  | _ => none }
def tagPartsRow : OpenClaim := { program := "ytbpfkofokglogaadoor", sum := "0d9779414c95fac03f6c4c24305a99ba9cfe24bc778ad8ad443051a3c2d8fbff", func := "cuboid/cuboidlaw12.TagParts", spec := "tagParts", named := ["cuboid/tag.rows"], apart := false, laid := [("cuboid/tag.rows", laid_cuboid_tag_rows)] }
def TagPartsSaid : Prop := tagPartsRow.holds Tryd.pinned (OpenSpec.ofChange tagPartsSpec)

/-- ITS FALSE NEIGHBOUR: 'it returns false'. Refute it at one input. -/
def tagPartsWrong : ChangeSpec := { name := "tagParts", fn := fun _ => fun
  | [d1, d2] => { results := [.lit (.bool false)], args := [d1, d2] }
  | _ => none }
def TagPartsWrongFalsely : Prop := tagPartsRow.holds Tryd.pinned (OpenSpec.ofChange tagPartsWrong)

/- THE SECOND FORM. 'bulk': how many values and letters a reading holds, each counted each time it is reached (what is shared counts as often as it is met; a slice's spare places count too). A statement '..UptoSaid' is the law's where the arguments, and the package variables that the reading takes, are together of bulk at most 1048576: NARROWER than '..Said'. Prove '..Said' where nothing that the law and all that it calls make is longer than what came in: it says more and counts as full. Else prove '..UptoSaid'. A law counts once. -/
mutual
def uptoBulk {H : Type} : DataW H → Nat
  | .lit (.string bytes) => bytes.length + 1
  | .lit _ => 1
  | .nil => 1
  | .ptr d => uptoBulk d + 1
  | .slice elems spare => uptoBulkAll elems + uptoBulkAll spare + 1
  | .agg parts => uptoBulkAll parts + 1
  | .iface _ d => uptoBulk d + 1
  | .map entries => uptoBulkEntries entries + 1
  | .held _ => 1
def uptoBulkAll {H : Type} : List (DataW H) → Nat
  | [] => 0
  | d :: r => uptoBulk d + uptoBulkAll r
def uptoBulkEntries {H : Type} : List (Lit × DataW H) → Nat
  | [] => 0
  | x :: r => uptoBulkEntry x + uptoBulkEntries r
def uptoBulkEntry {H : Type} : Lit × DataW H → Nat
  | (.string bytes, d) => bytes.length + uptoBulk d + 1
  | (_, d) => uptoBulk d + 1
 end
def uptoSmall : (H : Type) → List (DataW H) → Bool := fun _ ds => decide (uptoBulkAll ds ≤ 1048576)
def OpenSpec.upto (s : _root_.Go.ChangeSpec) : _root_.Go.OpenSpec := { _root_.Go.OpenSpec.ofChange s with cond := some uptoSmall }

/-- 'cuboidlaw12.TagTells', WHERE WHAT IT READS IS OF BULK AT MOST 1048576: true; the input reads as it did. -/
def tagTellsUptoRow : OpenClaim := { program := "ytbpfkofokglogaadoor", sum := "0d9779414c95fac03f6c4c24305a99ba9cfe24bc778ad8ad443051a3c2d8fbff", func := "cuboid/cuboidlaw12.TagTells", spec := "tagTells", named := ["cuboid/tag.rows"], apart := false, laid := [("cuboid/tag.rows", laid_cuboid_tag_rows)], narrowed := true }
def TagTellsUptoSaid : Prop := tagTellsUptoRow.holds Tryd.pinned (OpenSpec.upto tagTellsSpec)

/-- 'cuboidlaw12.TagNets', WHERE WHAT IT READS IS OF BULK AT MOST 1048576: true; the input reads as it did. -/
def tagNetsUptoRow : OpenClaim := { program := "ytbpfkofokglogaadoor", sum := "0d9779414c95fac03f6c4c24305a99ba9cfe24bc778ad8ad443051a3c2d8fbff", func := "cuboid/cuboidlaw12.TagNets", spec := "tagNets", named := ["cuboid/tag.rows"], apart := false, laid := [("cuboid/tag.rows", laid_cuboid_tag_rows)], narrowed := true }
def TagNetsUptoSaid : Prop := tagNetsUptoRow.holds Tryd.pinned (OpenSpec.upto tagNetsSpec)

/-- 'cuboidlaw12.TagStates', WHERE WHAT IT READS IS OF BULK AT MOST 1048576: true; the input reads as it did. -/
def tagStatesUptoRow : OpenClaim := { program := "ytbpfkofokglogaadoor", sum := "0d9779414c95fac03f6c4c24305a99ba9cfe24bc778ad8ad443051a3c2d8fbff", func := "cuboid/cuboidlaw12.TagStates", spec := "tagStates", named := ["cuboid/tag.rows"], apart := false, laid := [("cuboid/tag.rows", laid_cuboid_tag_rows)], narrowed := true }
def TagStatesUptoSaid : Prop := tagStatesUptoRow.holds Tryd.pinned (OpenSpec.upto tagStatesSpec)

/-- 'cuboidlaw12.TagParts', WHERE WHAT IT READS IS OF BULK AT MOST 1048576: true; the input reads as it did. -/
def tagPartsUptoRow : OpenClaim := { program := "ytbpfkofokglogaadoor", sum := "0d9779414c95fac03f6c4c24305a99ba9cfe24bc778ad8ad443051a3c2d8fbff", func := "cuboid/cuboidlaw12.TagParts", spec := "tagParts", named := ["cuboid/tag.rows"], apart := false, laid := [("cuboid/tag.rows", laid_cuboid_tag_rows)], narrowed := true }
def TagPartsUptoSaid : Prop := tagPartsUptoRow.holds Tryd.pinned (OpenSpec.upto tagPartsSpec)

end Rows
end Go.Proofs.YtbpfkofokglogaaDoor
