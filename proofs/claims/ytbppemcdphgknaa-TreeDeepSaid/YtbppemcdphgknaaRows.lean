/-
  No cell of these rows narrows 'for every input' (looked for: loops, veiled, ifaces, maps, wideKeys, modest, calm, conditions, laid).
  DERIVED. THE GIVEN ROWS OF THIS SEAT. 9 by the template 'for every input the law returns true; each argument reads behind the call as it read before'; 0 by the template 'total and deterministic' (their statements: YtbppemcdphgknaaTotals.lean).
  GIVEN WITH THE SEED: the statements are not yours to turn. If you find one false, say at which input.
  Laid BY PROGRAM, IN A SANDBOX (cutbox-rows.mjs): the forced cells as the released guide's own fill.sh prints them over the translation d5f72196b4d7fb8e… (all of the seat's roots in one cut). By AI agents, Wed Nov 11 2026. No macro, syntax, notation, axiom, sorry.
-/
import Derived.Test.YtbppemcdphgknaaChecked
import GoSem.Claim
import GoSem.ClaimJoined
import GoSem.ClaimMapViews
import Derived.JoinedTies
import Derived.KernelRfl
namespace Go.Proofs.Ytbppemcdphgknaa
/- THE CELL 'sum', in the pinned program and in every row, IS THE sha256 OF THE DUMP (.gsa) THAT YtbppemcdphgknaaProg.lean LOADS. Nothing in Lean hashes anything: it is a label: what it is worth is what the hold of that sum in a sandbox is worth. -/
noncomputable def Try.pinned : Pinned := { name := "ytbppemcdphgknaa", sum := "d5f72196b4d7fb8e2e96192ae19ef6147c09caa5df62e59cdf90b845ee33d04f", checked := Try.checked }
namespace Rows
def none {H : Type} : Left H := { results := [], args := [] }

/-- 'cuboidlaw14.SlabLeast': WHATEVER THE INPUT: true; the input reads as it did. -/
def slabLeastSpec : ChangeSpec := { name := "slabLeast", fn := fun _ => fun
  | [d1, d2, d3] => { results := [.lit (.bool true)], args := [d1, d2, d3] }
  | _ => none }
def slabLeastRow : OpenClaim := { program := "ytbppemcdphgknaa", sum := "d5f72196b4d7fb8e2e96192ae19ef6147c09caa5df62e59cdf90b845ee33d04f", func := "cuboid/cuboidlaw14.SlabLeast", spec := "slabLeast", apart := false }
def SlabLeastSaid : Prop := slabLeastRow.holds Try.pinned (OpenSpec.ofChange slabLeastSpec)

/-- ITS FALSE NEIGHBOUR: 'it returns false'. Refute it at one input. -/
def slabLeastWrong : ChangeSpec := { name := "slabLeast", fn := fun _ => fun
  | [d1, d2, d3] => { results := [.lit (.bool false)], args := [d1, d2, d3] }
  | _ => none }
def SlabLeastWrongFalsely : Prop := slabLeastRow.holds Try.pinned (OpenSpec.ofChange slabLeastWrong)

/-- 'cuboidlaw14.SlabPlays': WHATEVER THE INPUT: true; the input reads as it did. -/
def slabPlaysSpec : ChangeSpec := { name := "slabPlays", fn := fun _ => fun
  | [d1, d2] => { results := [.lit (.bool true)], args := [d1, d2] }
  | _ => none }
def slabPlaysRow : OpenClaim := { program := "ytbppemcdphgknaa", sum := "d5f72196b4d7fb8e2e96192ae19ef6147c09caa5df62e59cdf90b845ee33d04f", func := "cuboid/cuboidlaw14.SlabPlays", spec := "slabPlays", apart := false }
def SlabPlaysSaid : Prop := slabPlaysRow.holds Try.pinned (OpenSpec.ofChange slabPlaysSpec)

/-- ITS FALSE NEIGHBOUR: 'it returns false'. Refute it at one input. -/
def slabPlaysWrong : ChangeSpec := { name := "slabPlays", fn := fun _ => fun
  | [d1, d2] => { results := [.lit (.bool false)], args := [d1, d2] }
  | _ => none }
def SlabPlaysWrongFalsely : Prop := slabPlaysRow.holds Try.pinned (OpenSpec.ofChange slabPlaysWrong)

/-- 'cuboidlaw14.SlabApart': WHATEVER THE INPUT: true; the input reads as it did. -/
def slabApartSpec : ChangeSpec := { name := "slabApart", fn := fun _ => fun
  | [d1, d2, d3] => { results := [.lit (.bool true)], args := [d1, d2, d3] }
  | _ => none }
def slabApartRow : OpenClaim := { program := "ytbppemcdphgknaa", sum := "d5f72196b4d7fb8e2e96192ae19ef6147c09caa5df62e59cdf90b845ee33d04f", func := "cuboid/cuboidlaw14.SlabApart", spec := "slabApart", apart := false }
def SlabApartSaid : Prop := slabApartRow.holds Try.pinned (OpenSpec.ofChange slabApartSpec)

/-- ITS FALSE NEIGHBOUR: 'it returns false'. Refute it at one input. -/
def slabApartWrong : ChangeSpec := { name := "slabApart", fn := fun _ => fun
  | [d1, d2, d3] => { results := [.lit (.bool false)], args := [d1, d2, d3] }
  | _ => none }
def SlabApartWrongFalsely : Prop := slabApartRow.holds Try.pinned (OpenSpec.ofChange slabApartWrong)

/-- 'cuboidlaw14.SlabCopies': WHATEVER THE INPUT: true; the input reads as it did. -/
def slabCopiesSpec : ChangeSpec := { name := "slabCopies", fn := fun _ => fun
  | [d1, d2, d3] => { results := [.lit (.bool true)], args := [d1, d2, d3] }
  | _ => none }
def slabCopiesRow : OpenClaim := { program := "ytbppemcdphgknaa", sum := "d5f72196b4d7fb8e2e96192ae19ef6147c09caa5df62e59cdf90b845ee33d04f", func := "cuboid/cuboidlaw14.SlabCopies", spec := "slabCopies", apart := false }
def SlabCopiesSaid : Prop := slabCopiesRow.holds Try.pinned (OpenSpec.ofChange slabCopiesSpec)

/-- ITS FALSE NEIGHBOUR: 'it returns false'. Refute it at one input. -/
def slabCopiesWrong : ChangeSpec := { name := "slabCopies", fn := fun _ => fun
  | [d1, d2, d3] => { results := [.lit (.bool false)], args := [d1, d2, d3] }
  | _ => none }
def SlabCopiesWrongFalsely : Prop := slabCopiesRow.holds Try.pinned (OpenSpec.ofChange slabCopiesWrong)

/-- 'cuboidlaw16.TreePlays': WHATEVER THE INPUT: true; the input reads as it did. -/
def treePlaysSpec : ChangeSpec := { name := "treePlays", fn := fun _ => fun
  | [d1, d2] => { results := [.lit (.bool true)], args := [d1, d2] }
  | _ => none }
def treePlaysRow : OpenClaim := { program := "ytbppemcdphgknaa", sum := "d5f72196b4d7fb8e2e96192ae19ef6147c09caa5df62e59cdf90b845ee33d04f", func := "cuboid/cuboidlaw16.TreePlays", spec := "treePlays", recurses := true, apart := false }
def TreePlaysSaid : Prop := treePlaysRow.holds Try.pinned (OpenSpec.ofChange treePlaysSpec)

/-- ITS FALSE NEIGHBOUR: 'it returns false'. Refute it at one input. -/
def treePlaysWrong : ChangeSpec := { name := "treePlays", fn := fun _ => fun
  | [d1, d2] => { results := [.lit (.bool false)], args := [d1, d2] }
  | _ => none }
def TreePlaysWrongFalsely : Prop := treePlaysRow.holds Try.pinned (OpenSpec.ofChange treePlaysWrong)

/-- 'cuboidlaw16.TreeWalk': WHATEVER THE INPUT: true; the input reads as it did. -/
def treeWalkSpec : ChangeSpec := { name := "treeWalk", fn := fun _ => fun
  | [d] => { results := [.lit (.bool true)], args := [d] }
  | _ => none }
def treeWalkRow : OpenClaim := { program := "ytbppemcdphgknaa", sum := "d5f72196b4d7fb8e2e96192ae19ef6147c09caa5df62e59cdf90b845ee33d04f", func := "cuboid/cuboidlaw16.TreeWalk", spec := "treeWalk", recurses := true, apart := false }
def TreeWalkSaid : Prop := treeWalkRow.holds Try.pinned (OpenSpec.ofChange treeWalkSpec)

/-- ITS FALSE NEIGHBOUR: 'it returns false'. Refute it at one input. -/
def treeWalkWrong : ChangeSpec := { name := "treeWalk", fn := fun _ => fun
  | [d] => { results := [.lit (.bool false)], args := [d] }
  | _ => none }
def TreeWalkWrongFalsely : Prop := treeWalkRow.holds Try.pinned (OpenSpec.ofChange treeWalkWrong)

/-- 'cuboidlaw16.TreeOrders': WHATEVER THE INPUT: true; the input reads as it did. -/
def treeOrdersSpec : ChangeSpec := { name := "treeOrders", fn := fun _ => fun
  | [d1, d2, d3] => { results := [.lit (.bool true)], args := [d1, d2, d3] }
  | _ => none }
def treeOrdersRow : OpenClaim := { program := "ytbppemcdphgknaa", sum := "d5f72196b4d7fb8e2e96192ae19ef6147c09caa5df62e59cdf90b845ee33d04f", func := "cuboid/cuboidlaw16.TreeOrders", spec := "treeOrders", recurses := true, apart := false }
def TreeOrdersSaid : Prop := treeOrdersRow.holds Try.pinned (OpenSpec.ofChange treeOrdersSpec)

/-- ITS FALSE NEIGHBOUR: 'it returns false'. Refute it at one input. -/
def treeOrdersWrong : ChangeSpec := { name := "treeOrders", fn := fun _ => fun
  | [d1, d2, d3] => { results := [.lit (.bool false)], args := [d1, d2, d3] }
  | _ => none }
def TreeOrdersWrongFalsely : Prop := treeOrdersRow.holds Try.pinned (OpenSpec.ofChange treeOrdersWrong)

/-- 'cuboidlaw16.TreeDrains': WHATEVER THE INPUT: true; the input reads as it did. -/
def treeDrainsSpec : ChangeSpec := { name := "treeDrains", fn := fun _ => fun
  | [d1, d2] => { results := [.lit (.bool true)], args := [d1, d2] }
  | _ => none }
def treeDrainsRow : OpenClaim := { program := "ytbppemcdphgknaa", sum := "d5f72196b4d7fb8e2e96192ae19ef6147c09caa5df62e59cdf90b845ee33d04f", func := "cuboid/cuboidlaw16.TreeDrains", spec := "treeDrains", recurses := true, apart := false }
def TreeDrainsSaid : Prop := treeDrainsRow.holds Try.pinned (OpenSpec.ofChange treeDrainsSpec)

/-- ITS FALSE NEIGHBOUR: 'it returns false'. Refute it at one input. -/
def treeDrainsWrong : ChangeSpec := { name := "treeDrains", fn := fun _ => fun
  | [d1, d2] => { results := [.lit (.bool false)], args := [d1, d2] }
  | _ => none }
def TreeDrainsWrongFalsely : Prop := treeDrainsRow.holds Try.pinned (OpenSpec.ofChange treeDrainsWrong)

/-- 'cuboidlaw16.TreeDeep': WHATEVER THE INPUT: true; the input reads as it did. -/
def treeDeepSpec : ChangeSpec := { name := "treeDeep", fn := fun _ => fun
  | [d] => { results := [.lit (.bool true)], args := [d] }
  | _ => none }
def treeDeepRow : OpenClaim := { program := "ytbppemcdphgknaa", sum := "d5f72196b4d7fb8e2e96192ae19ef6147c09caa5df62e59cdf90b845ee33d04f", func := "cuboid/cuboidlaw16.TreeDeep", spec := "treeDeep", recurses := true, apart := false }
def TreeDeepSaid : Prop := treeDeepRow.holds Try.pinned (OpenSpec.ofChange treeDeepSpec)

/-- ITS FALSE NEIGHBOUR: 'it returns false'. Refute it at one input. -/
def treeDeepWrong : ChangeSpec := { name := "treeDeep", fn := fun _ => fun
  | [d] => { results := [.lit (.bool false)], args := [d] }
  | _ => none }
def TreeDeepWrongFalsely : Prop := treeDeepRow.holds Try.pinned (OpenSpec.ofChange treeDeepWrong)

/- THE SECOND FORM. 'bulk': how many values and letters a reading holds, each counted each time it is reached (what is shared counts as often as it is met; a slice's spare places count too). A statement '..UptoSaid' is the law's where the arguments, and the package variables that the reading takes, are together of bulk at most 1048576: NARROWER than '..Said'. Prove '..Said' where nothing that the law and all that it calls make is longer than what came in: it says more and counts as full. Else prove '..UptoSaid'. A law counts once. -/
mutual
def uptoBulk {H : Type} : DataW H → Nat
  | .lit (.string bytes) => bytes.length + 1
  | .lit _ => 1
  | .nil => 1
  | .ptr d => uptoBulk d + 1
  | .slice elems spare => uptoBulkAll elems + uptoBulkAll spare + 1
  | .agg parts => uptoBulkAll parts + 1
  | .iface _ d => uptoBulk d + 1
  | .map entries => uptoBulkEntries entries + 1
  | .held _ => 1
def uptoBulkAll {H : Type} : List (DataW H) → Nat
  | [] => 0
  | d :: r => uptoBulk d + uptoBulkAll r
def uptoBulkEntries {H : Type} : List (Lit × DataW H) → Nat
  | [] => 0
  | x :: r => uptoBulkEntry x + uptoBulkEntries r
def uptoBulkEntry {H : Type} : Lit × DataW H → Nat
  | (.string bytes, d) => bytes.length + uptoBulk d + 1
  | (_, d) => uptoBulk d + 1
 end
def uptoSmall : (H : Type) → List (DataW H) → Bool := fun _ ds => decide (uptoBulkAll ds ≤ 1048576)
def OpenSpec.upto (s : _root_.Go.ChangeSpec) : _root_.Go.OpenSpec := { _root_.Go.OpenSpec.ofChange s with cond := some uptoSmall }

/-- 'cuboidlaw14.SlabLeast', WHERE WHAT IT READS IS OF BULK AT MOST 1048576: true; the input reads as it did. -/
def slabLeastUptoRow : OpenClaim := { program := "ytbppemcdphgknaa", sum := "d5f72196b4d7fb8e2e96192ae19ef6147c09caa5df62e59cdf90b845ee33d04f", func := "cuboid/cuboidlaw14.SlabLeast", spec := "slabLeast", apart := false, narrowed := true }
def SlabLeastUptoSaid : Prop := slabLeastUptoRow.holds Try.pinned (OpenSpec.upto slabLeastSpec)

/-- 'cuboidlaw14.SlabPlays', WHERE WHAT IT READS IS OF BULK AT MOST 1048576: true; the input reads as it did. -/
def slabPlaysUptoRow : OpenClaim := { program := "ytbppemcdphgknaa", sum := "d5f72196b4d7fb8e2e96192ae19ef6147c09caa5df62e59cdf90b845ee33d04f", func := "cuboid/cuboidlaw14.SlabPlays", spec := "slabPlays", apart := false, narrowed := true }
def SlabPlaysUptoSaid : Prop := slabPlaysUptoRow.holds Try.pinned (OpenSpec.upto slabPlaysSpec)

/-- 'cuboidlaw14.SlabApart', WHERE WHAT IT READS IS OF BULK AT MOST 1048576: true; the input reads as it did. -/
def slabApartUptoRow : OpenClaim := { program := "ytbppemcdphgknaa", sum := "d5f72196b4d7fb8e2e96192ae19ef6147c09caa5df62e59cdf90b845ee33d04f", func := "cuboid/cuboidlaw14.SlabApart", spec := "slabApart", apart := false, narrowed := true }
def SlabApartUptoSaid : Prop := slabApartUptoRow.holds Try.pinned (OpenSpec.upto slabApartSpec)

/-- 'cuboidlaw14.SlabCopies', WHERE WHAT IT READS IS OF BULK AT MOST 1048576: true; the input reads as it did. -/
def slabCopiesUptoRow : OpenClaim := { program := "ytbppemcdphgknaa", sum := "d5f72196b4d7fb8e2e96192ae19ef6147c09caa5df62e59cdf90b845ee33d04f", func := "cuboid/cuboidlaw14.SlabCopies", spec := "slabCopies", apart := false, narrowed := true }
def SlabCopiesUptoSaid : Prop := slabCopiesUptoRow.holds Try.pinned (OpenSpec.upto slabCopiesSpec)

/-- 'cuboidlaw16.TreePlays', WHERE WHAT IT READS IS OF BULK AT MOST 1048576: true; the input reads as it did. -/
def treePlaysUptoRow : OpenClaim := { program := "ytbppemcdphgknaa", sum := "d5f72196b4d7fb8e2e96192ae19ef6147c09caa5df62e59cdf90b845ee33d04f", func := "cuboid/cuboidlaw16.TreePlays", spec := "treePlays", recurses := true, apart := false, narrowed := true }
def TreePlaysUptoSaid : Prop := treePlaysUptoRow.holds Try.pinned (OpenSpec.upto treePlaysSpec)

/-- 'cuboidlaw16.TreeWalk', WHERE WHAT IT READS IS OF BULK AT MOST 1048576: true; the input reads as it did. -/
def treeWalkUptoRow : OpenClaim := { program := "ytbppemcdphgknaa", sum := "d5f72196b4d7fb8e2e96192ae19ef6147c09caa5df62e59cdf90b845ee33d04f", func := "cuboid/cuboidlaw16.TreeWalk", spec := "treeWalk", recurses := true, apart := false, narrowed := true }
def TreeWalkUptoSaid : Prop := treeWalkUptoRow.holds Try.pinned (OpenSpec.upto treeWalkSpec)

/-- 'cuboidlaw16.TreeOrders', WHERE WHAT IT READS IS OF BULK AT MOST 1048576: true; the input reads as it did. -/
def treeOrdersUptoRow : OpenClaim := { program := "ytbppemcdphgknaa", sum := "d5f72196b4d7fb8e2e96192ae19ef6147c09caa5df62e59cdf90b845ee33d04f", func := "cuboid/cuboidlaw16.TreeOrders", spec := "treeOrders", recurses := true, apart := false, narrowed := true }
def TreeOrdersUptoSaid : Prop := treeOrdersUptoRow.holds Try.pinned (OpenSpec.upto treeOrdersSpec)

/-- 'cuboidlaw16.TreeDrains', WHERE WHAT IT READS IS OF BULK AT MOST 1048576: true; the input reads as it did. -/
def treeDrainsUptoRow : OpenClaim := { program := "ytbppemcdphgknaa", sum := "d5f72196b4d7fb8e2e96192ae19ef6147c09caa5df62e59cdf90b845ee33d04f", func := "cuboid/cuboidlaw16.TreeDrains", spec := "treeDrains", recurses := true, apart := false, narrowed := true }
def TreeDrainsUptoSaid : Prop := treeDrainsUptoRow.holds Try.pinned (OpenSpec.upto treeDrainsSpec)

/-- 'cuboidlaw16.TreeDeep', WHERE WHAT IT READS IS OF BULK AT MOST 1048576: true; the input reads as it did. -/
def treeDeepUptoRow : OpenClaim := { program := "ytbppemcdphgknaa", sum := "d5f72196b4d7fb8e2e96192ae19ef6147c09caa5df62e59cdf90b845ee33d04f", func := "cuboid/cuboidlaw16.TreeDeep", spec := "treeDeep", recurses := true, apart := false, narrowed := true }
def TreeDeepUptoSaid : Prop := treeDeepUptoRow.holds Try.pinned (OpenSpec.upto treeDeepSpec)

end Rows
end Go.Proofs.Ytbppemcdphgknaa
