/-
  No cell of these rows narrows 'for every input' (looked for: loops, veiled, ifaces, maps, wideKeys, modest, calm, conditions, laid).
  DERIVED. THE GIVEN ROWS OF THIS SEAT. 6 by the template 'for every input the law returns true; each argument reads behind the call as it read before'; 0 by the template 'total and deterministic' (their statements: YtccnfkblkihgjaaTotals.lean).
  GIVEN WITH THE SEED: the statements are not yours to turn. If you find one false, say at which input.
  Laid BY PROGRAM, IN A SANDBOX (cutbox-rows.mjs): the forced cells as the released guide's own fill.sh prints them over the translation 8a286b09ece17bd6… (all of the seat's roots in one cut). By AI agents, Wed Nov 11 2026. No macro, syntax, notation, axiom, sorry.
-/
import Derived.Test.YtccnfkblkihgjaaChecked
import GoSem.Claim
import GoSem.ClaimJoined
import GoSem.ClaimMapViews
import Derived.JoinedTies
import Derived.KernelRfl
namespace Go.Proofs.Ytccnfkblkihgjaa
/- THE CELL 'sum', in the pinned program and in every row, IS THE sha256 OF THE DUMP (.gsa) THAT YtccnfkblkihgjaaProg.lean LOADS. Nothing in Lean hashes anything: it is a label: what it is worth is what the hold of that sum in a sandbox is worth. -/
noncomputable def Try.pinned : Pinned := { name := "ytccnfkblkihgjaa", sum := "8a286b09ece17bd628d8526cedb5143433b858a68ce77ec210abb4eb3c2caf3d", checked := Try.checked }
namespace Rows
def none {H : Type} : Left H := { results := [], args := [] }

/-- 'cuboidlaw01.CalcTotals': WHATEVER THE INPUT: true; the input reads as it did. -/
def calcTotalsSpec : ChangeSpec := { name := "calcTotals", fn := fun _ => fun
  | [d] => { results := [.lit (.bool true)], args := [d] }
  | _ => none }
def calcTotalsRow : OpenClaim := { program := "ytccnfkblkihgjaa", sum := "8a286b09ece17bd628d8526cedb5143433b858a68ce77ec210abb4eb3c2caf3d", func := "cuboid/cuboidlaw01.CalcTotals", spec := "calcTotals", inPlace := ["math/bits.Sub64", "math/bits.Add64"], apart := false }
def CalcTotalsSaid : Prop := calcTotalsRow.holds Try.pinned (OpenSpec.ofChange calcTotalsSpec)

/-- ITS FALSE NEIGHBOUR: 'it returns false'. Refute it at one input. -/
def calcTotalsWrong : ChangeSpec := { name := "calcTotals", fn := fun _ => fun
  | [d] => { results := [.lit (.bool false)], args := [d] }
  | _ => none }
def CalcTotalsWrongFalsely : Prop := calcTotalsRow.holds Try.pinned (OpenSpec.ofChange calcTotalsWrong)

/-- 'cuboidlaw01.CalcProducts': WHATEVER THE INPUT: true; the input reads as it did. -/
def calcProductsSpec : ChangeSpec := { name := "calcProducts", fn := fun _ => fun
  | [d] => { results := [.lit (.bool true)], args := [d] }
  | _ => none }
def calcProductsRow : OpenClaim := { program := "ytccnfkblkihgjaa", sum := "8a286b09ece17bd628d8526cedb5143433b858a68ce77ec210abb4eb3c2caf3d", func := "cuboid/cuboidlaw01.CalcProducts", spec := "calcProducts", inPlace := ["math/bits.Sub64", "math/bits.Add64"], apart := false }
def CalcProductsSaid : Prop := calcProductsRow.holds Try.pinned (OpenSpec.ofChange calcProductsSpec)

/-- ITS FALSE NEIGHBOUR: 'it returns false'. Refute it at one input. -/
def calcProductsWrong : ChangeSpec := { name := "calcProducts", fn := fun _ => fun
  | [d] => { results := [.lit (.bool false)], args := [d] }
  | _ => none }
def CalcProductsWrongFalsely : Prop := calcProductsRow.holds Try.pinned (OpenSpec.ofChange calcProductsWrong)

/-- 'cuboidlaw01.CalcParts': WHATEVER THE INPUT: true; the input reads as it did. -/
def calcPartsSpec : ChangeSpec := { name := "calcParts", fn := fun _ => fun
  | [d1, d2] => { results := [.lit (.bool true)], args := [d1, d2] }
  | _ => none }
def calcPartsRow : OpenClaim := { program := "ytccnfkblkihgjaa", sum := "8a286b09ece17bd628d8526cedb5143433b858a68ce77ec210abb4eb3c2caf3d", func := "cuboid/cuboidlaw01.CalcParts", spec := "calcParts", inPlace := ["math/bits.Sub64", "math/bits.Add64"], apart := false }
def CalcPartsSaid : Prop := calcPartsRow.holds Try.pinned (OpenSpec.ofChange calcPartsSpec)

/-- ITS FALSE NEIGHBOUR: 'it returns false'. Refute it at one input. -/
def calcPartsWrong : ChangeSpec := { name := "calcParts", fn := fun _ => fun
  | [d1, d2] => { results := [.lit (.bool false)], args := [d1, d2] }
  | _ => none }
def CalcPartsWrongFalsely : Prop := calcPartsRow.holds Try.pinned (OpenSpec.ofChange calcPartsWrong)

/-- 'cuboidlaw01.CalcOrders': WHATEVER THE INPUT: true; the input reads as it did. -/
def calcOrdersSpec : ChangeSpec := { name := "calcOrders", fn := fun _ => fun
  | [d1, d2, d3] => { results := [.lit (.bool true)], args := [d1, d2, d3] }
  | _ => none }
def calcOrdersRow : OpenClaim := { program := "ytccnfkblkihgjaa", sum := "8a286b09ece17bd628d8526cedb5143433b858a68ce77ec210abb4eb3c2caf3d", func := "cuboid/cuboidlaw01.CalcOrders", spec := "calcOrders", inPlace := ["math/bits.Sub64", "math/bits.Add64"], apart := false }
def CalcOrdersSaid : Prop := calcOrdersRow.holds Try.pinned (OpenSpec.ofChange calcOrdersSpec)

/-- ITS FALSE NEIGHBOUR: 'it returns false'. Refute it at one input. -/
def calcOrdersWrong : ChangeSpec := { name := "calcOrders", fn := fun _ => fun
  | [d1, d2, d3] => { results := [.lit (.bool false)], args := [d1, d2, d3] }
  | _ => none }
def CalcOrdersWrongFalsely : Prop := calcOrdersRow.holds Try.pinned (OpenSpec.ofChange calcOrdersWrong)

/-- 'cuboidlaw01.CalcTells': WHATEVER THE INPUT: true; the input reads as it did. -/
def calcTellsSpec : ChangeSpec := { name := "calcTells", fn := fun _ => fun
  | [d1, d2] => { results := [.lit (.bool true)], args := [d1, d2] }
  | _ => none }
def calcTellsRow : OpenClaim := { program := "ytccnfkblkihgjaa", sum := "8a286b09ece17bd628d8526cedb5143433b858a68ce77ec210abb4eb3c2caf3d", func := "cuboid/cuboidlaw01.CalcTells", spec := "calcTells", inPlace := ["math/bits.Sub64", "math/bits.Add64"], apart := false }
def CalcTellsSaid : Prop := calcTellsRow.holds Try.pinned (OpenSpec.ofChange calcTellsSpec)

/-- ITS FALSE NEIGHBOUR: 'it returns false'. Refute it at one input. -/
def calcTellsWrong : ChangeSpec := { name := "calcTells", fn := fun _ => fun
  | [d1, d2] => { results := [.lit (.bool false)], args := [d1, d2] }
  | _ => none }
def CalcTellsWrongFalsely : Prop := calcTellsRow.holds Try.pinned (OpenSpec.ofChange calcTellsWrong)

/-- 'cuboidlaw01.CalcRing': WHATEVER THE INPUT: true; the input reads as it did. -/
def calcRingSpec : ChangeSpec := { name := "calcRing", fn := fun _ => fun
  | [d1, d2] => { results := [.lit (.bool true)], args := [d1, d2] }
  | _ => none }
def calcRingRow : OpenClaim := { program := "ytccnfkblkihgjaa", sum := "8a286b09ece17bd628d8526cedb5143433b858a68ce77ec210abb4eb3c2caf3d", func := "cuboid/cuboidlaw01.CalcRing", spec := "calcRing", inPlace := ["math/bits.Sub64", "math/bits.Add64"], apart := false }
def CalcRingSaid : Prop := calcRingRow.holds Try.pinned (OpenSpec.ofChange calcRingSpec)

/-- ITS FALSE NEIGHBOUR: 'it returns false'. Refute it at one input. -/
def calcRingWrong : ChangeSpec := { name := "calcRing", fn := fun _ => fun
  | [d1, d2] => { results := [.lit (.bool false)], args := [d1, d2] }
  | _ => none }
def CalcRingWrongFalsely : Prop := calcRingRow.holds Try.pinned (OpenSpec.ofChange calcRingWrong)

/- THE SECOND FORM. 'bulk': how many values and letters a reading holds, each counted each time it is reached (what is shared counts as often as it is met; a slice's spare places count too). A statement '..UptoSaid' is the law's where the arguments, and the package variables that the reading takes, are together of bulk at most 1048576: NARROWER than '..Said'. Prove '..Said' where nothing that the law and all that it calls make is longer than what came in: it says more and counts as full. Else prove '..UptoSaid'. A law counts once. -/
mutual
def uptoBulk {H : Type} : DataW H → Nat
  | .lit (.string bytes) => bytes.length + 1
  | .lit _ => 1
  | .nil => 1
  | .ptr d => uptoBulk d + 1
  | .slice elems spare => uptoBulkAll elems + uptoBulkAll spare + 1
  | .agg parts => uptoBulkAll parts + 1
  | .iface _ d => uptoBulk d + 1
  | .map entries => uptoBulkEntries entries + 1
  | .held _ => 1
def uptoBulkAll {H : Type} : List (DataW H) → Nat
  | [] => 0
  | d :: r => uptoBulk d + uptoBulkAll r
def uptoBulkEntries {H : Type} : List (Lit × DataW H) → Nat
  | [] => 0
  | x :: r => uptoBulkEntry x + uptoBulkEntries r
def uptoBulkEntry {H : Type} : Lit × DataW H → Nat
  | (.string bytes, d) => bytes.length + uptoBulk d + 1
  | (_, d) => uptoBulk d + 1
 end
def uptoSmall : (H : Type) → List (DataW H) → Bool := fun _ ds => decide (uptoBulkAll ds ≤ 1048576)
def OpenSpec.upto (s : _root_.Go.ChangeSpec) : _root_.Go.OpenSpec := { _root_.Go.OpenSpec.ofChange s with cond := some uptoSmall }

/-- 'cuboidlaw01.CalcTotals', WHERE WHAT IT READS IS OF BULK AT MOST 1048576: true; the input reads as it did. -/
def calcTotalsUptoRow : OpenClaim := { program := "ytccnfkblkihgjaa", sum := "8a286b09ece17bd628d8526cedb5143433b858a68ce77ec210abb4eb3c2caf3d", func := "cuboid/cuboidlaw01.CalcTotals", spec := "calcTotals", inPlace := ["math/bits.Sub64", "math/bits.Add64"], apart := false, narrowed := true }
def CalcTotalsUptoSaid : Prop := calcTotalsUptoRow.holds Try.pinned (OpenSpec.upto calcTotalsSpec)

/-- 'cuboidlaw01.CalcProducts', WHERE WHAT IT READS IS OF BULK AT MOST 1048576: true; the input reads as it did. -/
def calcProductsUptoRow : OpenClaim := { program := "ytccnfkblkihgjaa", sum := "8a286b09ece17bd628d8526cedb5143433b858a68ce77ec210abb4eb3c2caf3d", func := "cuboid/cuboidlaw01.CalcProducts", spec := "calcProducts", inPlace := ["math/bits.Sub64", "math/bits.Add64"], apart := false, narrowed := true }
def CalcProductsUptoSaid : Prop := calcProductsUptoRow.holds Try.pinned (OpenSpec.upto calcProductsSpec)

/-- 'cuboidlaw01.CalcParts', WHERE WHAT IT READS IS OF BULK AT MOST 1048576: true; the input reads as it did. -/
def calcPartsUptoRow : OpenClaim := { program := "ytccnfkblkihgjaa", sum := "8a286b09ece17bd628d8526cedb5143433b858a68ce77ec210abb4eb3c2caf3d", func := "cuboid/cuboidlaw01.CalcParts", spec := "calcParts", inPlace := ["math/bits.Sub64", "math/bits.Add64"], apart := false, narrowed := true }
def CalcPartsUptoSaid : Prop := calcPartsUptoRow.holds Try.pinned (OpenSpec.upto calcPartsSpec)

/-- 'cuboidlaw01.CalcOrders', WHERE WHAT IT READS IS OF BULK AT MOST 1048576: true; the input reads as it did. -/
def calcOrdersUptoRow : OpenClaim := { program := "ytccnfkblkihgjaa", sum := "8a286b09ece17bd628d8526cedb5143433b858a68ce77ec210abb4eb3c2caf3d", func := "cuboid/cuboidlaw01.CalcOrders", spec := "calcOrders", inPlace := ["math/bits.Sub64", "math/bits.Add64"], apart := false, narrowed := true }
def CalcOrdersUptoSaid : Prop := calcOrdersUptoRow.holds Try.pinned (OpenSpec.upto calcOrdersSpec)

/-- 'cuboidlaw01.CalcTells', WHERE WHAT IT READS IS OF BULK AT MOST 1048576: true; the input reads as it did. -/
def calcTellsUptoRow : OpenClaim := { program := "ytccnfkblkihgjaa", sum := "8a286b09ece17bd628d8526cedb5143433b858a68ce77ec210abb4eb3c2caf3d", func := "cuboid/cuboidlaw01.CalcTells", spec := "calcTells", inPlace := ["math/bits.Sub64", "math/bits.Add64"], apart := false, narrowed := true }
def CalcTellsUptoSaid : Prop := calcTellsUptoRow.holds Try.pinned (OpenSpec.upto calcTellsSpec)

/-- 'cuboidlaw01.CalcRing', WHERE WHAT IT READS IS OF BULK AT MOST 1048576: true; the input reads as it did. -/
def calcRingUptoRow : OpenClaim := { program := "ytccnfkblkihgjaa", sum := "8a286b09ece17bd628d8526cedb5143433b858a68ce77ec210abb4eb3c2caf3d", func := "cuboid/cuboidlaw01.CalcRing", spec := "calcRing", inPlace := ["math/bits.Sub64", "math/bits.Add64"], apart := false, narrowed := true }
def CalcRingUptoSaid : Prop := calcRingUptoRow.holds Try.pinned (OpenSpec.upto calcRingSpec)

end Rows
end Go.Proofs.Ytccnfkblkihgjaa
