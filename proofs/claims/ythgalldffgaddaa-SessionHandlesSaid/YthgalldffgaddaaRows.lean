/-
  No cell of these rows narrows 'for every input' (looked for: loops, veiled, ifaces, maps, wideKeys, modest, calm, conditions, laid).
  DERIVED. THE GIVEN ROWS OF THIS SEAT. 5 by the template 'for every input the law returns true; each argument reads behind the call as it read before'; 0 by the template 'total and deterministic' (their statements: YthgalldffgaddaaTotals.lean).
  GIVEN WITH THE SEED: the statements are not yours to turn. If you find one false, say at which input.
  Laid BY PROGRAM, IN A SANDBOX (cutbox-rows.mjs): the forced cells as the released guide's own fill.sh prints them over the translation 9eac3bfa10888763… (all of the seat's roots in one cut). By AI agents, Wed Nov 11 2026. No macro, syntax, notation, axiom, sorry.
-/
import Derived.Test.YthgalldffgaddaaChecked
import GoSem.Claim
import GoSem.ClaimJoined
import GoSem.ClaimMapViews
import Derived.JoinedTies
import Derived.KernelRfl
namespace Go.Proofs.Ythgalldffgaddaa
/- THE CELL 'sum', in the pinned program and in every row, IS THE sha256 OF THE DUMP (.gsa) THAT YthgalldffgaddaaProg.lean LOADS. Nothing in Lean hashes anything: it is a label: what it is worth is what the hold of that sum in a sandbox is worth. -/
noncomputable def Try.pinned : Pinned := { name := "ythgalldffgaddaa", sum := "9eac3bfa10888763cc6954a68e41ce933bf83069ca681397cd0ea05a9e18aa67", checked := Try.checked }
namespace Rows
def none {H : Type} : Left H := { results := [], args := [] }

/-- 'cuboidlaw24.SessionPlays': WHATEVER THE INPUT: true; the input reads as it did. -/
def sessionPlaysSpec : ChangeSpec := { name := "sessionPlays", fn := fun _ => fun
  | [d1, d2, d3] => { results := [.lit (.bool true)], args := [d1, d2, d3] }
  | _ => none }
def sessionPlaysRow : OpenClaim := { program := "ythgalldffgaddaa", sum := "9eac3bfa10888763cc6954a68e41ce933bf83069ca681397cd0ea05a9e18aa67", func := "cuboid/cuboidlaw24.SessionPlays", spec := "sessionPlays", apart := false }
def SessionPlaysSaid : Prop := sessionPlaysRow.holds Try.pinned (OpenSpec.ofChange sessionPlaysSpec)

/-- ITS FALSE NEIGHBOUR: 'it returns false'. Refute it at one input. -/
def sessionPlaysWrong : ChangeSpec := { name := "sessionPlays", fn := fun _ => fun
  | [d1, d2, d3] => { results := [.lit (.bool false)], args := [d1, d2, d3] }
  | _ => none }
def SessionPlaysWrongFalsely : Prop := sessionPlaysRow.holds Try.pinned (OpenSpec.ofChange sessionPlaysWrong)

/-- 'cuboidlaw24.SessionOver': WHATEVER THE INPUT: true; the input reads as it did. -/
def sessionOverSpec : ChangeSpec := { name := "sessionOver", fn := fun _ => fun
  | [d1, d2] => { results := [.lit (.bool true)], args := [d1, d2] }
  | _ => none }
def sessionOverRow : OpenClaim := { program := "ythgalldffgaddaa", sum := "9eac3bfa10888763cc6954a68e41ce933bf83069ca681397cd0ea05a9e18aa67", func := "cuboid/cuboidlaw24.SessionOver", spec := "sessionOver", apart := false }
def SessionOverSaid : Prop := sessionOverRow.holds Try.pinned (OpenSpec.ofChange sessionOverSpec)

/-- ITS FALSE NEIGHBOUR: 'it returns false'. Refute it at one input. -/
def sessionOverWrong : ChangeSpec := { name := "sessionOver", fn := fun _ => fun
  | [d1, d2] => { results := [.lit (.bool false)], args := [d1, d2] }
  | _ => none }
def SessionOverWrongFalsely : Prop := sessionOverRow.holds Try.pinned (OpenSpec.ofChange sessionOverWrong)

/-- 'cuboidlaw24.SessionApart': WHATEVER THE INPUT: true; the input reads as it did. -/
def sessionApartSpec : ChangeSpec := { name := "sessionApart", fn := fun _ => fun
  | [d1, d2, d3] => { results := [.lit (.bool true)], args := [d1, d2, d3] }
  | _ => none }
def sessionApartRow : OpenClaim := { program := "ythgalldffgaddaa", sum := "9eac3bfa10888763cc6954a68e41ce933bf83069ca681397cd0ea05a9e18aa67", func := "cuboid/cuboidlaw24.SessionApart", spec := "sessionApart", apart := false }
def SessionApartSaid : Prop := sessionApartRow.holds Try.pinned (OpenSpec.ofChange sessionApartSpec)

/-- ITS FALSE NEIGHBOUR: 'it returns false'. Refute it at one input. -/
def sessionApartWrong : ChangeSpec := { name := "sessionApart", fn := fun _ => fun
  | [d1, d2, d3] => { results := [.lit (.bool false)], args := [d1, d2, d3] }
  | _ => none }
def SessionApartWrongFalsely : Prop := sessionApartRow.holds Try.pinned (OpenSpec.ofChange sessionApartWrong)

/-- 'cuboidlaw24.SessionHandles': WHATEVER THE INPUT: true; the input reads as it did. -/
def sessionHandlesSpec : ChangeSpec := { name := "sessionHandles", fn := fun _ => fun
  | [d] => { results := [.lit (.bool true)], args := [d] }
  | _ => none }
def sessionHandlesRow : OpenClaim := { program := "ythgalldffgaddaa", sum := "9eac3bfa10888763cc6954a68e41ce933bf83069ca681397cd0ea05a9e18aa67", func := "cuboid/cuboidlaw24.SessionHandles", spec := "sessionHandles", apart := false }
def SessionHandlesSaid : Prop := sessionHandlesRow.holds Try.pinned (OpenSpec.ofChange sessionHandlesSpec)

/-- ITS FALSE NEIGHBOUR: 'it returns false'. Refute it at one input. -/
def sessionHandlesWrong : ChangeSpec := { name := "sessionHandles", fn := fun _ => fun
  | [d] => { results := [.lit (.bool false)], args := [d] }
  | _ => none }
def SessionHandlesWrongFalsely : Prop := sessionHandlesRow.holds Try.pinned (OpenSpec.ofChange sessionHandlesWrong)

/-- 'cuboidlaw24.SessionTime': WHATEVER THE INPUT: true; the input reads as it did. -/
def sessionTimeSpec : ChangeSpec := { name := "sessionTime", fn := fun _ => fun
  | [d1, d2] => { results := [.lit (.bool true)], args := [d1, d2] }
  | _ => none }
def sessionTimeRow : OpenClaim := { program := "ythgalldffgaddaa", sum := "9eac3bfa10888763cc6954a68e41ce933bf83069ca681397cd0ea05a9e18aa67", func := "cuboid/cuboidlaw24.SessionTime", spec := "sessionTime", apart := false }
def SessionTimeSaid : Prop := sessionTimeRow.holds Try.pinned (OpenSpec.ofChange sessionTimeSpec)

/-- ITS FALSE NEIGHBOUR: 'it returns false'. Refute it at one input. -/
def sessionTimeWrong : ChangeSpec := { name := "sessionTime", fn := fun _ => fun
  | [d1, d2] => { results := [.lit (.bool false)], args := [d1, d2] }
  | _ => none }
def SessionTimeWrongFalsely : Prop := sessionTimeRow.holds Try.pinned (OpenSpec.ofChange sessionTimeWrong)

/- THE SECOND FORM. 'bulk': how many values and letters a reading holds, each counted each time it is reached (what is shared counts as often as it is met; a slice's spare places count too). A statement '..UptoSaid' is the law's where the arguments, and the package variables that the reading takes, are together of bulk at most 1048576: NARROWER than '..Said'. Prove '..Said' where nothing that the law and all that it calls make is longer than what came in: it says more and counts as full. Else prove '..UptoSaid'. A law counts once. -/
mutual
def uptoBulk {H : Type} : DataW H → Nat
  | .lit (.string bytes) => bytes.length + 1
  | .lit _ => 1
  | .nil => 1
  | .ptr d => uptoBulk d + 1
  | .slice elems spare => uptoBulkAll elems + uptoBulkAll spare + 1
  | .agg parts => uptoBulkAll parts + 1
  | .iface _ d => uptoBulk d + 1
  | .map entries => uptoBulkEntries entries + 1
  | .held _ => 1
def uptoBulkAll {H : Type} : List (DataW H) → Nat
  | [] => 0
  | d :: r => uptoBulk d + uptoBulkAll r
def uptoBulkEntries {H : Type} : List (Lit × DataW H) → Nat
  | [] => 0
  | x :: r => uptoBulkEntry x + uptoBulkEntries r
def uptoBulkEntry {H : Type} : Lit × DataW H → Nat
  | (.string bytes, d) => bytes.length + uptoBulk d + 1
  | (_, d) => uptoBulk d + 1
 end
def uptoSmall : (H : Type) → List (DataW H) → Bool := fun _ ds => decide (uptoBulkAll ds ≤ 1048576)
def OpenSpec.upto (s : _root_.Go.ChangeSpec) : _root_.Go.OpenSpec := { _root_.Go.OpenSpec.ofChange s with cond := some uptoSmall }

/-- 'cuboidlaw24.SessionPlays', WHERE WHAT IT READS IS OF BULK AT MOST 1048576: true; the input reads as it did. -/
def sessionPlaysUptoRow : OpenClaim := { program := "ythgalldffgaddaa", sum := "9eac3bfa10888763cc6954a68e41ce933bf83069ca681397cd0ea05a9e18aa67", func := "cuboid/cuboidlaw24.SessionPlays", spec := "sessionPlays", apart := false, narrowed := true }
def SessionPlaysUptoSaid : Prop := sessionPlaysUptoRow.holds Try.pinned (OpenSpec.upto sessionPlaysSpec)

/-- 'cuboidlaw24.SessionOver', WHERE WHAT IT READS IS OF BULK AT MOST 1048576: true; the input reads as it did. -/
def sessionOverUptoRow : OpenClaim := { program := "ythgalldffgaddaa", sum := "9eac3bfa10888763cc6954a68e41ce933bf83069ca681397cd0ea05a9e18aa67", func := "cuboid/cuboidlaw24.SessionOver", spec := "sessionOver", apart := false, narrowed := true }
def SessionOverUptoSaid : Prop := sessionOverUptoRow.holds Try.pinned (OpenSpec.upto sessionOverSpec)

/-- 'cuboidlaw24.SessionApart', WHERE WHAT IT READS IS OF BULK AT MOST 1048576: true; the input reads as it did. -/
def sessionApartUptoRow : OpenClaim := { program := "ythgalldffgaddaa", sum := "9eac3bfa10888763cc6954a68e41ce933bf83069ca681397cd0ea05a9e18aa67", func := "cuboid/cuboidlaw24.SessionApart", spec := "sessionApart", apart := false, narrowed := true }
def SessionApartUptoSaid : Prop := sessionApartUptoRow.holds Try.pinned (OpenSpec.upto sessionApartSpec)

/-- 'cuboidlaw24.SessionHandles', WHERE WHAT IT READS IS OF BULK AT MOST 1048576: true; the input reads as it did. -/
def sessionHandlesUptoRow : OpenClaim := { program := "ythgalldffgaddaa", sum := "9eac3bfa10888763cc6954a68e41ce933bf83069ca681397cd0ea05a9e18aa67", func := "cuboid/cuboidlaw24.SessionHandles", spec := "sessionHandles", apart := false, narrowed := true }
def SessionHandlesUptoSaid : Prop := sessionHandlesUptoRow.holds Try.pinned (OpenSpec.upto sessionHandlesSpec)

/-- 'cuboidlaw24.SessionTime', WHERE WHAT IT READS IS OF BULK AT MOST 1048576: true; the input reads as it did. -/
def sessionTimeUptoRow : OpenClaim := { program := "ythgalldffgaddaa", sum := "9eac3bfa10888763cc6954a68e41ce933bf83069ca681397cd0ea05a9e18aa67", func := "cuboid/cuboidlaw24.SessionTime", spec := "sessionTime", apart := false, narrowed := true }
def SessionTimeUptoSaid : Prop := sessionTimeUptoRow.holds Try.pinned (OpenSpec.upto sessionTimeSpec)

end Rows
end Go.Proofs.Ythgalldffgaddaa
