/-
  No cell of these rows narrows 'for every input' (looked for: loops, veiled, ifaces, maps, wideKeys, modest, calm, conditions, laid).
  DERIVED. THE GIVEN ROWS OF THIS SEAT. 7 by the template 'for every input the law returns true; each argument reads behind the call as it read before'; 0 by the template 'total and deterministic' (their statements: YtgakcbdahbagkaaTotals.lean).
  GIVEN WITH THE SEED: the statements are not yours to turn. If you find one false, say at which input.
  Laid BY PROGRAM, IN A SANDBOX (cutbox-rows.mjs): the forced cells as the released guide's own fill.sh prints them over the translation 1d2d693dae5b054e… (all of the seat's roots in one cut). By AI agents, Wed Nov 11 2026. No macro, syntax, notation, axiom, sorry.
-/
import Derived.Test.YtgakcbdahbagkaaChecked
import GoSem.Claim
import GoSem.ClaimJoined
import GoSem.ClaimMapViews
import Derived.JoinedTies
import Derived.KernelRfl
namespace Go.Proofs.Ytgakcbdahbagkaa
/- THE CELL 'sum', in the pinned program and in every row, IS THE sha256 OF THE DUMP (.gsa) THAT YtgakcbdahbagkaaProg.lean LOADS. Nothing in Lean hashes anything: it is a label: what it is worth is what the hold of that sum in a sandbox is worth. -/
noncomputable def Try.pinned : Pinned := { name := "ytgakcbdahbagkaa", sum := "1d2d693dae5b054e6dd990e1f6f05cde1b667027a828332eaa8007550f7643b5", checked := Try.checked }
namespace Rows
def none {H : Type} : Left H := { results := [], args := [] }

/-- 'narrowslaw07.PredicateOrientation': WHATEVER THE INPUT: true; the input reads as it did. -/
def predicateOrientationSpec : ChangeSpec := { name := "predicateOrientation", fn := fun _ => fun
  | [d1, d2, d3, d4] => { results := [.lit (.bool true)], args := [d1, d2, d3, d4] }
  | _ => none }
def predicateOrientationRow : OpenClaim := { program := "ytgakcbdahbagkaa", sum := "1d2d693dae5b054e6dd990e1f6f05cde1b667027a828332eaa8007550f7643b5", func := "narrows/narrowslaw07.PredicateOrientation", spec := "predicateOrientation", unfollowed := true, recurses := true, named := ["math/bits.overflowError"], apart := false }
def PredicateOrientationSaid : Prop := predicateOrientationRow.holds Try.pinned (OpenSpec.ofChange predicateOrientationSpec)

/-- ITS FALSE NEIGHBOUR: 'it returns false'. Refute it at one input. -/
def predicateOrientationWrong : ChangeSpec := { name := "predicateOrientation", fn := fun _ => fun
  | [d1, d2, d3, d4] => { results := [.lit (.bool false)], args := [d1, d2, d3, d4] }
  | _ => none }
def PredicateOrientationWrongFalsely : Prop := predicateOrientationRow.holds Try.pinned (OpenSpec.ofChange predicateOrientationWrong)

/-- 'narrowslaw07.PredicateAngles': WHATEVER THE INPUT: true; the input reads as it did. -/
def predicateAnglesSpec : ChangeSpec := { name := "predicateAngles", fn := fun _ => fun
  | [d1, d2, d3, d4] => { results := [.lit (.bool true)], args := [d1, d2, d3, d4] }
  | _ => none }
def predicateAnglesRow : OpenClaim := { program := "ytgakcbdahbagkaa", sum := "1d2d693dae5b054e6dd990e1f6f05cde1b667027a828332eaa8007550f7643b5", func := "narrows/narrowslaw07.PredicateAngles", spec := "predicateAngles", unfollowed := true, recurses := true, named := ["math/bits.overflowError"], apart := false }
def PredicateAnglesSaid : Prop := predicateAnglesRow.holds Try.pinned (OpenSpec.ofChange predicateAnglesSpec)

/-- ITS FALSE NEIGHBOUR: 'it returns false'. Refute it at one input. -/
def predicateAnglesWrong : ChangeSpec := { name := "predicateAngles", fn := fun _ => fun
  | [d1, d2, d3, d4] => { results := [.lit (.bool false)], args := [d1, d2, d3, d4] }
  | _ => none }
def PredicateAnglesWrongFalsely : Prop := predicateAnglesRow.holds Try.pinned (OpenSpec.ofChange predicateAnglesWrong)

/-- 'narrowslaw07.PredicateWedges': WHATEVER THE INPUT: true; the input reads as it did. -/
def predicateWedgesSpec : ChangeSpec := { name := "predicateWedges", fn := fun _ => fun
  | [d1, d2, d3] => { results := [.lit (.bool true)], args := [d1, d2, d3] }
  | _ => none }
def predicateWedgesRow : OpenClaim := { program := "ytgakcbdahbagkaa", sum := "1d2d693dae5b054e6dd990e1f6f05cde1b667027a828332eaa8007550f7643b5", func := "narrows/narrowslaw07.PredicateWedges", spec := "predicateWedges", unfollowed := true, recurses := true, named := ["math/bits.overflowError"], apart := false }
def PredicateWedgesSaid : Prop := predicateWedgesRow.holds Try.pinned (OpenSpec.ofChange predicateWedgesSpec)

/-- ITS FALSE NEIGHBOUR: 'it returns false'. Refute it at one input. -/
def predicateWedgesWrong : ChangeSpec := { name := "predicateWedges", fn := fun _ => fun
  | [d1, d2, d3] => { results := [.lit (.bool false)], args := [d1, d2, d3] }
  | _ => none }
def PredicateWedgesWrongFalsely : Prop := predicateWedgesRow.holds Try.pinned (OpenSpec.ofChange predicateWedgesWrong)

/-- 'narrowslaw07.PredicateCircle': WHATEVER THE INPUT: true; the input reads as it did. -/
def predicateCircleSpec : ChangeSpec := { name := "predicateCircle", fn := fun _ => fun
  | [d1, d2, d3, d4] => { results := [.lit (.bool true)], args := [d1, d2, d3, d4] }
  | _ => none }
def predicateCircleRow : OpenClaim := { program := "ytgakcbdahbagkaa", sum := "1d2d693dae5b054e6dd990e1f6f05cde1b667027a828332eaa8007550f7643b5", func := "narrows/narrowslaw07.PredicateCircle", spec := "predicateCircle", unfollowed := true, recurses := true, named := ["math/bits.overflowError"], apart := false }
def PredicateCircleSaid : Prop := predicateCircleRow.holds Try.pinned (OpenSpec.ofChange predicateCircleSpec)

/-- ITS FALSE NEIGHBOUR: 'it returns false'. Refute it at one input. -/
def predicateCircleWrong : ChangeSpec := { name := "predicateCircle", fn := fun _ => fun
  | [d1, d2, d3, d4] => { results := [.lit (.bool false)], args := [d1, d2, d3, d4] }
  | _ => none }
def PredicateCircleWrongFalsely : Prop := predicateCircleRow.holds Try.pinned (OpenSpec.ofChange predicateCircleWrong)

/-- 'narrowslaw07.PredicateSorted': WHATEVER THE INPUT: true; the input reads as it did. -/
def predicateSortedSpec : ChangeSpec := { name := "predicateSorted", fn := fun _ => fun
  | [d] => { results := [.lit (.bool true)], args := [d] }
  | _ => none }
def predicateSortedRow : OpenClaim := { program := "ytgakcbdahbagkaa", sum := "1d2d693dae5b054e6dd990e1f6f05cde1b667027a828332eaa8007550f7643b5", func := "narrows/narrowslaw07.PredicateSorted", spec := "predicateSorted", unfollowed := true, recurses := true, named := ["math/bits.overflowError"], apart := false }
def PredicateSortedSaid : Prop := predicateSortedRow.holds Try.pinned (OpenSpec.ofChange predicateSortedSpec)

/-- ITS FALSE NEIGHBOUR: 'it returns false'. Refute it at one input. -/
def predicateSortedWrong : ChangeSpec := { name := "predicateSorted", fn := fun _ => fun
  | [d] => { results := [.lit (.bool false)], args := [d] }
  | _ => none }
def PredicateSortedWrongFalsely : Prop := predicateSortedRow.holds Try.pinned (OpenSpec.ofChange predicateSortedWrong)

/-- 'narrowslaw07.PredicateSegments': WHATEVER THE INPUT: true; the input reads as it did. -/
def predicateSegmentsSpec : ChangeSpec := { name := "predicateSegments", fn := fun _ => fun
  | [d1, d2, d3, d4] => { results := [.lit (.bool true)], args := [d1, d2, d3, d4] }
  | _ => none }
def predicateSegmentsRow : OpenClaim := { program := "ytgakcbdahbagkaa", sum := "1d2d693dae5b054e6dd990e1f6f05cde1b667027a828332eaa8007550f7643b5", func := "narrows/narrowslaw07.PredicateSegments", spec := "predicateSegments", unfollowed := true, recurses := true, named := ["math/bits.overflowError"], apart := false }
def PredicateSegmentsSaid : Prop := predicateSegmentsRow.holds Try.pinned (OpenSpec.ofChange predicateSegmentsSpec)

/-- ITS FALSE NEIGHBOUR: 'it returns false'. Refute it at one input. -/
def predicateSegmentsWrong : ChangeSpec := { name := "predicateSegments", fn := fun _ => fun
  | [d1, d2, d3, d4] => { results := [.lit (.bool false)], args := [d1, d2, d3, d4] }
  | _ => none }
def PredicateSegmentsWrongFalsely : Prop := predicateSegmentsRow.holds Try.pinned (OpenSpec.ofChange predicateSegmentsWrong)

/-- 'narrowslaw07.PredicateTriangle': WHATEVER THE INPUT: true; the input reads as it did. -/
def predicateTriangleSpec : ChangeSpec := { name := "predicateTriangle", fn := fun _ => fun
  | [d1, d2, d3, d4] => { results := [.lit (.bool true)], args := [d1, d2, d3, d4] }
  | _ => none }
def predicateTriangleRow : OpenClaim := { program := "ytgakcbdahbagkaa", sum := "1d2d693dae5b054e6dd990e1f6f05cde1b667027a828332eaa8007550f7643b5", func := "narrows/narrowslaw07.PredicateTriangle", spec := "predicateTriangle", unfollowed := true, recurses := true, named := ["math/bits.overflowError"], apart := false }
def PredicateTriangleSaid : Prop := predicateTriangleRow.holds Try.pinned (OpenSpec.ofChange predicateTriangleSpec)

/-- ITS FALSE NEIGHBOUR: 'it returns false'. Refute it at one input. -/
def predicateTriangleWrong : ChangeSpec := { name := "predicateTriangle", fn := fun _ => fun
  | [d1, d2, d3, d4] => { results := [.lit (.bool false)], args := [d1, d2, d3, d4] }
  | _ => none }
def PredicateTriangleWrongFalsely : Prop := predicateTriangleRow.holds Try.pinned (OpenSpec.ofChange predicateTriangleWrong)

/- THE SECOND FORM. 'bulk': how many values and letters a reading holds, each counted each time it is reached (what is shared counts as often as it is met; a slice's spare places count too). A statement '..UptoSaid' is the law's where the arguments, and the package variables that the reading takes, are together of bulk at most 1048576: NARROWER than '..Said'. Prove '..Said' where nothing that the law and all that it calls make is longer than what came in: it says more and counts as full. Else prove '..UptoSaid'. A law counts once. -/
mutual
def uptoBulk {H : Type} : DataW H → Nat
  | .lit (.string bytes) => bytes.length + 1
  | .lit _ => 1
  | .nil => 1
  | .ptr d => uptoBulk d + 1
  | .slice elems spare => uptoBulkAll elems + uptoBulkAll spare + 1
  | .agg parts => uptoBulkAll parts + 1
  | .iface _ d => uptoBulk d + 1
  | .map entries => uptoBulkEntries entries + 1
  | .held _ => 1
def uptoBulkAll {H : Type} : List (DataW H) → Nat
  | [] => 0
  | d :: r => uptoBulk d + uptoBulkAll r
def uptoBulkEntries {H : Type} : List (Lit × DataW H) → Nat
  | [] => 0
  | x :: r => uptoBulkEntry x + uptoBulkEntries r
def uptoBulkEntry {H : Type} : Lit × DataW H → Nat
  | (.string bytes, d) => bytes.length + uptoBulk d + 1
  | (_, d) => uptoBulk d + 1
 end
def uptoSmall : (H : Type) → List (DataW H) → Bool := fun _ ds => decide (uptoBulkAll ds ≤ 1048576)
def OpenSpec.upto (s : _root_.Go.ChangeSpec) : _root_.Go.OpenSpec := { _root_.Go.OpenSpec.ofChange s with cond := some uptoSmall }

/-- 'narrowslaw07.PredicateOrientation', WHERE WHAT IT READS IS OF BULK AT MOST 1048576: true; the input reads as it did. -/
def predicateOrientationUptoRow : OpenClaim := { program := "ytgakcbdahbagkaa", sum := "1d2d693dae5b054e6dd990e1f6f05cde1b667027a828332eaa8007550f7643b5", func := "narrows/narrowslaw07.PredicateOrientation", spec := "predicateOrientation", unfollowed := true, recurses := true, named := ["math/bits.overflowError"], apart := false, narrowed := true }
def PredicateOrientationUptoSaid : Prop := predicateOrientationUptoRow.holds Try.pinned (OpenSpec.upto predicateOrientationSpec)

/-- 'narrowslaw07.PredicateAngles', WHERE WHAT IT READS IS OF BULK AT MOST 1048576: true; the input reads as it did. -/
def predicateAnglesUptoRow : OpenClaim := { program := "ytgakcbdahbagkaa", sum := "1d2d693dae5b054e6dd990e1f6f05cde1b667027a828332eaa8007550f7643b5", func := "narrows/narrowslaw07.PredicateAngles", spec := "predicateAngles", unfollowed := true, recurses := true, named := ["math/bits.overflowError"], apart := false, narrowed := true }
def PredicateAnglesUptoSaid : Prop := predicateAnglesUptoRow.holds Try.pinned (OpenSpec.upto predicateAnglesSpec)

/-- 'narrowslaw07.PredicateWedges', WHERE WHAT IT READS IS OF BULK AT MOST 1048576: true; the input reads as it did. -/
def predicateWedgesUptoRow : OpenClaim := { program := "ytgakcbdahbagkaa", sum := "1d2d693dae5b054e6dd990e1f6f05cde1b667027a828332eaa8007550f7643b5", func := "narrows/narrowslaw07.PredicateWedges", spec := "predicateWedges", unfollowed := true, recurses := true, named := ["math/bits.overflowError"], apart := false, narrowed := true }
def PredicateWedgesUptoSaid : Prop := predicateWedgesUptoRow.holds Try.pinned (OpenSpec.upto predicateWedgesSpec)

/-- 'narrowslaw07.PredicateCircle', WHERE WHAT IT READS IS OF BULK AT MOST 1048576: true; the input reads as it did. -/
def predicateCircleUptoRow : OpenClaim := { program := "ytgakcbdahbagkaa", sum := "1d2d693dae5b054e6dd990e1f6f05cde1b667027a828332eaa8007550f7643b5", func := "narrows/narrowslaw07.PredicateCircle", spec := "predicateCircle", unfollowed := true, recurses := true, named := ["math/bits.overflowError"], apart := false, narrowed := true }
def PredicateCircleUptoSaid : Prop := predicateCircleUptoRow.holds Try.pinned (OpenSpec.upto predicateCircleSpec)

/-- 'narrowslaw07.PredicateSorted', WHERE WHAT IT READS IS OF BULK AT MOST 1048576: true; the input reads as it did. -/
def predicateSortedUptoRow : OpenClaim := { program := "ytgakcbdahbagkaa", sum := "1d2d693dae5b054e6dd990e1f6f05cde1b667027a828332eaa8007550f7643b5", func := "narrows/narrowslaw07.PredicateSorted", spec := "predicateSorted", unfollowed := true, recurses := true, named := ["math/bits.overflowError"], apart := false, narrowed := true }
def PredicateSortedUptoSaid : Prop := predicateSortedUptoRow.holds Try.pinned (OpenSpec.upto predicateSortedSpec)

/-- 'narrowslaw07.PredicateSegments', WHERE WHAT IT READS IS OF BULK AT MOST 1048576: true; the input reads as it did. -/
def predicateSegmentsUptoRow : OpenClaim := { program := "ytgakcbdahbagkaa", sum := "1d2d693dae5b054e6dd990e1f6f05cde1b667027a828332eaa8007550f7643b5", func := "narrows/narrowslaw07.PredicateSegments", spec := "predicateSegments", unfollowed := true, recurses := true, named := ["math/bits.overflowError"], apart := false, narrowed := true }
def PredicateSegmentsUptoSaid : Prop := predicateSegmentsUptoRow.holds Try.pinned (OpenSpec.upto predicateSegmentsSpec)

/-- 'narrowslaw07.PredicateTriangle', WHERE WHAT IT READS IS OF BULK AT MOST 1048576: true; the input reads as it did. -/
def predicateTriangleUptoRow : OpenClaim := { program := "ytgakcbdahbagkaa", sum := "1d2d693dae5b054e6dd990e1f6f05cde1b667027a828332eaa8007550f7643b5", func := "narrows/narrowslaw07.PredicateTriangle", spec := "predicateTriangle", unfollowed := true, recurses := true, named := ["math/bits.overflowError"], apart := false, narrowed := true }
def PredicateTriangleUptoSaid : Prop := predicateTriangleUptoRow.holds Try.pinned (OpenSpec.upto predicateTriangleSpec)

end Rows
end Go.Proofs.Ytgakcbdahbagkaa
