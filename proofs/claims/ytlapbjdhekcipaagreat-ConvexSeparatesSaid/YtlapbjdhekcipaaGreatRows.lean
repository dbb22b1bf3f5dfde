/-
  No cell of these rows narrows 'for every input' (looked for: loops, veiled, ifaces, maps, wideKeys, modest, calm, conditions, laid).
  DERIVED. THE GIVEN ROWS OF THIS SEAT. 9 by the template 'for every input the law returns true; each argument reads behind the call as it read before'; 0 by the template 'total and deterministic' (their statements: YtlapbjdhekcipaaGreatTotals.lean).
  GIVEN WITH THE SEED: the statements are not yours to turn. If you find one false, say at which input.
  Laid BY PROGRAM, IN A SANDBOX (cutbox-rows.mjs): the forced cells as the released guide's own fill.sh prints them over the translation 39221652b394c171… (all of the seat's roots in one cut). By AI agents, Wed Nov 11 2026. No macro, syntax, notation, axiom, sorry.
-/
import Derived.Test.YtlapbjdhekcipaaGreatChecked
import GoSem.Claim
import GoSem.ClaimJoined
import GoSem.ClaimMapViews
import Derived.JoinedTies
import Derived.KernelRfl
namespace Go.Proofs.YtlapbjdhekcipaaGreat
/- THE CELL 'sum', in the pinned program and in every row, IS THE sha256 OF THE DUMP (.gsa) THAT YtlapbjdhekcipaaGreatProg.lean LOADS. Nothing in Lean hashes anything: it is a label: what it is worth is what the hold of that sum in a sandbox is worth. -/
noncomputable def Tryz.pinned : Pinned := { name := "ytlapbjdhekcipaagreat", sum := "39221652b394c171fb12a7b52b75e2b7b494e23b198cfdb7204919eeab337df1", checked := Tryz.checked }
namespace Rows
def none {H : Type} : Left H := { results := [], args := [] }

/-- 'narrowslaw13.ConvexCuts': WHATEVER THE INPUT: true; the input reads as it did. -/
def convexCutsSpec : ChangeSpec := { name := "convexCuts", fn := fun _ => fun
  | [d1, d2, d3, d4] => { results := [.lit (.bool true)], args := [d1, d2, d3, d4] }
  | _ => none }
def convexCutsRow : OpenClaim := { program := "ytlapbjdhekcipaagreat", sum := "39221652b394c171fb12a7b52b75e2b7b494e23b198cfdb7204919eeab337df1", func := "narrows/narrowslaw13.ConvexCuts", spec := "convexCuts", unfollowed := true, recurses := true, named := ["math/bits.overflowError"], apart := false }
def ConvexCutsSaid : Prop := convexCutsRow.holds Tryz.pinned (OpenSpec.ofChange convexCutsSpec)

/-- ITS FALSE NEIGHBOUR: 'it returns false'. Refute it at one input. -/
def convexCutsWrong : ChangeSpec := { name := "convexCuts", fn := fun _ => fun
  | [d1, d2, d3, d4] => { results := [.lit (.bool false)], args := [d1, d2, d3, d4] }
  | _ => none }
def ConvexCutsWrongFalsely : Prop := convexCutsRow.holds Tryz.pinned (OpenSpec.ofChange convexCutsWrong)

/-- 'narrowslaw13.ConvexPoints': WHATEVER THE INPUT: true; the input reads as it did. -/
def convexPointsSpec : ChangeSpec := { name := "convexPoints", fn := fun _ => fun
  | [d1, d2, d3] => { results := [.lit (.bool true)], args := [d1, d2, d3] }
  | _ => none }
def convexPointsRow : OpenClaim := { program := "ytlapbjdhekcipaagreat", sum := "39221652b394c171fb12a7b52b75e2b7b494e23b198cfdb7204919eeab337df1", func := "narrows/narrowslaw13.ConvexPoints", spec := "convexPoints", unfollowed := true, recurses := true, named := ["math/bits.overflowError"], apart := false }
def ConvexPointsSaid : Prop := convexPointsRow.holds Tryz.pinned (OpenSpec.ofChange convexPointsSpec)

/-- ITS FALSE NEIGHBOUR: 'it returns false'. Refute it at one input. -/
def convexPointsWrong : ChangeSpec := { name := "convexPoints", fn := fun _ => fun
  | [d1, d2, d3] => { results := [.lit (.bool false)], args := [d1, d2, d3] }
  | _ => none }
def ConvexPointsWrongFalsely : Prop := convexPointsRow.holds Tryz.pinned (OpenSpec.ofChange convexPointsWrong)

/-- 'narrowslaw13.ConvexInside': WHATEVER THE INPUT: true; the input reads as it did. -/
def convexInsideSpec : ChangeSpec := { name := "convexInside", fn := fun _ => fun
  | [d1, d2, d3] => { results := [.lit (.bool true)], args := [d1, d2, d3] }
  | _ => none }
def convexInsideRow : OpenClaim := { program := "ytlapbjdhekcipaagreat", sum := "39221652b394c171fb12a7b52b75e2b7b494e23b198cfdb7204919eeab337df1", func := "narrows/narrowslaw13.ConvexInside", spec := "convexInside", unfollowed := true, recurses := true, named := ["math/bits.overflowError"], apart := false }
def ConvexInsideSaid : Prop := convexInsideRow.holds Tryz.pinned (OpenSpec.ofChange convexInsideSpec)

/-- ITS FALSE NEIGHBOUR: 'it returns false'. Refute it at one input. -/
def convexInsideWrong : ChangeSpec := { name := "convexInside", fn := fun _ => fun
  | [d1, d2, d3] => { results := [.lit (.bool false)], args := [d1, d2, d3] }
  | _ => none }
def ConvexInsideWrongFalsely : Prop := convexInsideRow.holds Tryz.pinned (OpenSpec.ofChange convexInsideWrong)

/-- 'narrowslaw13.ConvexMeets': WHATEVER THE INPUT: true; the input reads as it did. -/
def convexMeetsSpec : ChangeSpec := { name := "convexMeets", fn := fun _ => fun
  | [d1, d2, d3] => { results := [.lit (.bool true)], args := [d1, d2, d3] }
  | _ => none }
def convexMeetsRow : OpenClaim := { program := "ytlapbjdhekcipaagreat", sum := "39221652b394c171fb12a7b52b75e2b7b494e23b198cfdb7204919eeab337df1", func := "narrows/narrowslaw13.ConvexMeets", spec := "convexMeets", unfollowed := true, recurses := true, named := ["math/bits.overflowError"], apart := false }
def ConvexMeetsSaid : Prop := convexMeetsRow.holds Tryz.pinned (OpenSpec.ofChange convexMeetsSpec)

/-- ITS FALSE NEIGHBOUR: 'it returns false'. Refute it at one input. -/
def convexMeetsWrong : ChangeSpec := { name := "convexMeets", fn := fun _ => fun
  | [d1, d2, d3] => { results := [.lit (.bool false)], args := [d1, d2, d3] }
  | _ => none }
def ConvexMeetsWrongFalsely : Prop := convexMeetsRow.holds Tryz.pinned (OpenSpec.ofChange convexMeetsWrong)

/-- 'narrowslaw13.ConvexParts': WHATEVER THE INPUT: true; the input reads as it did. -/
def convexPartsSpec : ChangeSpec := { name := "convexParts", fn := fun _ => fun
  | [d1, d2, d3, d4] => { results := [.lit (.bool true)], args := [d1, d2, d3, d4] }
  | _ => none }
def convexPartsRow : OpenClaim := { program := "ytlapbjdhekcipaagreat", sum := "39221652b394c171fb12a7b52b75e2b7b494e23b198cfdb7204919eeab337df1", func := "narrows/narrowslaw13.ConvexParts", spec := "convexParts", unfollowed := true, recurses := true, named := ["math/bits.overflowError"], apart := false }
def ConvexPartsSaid : Prop := convexPartsRow.holds Tryz.pinned (OpenSpec.ofChange convexPartsSpec)

/-- ITS FALSE NEIGHBOUR: 'it returns false'. Refute it at one input. -/
def convexPartsWrong : ChangeSpec := { name := "convexParts", fn := fun _ => fun
  | [d1, d2, d3, d4] => { results := [.lit (.bool false)], args := [d1, d2, d3, d4] }
  | _ => none }
def ConvexPartsWrongFalsely : Prop := convexPartsRow.holds Tryz.pinned (OpenSpec.ofChange convexPartsWrong)

/-- 'narrowslaw13.ConvexPairs': WHATEVER THE INPUT: true; the input reads as it did. -/
def convexPairsSpec : ChangeSpec := { name := "convexPairs", fn := fun _ => fun
  | [d1, d2] => { results := [.lit (.bool true)], args := [d1, d2] }
  | _ => none }
def convexPairsRow : OpenClaim := { program := "ytlapbjdhekcipaagreat", sum := "39221652b394c171fb12a7b52b75e2b7b494e23b198cfdb7204919eeab337df1", func := "narrows/narrowslaw13.ConvexPairs", spec := "convexPairs", unfollowed := true, recurses := true, named := ["math/bits.overflowError"], apart := false }
def ConvexPairsSaid : Prop := convexPairsRow.holds Tryz.pinned (OpenSpec.ofChange convexPairsSpec)

/-- ITS FALSE NEIGHBOUR: 'it returns false'. Refute it at one input. -/
def convexPairsWrong : ChangeSpec := { name := "convexPairs", fn := fun _ => fun
  | [d1, d2] => { results := [.lit (.bool false)], args := [d1, d2] }
  | _ => none }
def ConvexPairsWrongFalsely : Prop := convexPairsRow.holds Tryz.pinned (OpenSpec.ofChange convexPairsWrong)

/-- 'narrowslaw13.ConvexMoves': WHATEVER THE INPUT: true; the input reads as it did. -/
def convexMovesSpec : ChangeSpec := { name := "convexMoves", fn := fun _ => fun
  | [d1, d2, d3] => { results := [.lit (.bool true)], args := [d1, d2, d3] }
  | _ => none }
def convexMovesRow : OpenClaim := { program := "ytlapbjdhekcipaagreat", sum := "39221652b394c171fb12a7b52b75e2b7b494e23b198cfdb7204919eeab337df1", func := "narrows/narrowslaw13.ConvexMoves", spec := "convexMoves", unfollowed := true, recurses := true, named := ["math/bits.overflowError"], apart := false }
def ConvexMovesSaid : Prop := convexMovesRow.holds Tryz.pinned (OpenSpec.ofChange convexMovesSpec)

/-- ITS FALSE NEIGHBOUR: 'it returns false'. Refute it at one input. -/
def convexMovesWrong : ChangeSpec := { name := "convexMoves", fn := fun _ => fun
  | [d1, d2, d3] => { results := [.lit (.bool false)], args := [d1, d2, d3] }
  | _ => none }
def ConvexMovesWrongFalsely : Prop := convexMovesRow.holds Tryz.pinned (OpenSpec.ofChange convexMovesWrong)

/-- 'narrowslaw13.ConvexHalves': WHATEVER THE INPUT: true; the input reads as it did. -/
def convexHalvesSpec : ChangeSpec := { name := "convexHalves", fn := fun _ => fun
  | [d1, d2, d3, d4] => { results := [.lit (.bool true)], args := [d1, d2, d3, d4] }
  | _ => none }
def convexHalvesRow : OpenClaim := { program := "ytlapbjdhekcipaagreat", sum := "39221652b394c171fb12a7b52b75e2b7b494e23b198cfdb7204919eeab337df1", func := "narrows/narrowslaw13.ConvexHalves", spec := "convexHalves", unfollowed := true, recurses := true, named := ["math/bits.overflowError"], apart := false }
def ConvexHalvesSaid : Prop := convexHalvesRow.holds Tryz.pinned (OpenSpec.ofChange convexHalvesSpec)

/-- ITS FALSE NEIGHBOUR: 'it returns false'. Refute it at one input. -/
def convexHalvesWrong : ChangeSpec := { name := "convexHalves", fn := fun _ => fun
  | [d1, d2, d3, d4] => { results := [.lit (.bool false)], args := [d1, d2, d3, d4] }
  | _ => none }
def ConvexHalvesWrongFalsely : Prop := convexHalvesRow.holds Tryz.pinned (OpenSpec.ofChange convexHalvesWrong)

/-- 'narrowslaw13.ConvexSeparates': WHATEVER THE INPUT: true; the input reads as it did. -/
def convexSeparatesSpec : ChangeSpec := { name := "convexSeparates", fn := fun _ => fun
  | [d1, d2] => { results := [.lit (.bool true)], args := [d1, d2] }
  | _ => none }
def convexSeparatesRow : OpenClaim := { program := "ytlapbjdhekcipaagreat", sum := "39221652b394c171fb12a7b52b75e2b7b494e23b198cfdb7204919eeab337df1", func := "narrows/narrowslaw13.ConvexSeparates", spec := "convexSeparates", unfollowed := true, recurses := true, named := ["math/bits.overflowError"], apart := false }
def ConvexSeparatesSaid : Prop := convexSeparatesRow.holds Tryz.pinned (OpenSpec.ofChange convexSeparatesSpec)

/-- ITS FALSE NEIGHBOUR: 'it returns false'. Refute it at one input. -/
def convexSeparatesWrong : ChangeSpec := { name := "convexSeparates", fn := fun _ => fun
  | [d1, d2] => { results := [.lit (.bool false)], args := [d1, d2] }
  | _ => none }
def ConvexSeparatesWrongFalsely : Prop := convexSeparatesRow.holds Tryz.pinned (OpenSpec.ofChange convexSeparatesWrong)

/- THE SECOND FORM. 'bulk': how many values and letters a reading holds, each counted each time it is reached (what is shared counts as often as it is met; a slice's spare places count too). A statement '..UptoSaid' is the law's where the arguments, and the package variables that the reading takes, are together of bulk at most 1048576: NARROWER than '..Said'. Prove '..Said' where nothing that the law and all that it calls make is longer than what came in: it says more and counts as full. Else prove '..UptoSaid'. A law counts once. -/
mutual
def uptoBulk {H : Type} : DataW H → Nat
  | .lit (.string bytes) => bytes.length + 1
  | .lit _ => 1
  | .nil => 1
  | .ptr d => uptoBulk d + 1
  | .slice elems spare => uptoBulkAll elems + uptoBulkAll spare + 1
  | .agg parts => uptoBulkAll parts + 1
  | .iface _ d => uptoBulk d + 1
  | .map entries => uptoBulkEntries entries + 1
  | .held _ => 1
def uptoBulkAll {H : Type} : List (DataW H) → Nat
  | [] => 0
  | d :: r => uptoBulk d + uptoBulkAll r
def uptoBulkEntries {H : Type} : List (Lit × DataW H) → Nat
  | [] => 0
  | x :: r => uptoBulkEntry x + uptoBulkEntries r
def uptoBulkEntry {H : Type} : Lit × DataW H → Nat
  | (.string bytes, d) => bytes.length + uptoBulk d + 1
  | (_, d) => uptoBulk d + 1
 end
def uptoSmall : (H : Type) → List (DataW H) → Bool := fun _ ds => decide (uptoBulkAll ds ≤ 1048576)
def OpenSpec.upto (s : _root_.Go.ChangeSpec) : _root_.Go.OpenSpec := { _root_.Go.OpenSpec.ofChange s with cond := some uptoSmall }

/-- 'narrowslaw13.ConvexCuts', WHERE WHAT IT READS IS OF BULK AT MOST 1048576: true; the input reads as it did. -/
def convexCutsUptoRow : OpenClaim := { program := "ytlapbjdhekcipaagreat", sum := "39221652b394c171fb12a7b52b75e2b7b494e23b198cfdb7204919eeab337df1", func := "narrows/narrowslaw13.ConvexCuts", spec := "convexCuts", unfollowed := true, recurses := true, named := ["math/bits.overflowError"], apart := false, narrowed := true }
def ConvexCutsUptoSaid : Prop := convexCutsUptoRow.holds Tryz.pinned (OpenSpec.upto convexCutsSpec)

/-- 'narrowslaw13.ConvexPoints', WHERE WHAT IT READS IS OF BULK AT MOST 1048576: true; the input reads as it did. -/
def convexPointsUptoRow : OpenClaim := { program := "ytlapbjdhekcipaagreat", sum := "39221652b394c171fb12a7b52b75e2b7b494e23b198cfdb7204919eeab337df1", func := "narrows/narrowslaw13.ConvexPoints", spec := "convexPoints", unfollowed := true, recurses := true, named := ["math/bits.overflowError"], apart := false, narrowed := true }
def ConvexPointsUptoSaid : Prop := convexPointsUptoRow.holds Tryz.pinned (OpenSpec.upto convexPointsSpec)

/-- 'narrowslaw13.ConvexInside', WHERE WHAT IT READS IS OF BULK AT MOST 1048576: true; the input reads as it did. -/
def convexInsideUptoRow : OpenClaim := { program := "ytlapbjdhekcipaagreat", sum := "39221652b394c171fb12a7b52b75e2b7b494e23b198cfdb7204919eeab337df1", func := "narrows/narrowslaw13.ConvexInside", spec := "convexInside", unfollowed := true, recurses := true, named := ["math/bits.overflowError"], apart := false, narrowed := true }
def ConvexInsideUptoSaid : Prop := convexInsideUptoRow.holds Tryz.pinned (OpenSpec.upto convexInsideSpec)

/-- 'narrowslaw13.ConvexMeets', WHERE WHAT IT READS IS OF BULK AT MOST 1048576: true; the input reads as it did. -/
def convexMeetsUptoRow : OpenClaim := { program := "ytlapbjdhekcipaagreat", sum := "39221652b394c171fb12a7b52b75e2b7b494e23b198cfdb7204919eeab337df1", func := "narrows/narrowslaw13.ConvexMeets", spec := "convexMeets", unfollowed := true, recurses := true, named := ["math/bits.overflowError"], apart := false, narrowed := true }
def ConvexMeetsUptoSaid : Prop := convexMeetsUptoRow.holds Tryz.pinned (OpenSpec.upto convexMeetsSpec)

/-- 'narrowslaw13.ConvexParts', WHERE WHAT IT READS IS OF BULK AT MOST 1048576: true; the input reads as it did. -/
def convexPartsUptoRow : OpenClaim := { program := "ytlapbjdhekcipaagreat", sum := "39221652b394c171fb12a7b52b75e2b7b494e23b198cfdb7204919eeab337df1", func := "narrows/narrowslaw13.ConvexParts", spec := "convexParts", unfollowed := true, recurses := true, named := ["math/bits.overflowError"], apart := false, narrowed := true }
def ConvexPartsUptoSaid : Prop := convexPartsUptoRow.holds Tryz.pinned (OpenSpec.upto convexPartsSpec)

/-- 'narrowslaw13.ConvexPairs', WHERE WHAT IT READS IS OF BULK AT MOST 1048576: true; the input reads as it did. -/
def convexPairsUptoRow : OpenClaim := { program := "ytlapbjdhekcipaagreat", sum := "39221652b394c171fb12a7b52b75e2b7b494e23b198cfdb7204919eeab337df1", func := "narrows/narrowslaw13.ConvexPairs", spec := "convexPairs", unfollowed := true, recurses := true, named := ["math/bits.overflowError"], apart := false, narrowed := true }
def ConvexPairsUptoSaid : Prop := convexPairsUptoRow.holds Tryz.pinned (OpenSpec.upto convexPairsSpec)

/-- 'narrowslaw13.ConvexMoves', WHERE WHAT IT READS IS OF BULK AT MOST 1048576: true; the input reads as it did. -/
def convexMovesUptoRow : OpenClaim := { program := "ytlapbjdhekcipaagreat", sum := "39221652b394c171fb12a7b52b75e2b7b494e23b198cfdb7204919eeab337df1", func := "narrows/narrowslaw13.ConvexMoves", spec := "convexMoves", unfollowed := true, recurses := true, named := ["math/bits.overflowError"], apart := false, narrowed := true }
def ConvexMovesUptoSaid : Prop := convexMovesUptoRow.holds Tryz.pinned (OpenSpec.upto convexMovesSpec)

/-- 'narrowslaw13.ConvexHalves', WHERE WHAT IT READS IS OF BULK AT MOST 1048576: true; the input reads as it did. -/
def convexHalvesUptoRow : OpenClaim := { program := "ytlapbjdhekcipaagreat", sum := "39221652b394c171fb12a7b52b75e2b7b494e23b198cfdb7204919eeab337df1", func := "narrows/narrowslaw13.ConvexHalves", spec := "convexHalves", unfollowed := true, recurses := true, named := ["math/bits.overflowError"], apart := false, narrowed := true }
def ConvexHalvesUptoSaid : Prop := convexHalvesUptoRow.holds Tryz.pinned (OpenSpec.upto convexHalvesSpec)

/-- 'narrowslaw13.ConvexSeparates', WHERE WHAT IT READS IS OF BULK AT MOST 1048576: true; the input reads as it did. -/
def convexSeparatesUptoRow : OpenClaim := { program := "ytlapbjdhekcipaagreat", sum := "39221652b394c171fb12a7b52b75e2b7b494e23b198cfdb7204919eeab337df1", func := "narrows/narrowslaw13.ConvexSeparates", spec := "convexSeparates", unfollowed := true, recurses := true, named := ["math/bits.overflowError"], apart := false, narrowed := true }
def ConvexSeparatesUptoSaid : Prop := convexSeparatesUptoRow.holds Tryz.pinned (OpenSpec.upto convexSeparatesSpec)

end Rows
end Go.Proofs.YtlapbjdhekcipaaGreat
