/-
  No cell of these rows narrows 'for every input' (looked for: loops, veiled, ifaces, maps, wideKeys, modest, calm, conditions, laid).
  DERIVED. THE GIVEN ROWS OF THIS SEAT. 3 by the template 'for every input the law returns true; each argument reads behind the call as it read before'; 0 by the template 'total and deterministic' (their statements: YtaklhgglgabbiaaGreatTotals.lean).
  GIVEN WITH THE SEED: the statements are not yours to turn. If you find one false, say at which input.
  Laid BY PROGRAM, IN A SANDBOX (cutbox-rows.mjs): the forced cells as the released guide's own fill.sh prints them over the translation 9149a16ab3ee15d4… (all of the seat's roots in one cut). By AI agents, Wed Nov 11 2026. No macro, syntax, notation, axiom, sorry.
-/
import Derived.Test.YtaklhgglgabbiaaGreatChecked
import GoSem.Claim
import GoSem.ClaimJoined
import GoSem.ClaimMapViews
import Derived.JoinedTies
import Derived.KernelRfl
namespace Go.Proofs.YtaklhgglgabbiaaGreat
/- THE CELL 'sum', in the pinned program and in every row, IS THE sha256 OF THE DUMP (.gsa) THAT YtaklhgglgabbiaaGreatProg.lean LOADS. Nothing in Lean hashes anything: it is a label: what it is worth is what the hold of that sum in a sandbox is worth. -/
noncomputable def Tryz.pinned : Pinned := { name := "ytaklhgglgabbiaagreat", sum := "9149a16ab3ee15d427ceb75c68d2216533c540df002937c283089b93dd13f478", checked := Tryz.checked }
namespace Rows
def none {H : Type} : Left H := { results := [], args := [] }

/-- 'narrowslaw06.VectorComputes': WHATEVER THE INPUT: true; the input reads as it did. -/
def vectorComputesSpec : ChangeSpec := { name := "vectorComputes", fn := fun _ => fun
  | [d1, d2, d3, d4, d5] => { results := [.lit (.bool true)], args := [d1, d2, d3, d4, d5] }
  | _ => none }
def vectorComputesRow : OpenClaim := { program := "ytaklhgglgabbiaagreat", sum := "9149a16ab3ee15d427ceb75c68d2216533c540df002937c283089b93dd13f478", func := "narrows/narrowslaw06.VectorComputes", spec := "vectorComputes", unfollowed := true, recurses := true, named := ["math/bits.overflowError"], apart := false }
def VectorComputesSaid : Prop := vectorComputesRow.holds Tryz.pinned (OpenSpec.ofChange vectorComputesSpec)

/-- ITS FALSE NEIGHBOUR: 'it returns false'. Refute it at one input. -/
def vectorComputesWrong : ChangeSpec := { name := "vectorComputes", fn := fun _ => fun
  | [d1, d2, d3, d4, d5] => { results := [.lit (.bool false)], args := [d1, d2, d3, d4, d5] }
  | _ => none }
def VectorComputesWrongFalsely : Prop := vectorComputesRow.holds Tryz.pinned (OpenSpec.ofChange vectorComputesWrong)

/-- 'narrowslaw06.VectorMeasures': WHATEVER THE INPUT: true; the input reads as it did. -/
def vectorMeasuresSpec : ChangeSpec := { name := "vectorMeasures", fn := fun _ => fun
  | [d1, d2, d3] => { results := [.lit (.bool true)], args := [d1, d2, d3] }
  | _ => none }
def vectorMeasuresRow : OpenClaim := { program := "ytaklhgglgabbiaagreat", sum := "9149a16ab3ee15d427ceb75c68d2216533c540df002937c283089b93dd13f478", func := "narrows/narrowslaw06.VectorMeasures", spec := "vectorMeasures", unfollowed := true, recurses := true, named := ["math/bits.overflowError"], apart := false }
def VectorMeasuresSaid : Prop := vectorMeasuresRow.holds Tryz.pinned (OpenSpec.ofChange vectorMeasuresSpec)

/-- ITS FALSE NEIGHBOUR: 'it returns false'. Refute it at one input. -/
def vectorMeasuresWrong : ChangeSpec := { name := "vectorMeasures", fn := fun _ => fun
  | [d1, d2, d3] => { results := [.lit (.bool false)], args := [d1, d2, d3] }
  | _ => none }
def VectorMeasuresWrongFalsely : Prop := vectorMeasuresRow.holds Tryz.pinned (OpenSpec.ofChange vectorMeasuresWrong)

/-- 'narrowslaw06.VectorBoxes': WHATEVER THE INPUT: true; the input reads as it did. -/
def vectorBoxesSpec : ChangeSpec := { name := "vectorBoxes", fn := fun _ => fun
  | [d1, d2, d3] => { results := [.lit (.bool true)], args := [d1, d2, d3] }
  | _ => none }
def vectorBoxesRow : OpenClaim := { program := "ytaklhgglgabbiaagreat", sum := "9149a16ab3ee15d427ceb75c68d2216533c540df002937c283089b93dd13f478", func := "narrows/narrowslaw06.VectorBoxes", spec := "vectorBoxes", unfollowed := true, recurses := true, named := ["math/bits.overflowError"], apart := false }
def VectorBoxesSaid : Prop := vectorBoxesRow.holds Tryz.pinned (OpenSpec.ofChange vectorBoxesSpec)

/-- ITS FALSE NEIGHBOUR: 'it returns false'. Refute it at one input. -/
def vectorBoxesWrong : ChangeSpec := { name := "vectorBoxes", fn := fun _ => fun
  | [d1, d2, d3] => { results := [.lit (.bool false)], args := [d1, d2, d3] }
  | _ => none }
def VectorBoxesWrongFalsely : Prop := vectorBoxesRow.holds Tryz.pinned (OpenSpec.ofChange vectorBoxesWrong)

/- THE SECOND FORM. 'bulk': how many values and letters a reading holds, each counted each time it is reached (what is shared counts as often as it is met; a slice's spare places count too). A statement '..UptoSaid' is the law's where the arguments, and the package variables that the reading takes, are together of bulk at most 1048576: NARROWER than '..Said'. Prove '..Said' where nothing that the law and all that it calls make is longer than what came in: it says more and counts as full. Else prove '..UptoSaid'. A law counts once. -/
mutual
def uptoBulk {H : Type} : DataW H → Nat
  | .lit (.string bytes) => bytes.length + 1
  | .lit _ => 1
  | .nil => 1
  | .ptr d => uptoBulk d + 1
  | .slice elems spare => uptoBulkAll elems + uptoBulkAll spare + 1
  | .agg parts => uptoBulkAll parts + 1
  | .iface _ d => uptoBulk d + 1
  | .map entries => uptoBulkEntries entries + 1
  | .held _ => 1
def uptoBulkAll {H : Type} : List (DataW H) → Nat
  | [] => 0
  | d :: r => uptoBulk d + uptoBulkAll r
def uptoBulkEntries {H : Type} : List (Lit × DataW H) → Nat
  | [] => 0
  | x :: r => uptoBulkEntry x + uptoBulkEntries r
def uptoBulkEntry {H : Type} : Lit × DataW H → Nat
  | (.string bytes, d) => bytes.length + uptoBulk d + 1
  | (_, d) => uptoBulk d + 1
 end
def uptoSmall : (H : Type) → List (DataW H) → Bool := fun _ ds => decide (uptoBulkAll ds ≤ 1048576)
def OpenSpec.upto (s : _root_.Go.ChangeSpec) : _root_.Go.OpenSpec := { _root_.Go.OpenSpec.ofChange s with cond := some uptoSmall }

/-- 'narrowslaw06.VectorComputes', WHERE WHAT IT READS IS OF BULK AT MOST 1048576: true; the input reads as it did. -/
def vectorComputesUptoRow : OpenClaim := { program := "ytaklhgglgabbiaagreat", sum := "9149a16ab3ee15d427ceb75c68d2216533c540df002937c283089b93dd13f478", func := "narrows/narrowslaw06.VectorComputes", spec := "vectorComputes", unfollowed := true, recurses := true, named := ["math/bits.overflowError"], apart := false, narrowed := true }
def VectorComputesUptoSaid : Prop := vectorComputesUptoRow.holds Tryz.pinned (OpenSpec.upto vectorComputesSpec)

/-- 'narrowslaw06.VectorMeasures', WHERE WHAT IT READS IS OF BULK AT MOST 1048576: true; the input reads as it did. -/
def vectorMeasuresUptoRow : OpenClaim := { program := "ytaklhgglgabbiaagreat", sum := "9149a16ab3ee15d427ceb75c68d2216533c540df002937c283089b93dd13f478", func := "narrows/narrowslaw06.VectorMeasures", spec := "vectorMeasures", unfollowed := true, recurses := true, named := ["math/bits.overflowError"], apart := false, narrowed := true }
def VectorMeasuresUptoSaid : Prop := vectorMeasuresUptoRow.holds Tryz.pinned (OpenSpec.upto vectorMeasuresSpec)

/-- 'narrowslaw06.VectorBoxes', WHERE WHAT IT READS IS OF BULK AT MOST 1048576: true; the input reads as it did. -/
def vectorBoxesUptoRow : OpenClaim := { program := "ytaklhgglgabbiaagreat", sum := "9149a16ab3ee15d427ceb75c68d2216533c540df002937c283089b93dd13f478", func := "narrows/narrowslaw06.VectorBoxes", spec := "vectorBoxes", unfollowed := true, recurses := true, named := ["math/bits.overflowError"], apart := false, narrowed := true }
def VectorBoxesUptoSaid : Prop := vectorBoxesUptoRow.holds Tryz.pinned (OpenSpec.upto vectorBoxesSpec)

end Rows
end Go.Proofs.YtaklhgglgabbiaaGreat
