/-
  No cell of these rows narrows 'for every input' (looked for: loops, veiled, ifaces, maps, wideKeys, modest, calm, conditions, laid).
  DERIVED. THE GIVEN ROWS OF THIS SEAT. 4 by the template 'for every input the law returns true; each argument reads behind the call as it read before'; 0 by the template 'total and deterministic' (their statements: YtppeponndkfbkaaGreatTotals.lean).
  GIVEN WITH THE SEED: the statements are not yours to turn. If you find one false, say at which input.
  Laid BY PROGRAM, IN A SANDBOX (cutbox-rows.mjs): the forced cells as the released guide's own fill.sh prints them over the translation 234b6ee28b4a4c7d… (all of the seat's roots in one cut). By AI agents, Wed Nov 11 2026. No macro, syntax, notation, axiom, sorry.
-/
import Derived.Test.YtppeponndkfbkaaGreatChecked
import GoSem.Claim
import GoSem.ClaimJoined
import GoSem.ClaimMapViews
import Derived.JoinedTies
import Derived.KernelRfl
namespace Go.Proofs.YtppeponndkfbkaaGreat
/- THE CELL 'sum', in the pinned program and in every row, IS THE sha256 OF THE DUMP (.gsa) THAT YtppeponndkfbkaaGreatProg.lean LOADS. Nothing in Lean hashes anything: it is a label: what it is worth is what the hold of that sum in a sandbox is worth. -/
noncomputable def Tryz.pinned : Pinned := { name := "ytppeponndkfbkaagreat", sum := "234b6ee28b4a4c7d5a03c38f5e3cf97092f4dfba93b1a48247f16b2554fe01a9", checked := Tryz.checked }
namespace Rows
def none {H : Type} : Left H := { results := [], args := [] }

/-- 'narrowslaw09.LineBasics': WHATEVER THE INPUT: true; the input reads as it did. -/
def lineBasicsSpec : ChangeSpec := { name := "lineBasics", fn := fun _ => fun
  | [d1, d2, d3] => { results := [.lit (.bool true)], args := [d1, d2, d3] }
  | _ => none }
def lineBasicsRow : OpenClaim := { program := "ytppeponndkfbkaagreat", sum := "234b6ee28b4a4c7d5a03c38f5e3cf97092f4dfba93b1a48247f16b2554fe01a9", func := "narrows/narrowslaw09.LineBasics", spec := "lineBasics", unfollowed := true, recurses := true, named := ["math/bits.overflowError"], apart := false }
def LineBasicsSaid : Prop := lineBasicsRow.holds Tryz.pinned (OpenSpec.ofChange lineBasicsSpec)

/-- ITS FALSE NEIGHBOUR: 'it returns false'. Refute it at one input. -/
def lineBasicsWrong : ChangeSpec := { name := "lineBasics", fn := fun _ => fun
  | [d1, d2, d3] => { results := [.lit (.bool false)], args := [d1, d2, d3] }
  | _ => none }
def LineBasicsWrongFalsely : Prop := lineBasicsRow.holds Tryz.pinned (OpenSpec.ofChange lineBasicsWrong)

/-- 'narrowslaw09.LinePoints': WHATEVER THE INPUT: true; the input reads as it did. -/
def linePointsSpec : ChangeSpec := { name := "linePoints", fn := fun _ => fun
  | [d1, d2, d3] => { results := [.lit (.bool true)], args := [d1, d2, d3] }
  | _ => none }
def linePointsRow : OpenClaim := { program := "ytppeponndkfbkaagreat", sum := "234b6ee28b4a4c7d5a03c38f5e3cf97092f4dfba93b1a48247f16b2554fe01a9", func := "narrows/narrowslaw09.LinePoints", spec := "linePoints", unfollowed := true, recurses := true, named := ["math/bits.overflowError"], apart := false }
def LinePointsSaid : Prop := linePointsRow.holds Tryz.pinned (OpenSpec.ofChange linePointsSpec)

/-- ITS FALSE NEIGHBOUR: 'it returns false'. Refute it at one input. -/
def linePointsWrong : ChangeSpec := { name := "linePoints", fn := fun _ => fun
  | [d1, d2, d3] => { results := [.lit (.bool false)], args := [d1, d2, d3] }
  | _ => none }
def LinePointsWrongFalsely : Prop := linePointsRow.holds Tryz.pinned (OpenSpec.ofChange linePointsWrong)

/-- 'narrowslaw09.LineParts': WHATEVER THE INPUT: true; the input reads as it did. -/
def linePartsSpec : ChangeSpec := { name := "lineParts", fn := fun _ => fun
  | [d1, d2, d3] => { results := [.lit (.bool true)], args := [d1, d2, d3] }
  | _ => none }
def linePartsRow : OpenClaim := { program := "ytppeponndkfbkaagreat", sum := "234b6ee28b4a4c7d5a03c38f5e3cf97092f4dfba93b1a48247f16b2554fe01a9", func := "narrows/narrowslaw09.LineParts", spec := "lineParts", unfollowed := true, recurses := true, named := ["math/bits.overflowError"], apart := false }
def LinePartsSaid : Prop := linePartsRow.holds Tryz.pinned (OpenSpec.ofChange linePartsSpec)

/-- ITS FALSE NEIGHBOUR: 'it returns false'. Refute it at one input. -/
def linePartsWrong : ChangeSpec := { name := "lineParts", fn := fun _ => fun
  | [d1, d2, d3] => { results := [.lit (.bool false)], args := [d1, d2, d3] }
  | _ => none }
def LinePartsWrongFalsely : Prop := linePartsRow.holds Tryz.pinned (OpenSpec.ofChange linePartsWrong)

/-- 'narrowslaw09.LineCommon': WHATEVER THE INPUT: true; the input reads as it did. -/
def lineCommonSpec : ChangeSpec := { name := "lineCommon", fn := fun _ => fun
  | [d1, d2, d3] => { results := [.lit (.bool true)], args := [d1, d2, d3] }
  | _ => none }
def lineCommonRow : OpenClaim := { program := "ytppeponndkfbkaagreat", sum := "234b6ee28b4a4c7d5a03c38f5e3cf97092f4dfba93b1a48247f16b2554fe01a9", func := "narrows/narrowslaw09.LineCommon", spec := "lineCommon", unfollowed := true, recurses := true, named := ["math/bits.overflowError"], apart := false }
def LineCommonSaid : Prop := lineCommonRow.holds Tryz.pinned (OpenSpec.ofChange lineCommonSpec)

/-- ITS FALSE NEIGHBOUR: 'it returns false'. Refute it at one input. -/
def lineCommonWrong : ChangeSpec := { name := "lineCommon", fn := fun _ => fun
  | [d1, d2, d3] => { results := [.lit (.bool false)], args := [d1, d2, d3] }
  | _ => none }
def LineCommonWrongFalsely : Prop := lineCommonRow.holds Tryz.pinned (OpenSpec.ofChange lineCommonWrong)

/- THE SECOND FORM. 'bulk': how many values and letters a reading holds, each counted each time it is reached (what is shared counts as often as it is met; a slice's spare places count too). A statement '..UptoSaid' is the law's where the arguments, and the package variables that the reading takes, are together of bulk at most 1048576: NARROWER than '..Said'. Prove '..Said' where nothing that the law and all that it calls make is longer than what came in: it says more and counts as full. Else prove '..UptoSaid'. A law counts once. -/
mutual
def uptoBulk {H : Type} : DataW H → Nat
  | .lit (.string bytes) => bytes.length + 1
  | .lit _ => 1
  | .nil => 1
  | .ptr d => uptoBulk d + 1
  | .slice elems spare => uptoBulkAll elems + uptoBulkAll spare + 1
  | .agg parts => uptoBulkAll parts + 1
  | .iface _ d => uptoBulk d + 1
  | .map entries => uptoBulkEntries entries + 1
  | .held _ => 1
def uptoBulkAll {H : Type} : List (DataW H) → Nat
  | [] => 0
  | d :: r => uptoBulk d + uptoBulkAll r
def uptoBulkEntries {H : Type} : List (Lit × DataW H) → Nat
  | [] => 0
  | x :: r => uptoBulkEntry x + uptoBulkEntries r
def uptoBulkEntry {H : Type} : Lit × DataW H → Nat
  | (.string bytes, d) => bytes.length + uptoBulk d + 1
  | (_, d) => uptoBulk d + 1
 end
def uptoSmall : (H : Type) → List (DataW H) → Bool := fun _ ds => decide (uptoBulkAll ds ≤ 1048576)
def OpenSpec.upto (s : _root_.Go.ChangeSpec) : _root_.Go.OpenSpec := { _root_.Go.OpenSpec.ofChange s with cond := some uptoSmall }

/-- 'narrowslaw09.LineBasics', WHERE WHAT IT READS IS OF BULK AT MOST 1048576: true; the input reads as it did. -/
def lineBasicsUptoRow : OpenClaim := { program := "ytppeponndkfbkaagreat", sum := "234b6ee28b4a4c7d5a03c38f5e3cf97092f4dfba93b1a48247f16b2554fe01a9", func := "narrows/narrowslaw09.LineBasics", spec := "lineBasics", unfollowed := true, recurses := true, named := ["math/bits.overflowError"], apart := false, narrowed := true }
def LineBasicsUptoSaid : Prop := lineBasicsUptoRow.holds Tryz.pinned (OpenSpec.upto lineBasicsSpec)

/-- 'narrowslaw09.LinePoints', WHERE WHAT IT READS IS OF BULK AT MOST 1048576: true; the input reads as it did. -/
def linePointsUptoRow : OpenClaim := { program := "ytppeponndkfbkaagreat", sum := "234b6ee28b4a4c7d5a03c38f5e3cf97092f4dfba93b1a48247f16b2554fe01a9", func := "narrows/narrowslaw09.LinePoints", spec := "linePoints", unfollowed := true, recurses := true, named := ["math/bits.overflowError"], apart := false, narrowed := true }
def LinePointsUptoSaid : Prop := linePointsUptoRow.holds Tryz.pinned (OpenSpec.upto linePointsSpec)

/-- 'narrowslaw09.LineParts', WHERE WHAT IT READS IS OF BULK AT MOST 1048576: true; the input reads as it did. -/
def linePartsUptoRow : OpenClaim := { program := "ytppeponndkfbkaagreat", sum := "234b6ee28b4a4c7d5a03c38f5e3cf97092f4dfba93b1a48247f16b2554fe01a9", func := "narrows/narrowslaw09.LineParts", spec := "lineParts", unfollowed := true, recurses := true, named := ["math/bits.overflowError"], apart := false, narrowed := true }
def LinePartsUptoSaid : Prop := linePartsUptoRow.holds Tryz.pinned (OpenSpec.upto linePartsSpec)

/-- 'narrowslaw09.LineCommon', WHERE WHAT IT READS IS OF BULK AT MOST 1048576: true; the input reads as it did. -/
def lineCommonUptoRow : OpenClaim := { program := "ytppeponndkfbkaagreat", sum := "234b6ee28b4a4c7d5a03c38f5e3cf97092f4dfba93b1a48247f16b2554fe01a9", func := "narrows/narrowslaw09.LineCommon", spec := "lineCommon", unfollowed := true, recurses := true, named := ["math/bits.overflowError"], apart := false, narrowed := true }
def LineCommonUptoSaid : Prop := lineCommonUptoRow.holds Tryz.pinned (OpenSpec.upto lineCommonSpec)

end Rows
end Go.Proofs.YtppeponndkfbkaaGreat
