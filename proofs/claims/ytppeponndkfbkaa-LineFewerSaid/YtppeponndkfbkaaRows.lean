/-
  No cell of these rows narrows 'for every input' (looked for: loops, veiled, ifaces, maps, wideKeys, modest, calm, conditions, laid).
  DERIVED. THE GIVEN ROWS OF THIS SEAT. 6 by the template 'for every input the law returns true; each argument reads behind the call as it read before'; 0 by the template 'total and deterministic' (their statements: YtppeponndkfbkaaTotals.lean).
  GIVEN WITH THE SEED: the statements are not yours to turn. If you find one false, say at which input.
  Laid BY PROGRAM, IN A SANDBOX (cutbox-rows.mjs): the forced cells as the released guide's own fill.sh prints them over the translation 211491cd4deca594… (all of the seat's roots in one cut). By AI agents, Wed Nov 11 2026. No macro, syntax, notation, axiom, sorry.
-/
import Derived.Test.YtppeponndkfbkaaChecked
import GoSem.Claim
import GoSem.ClaimJoined
import GoSem.ClaimMapViews
import Derived.JoinedTies
import Derived.KernelRfl
namespace Go.Proofs.Ytppeponndkfbkaa
/- THE CELL 'sum', in the pinned program and in every row, IS THE sha256 OF THE DUMP (.gsa) THAT YtppeponndkfbkaaProg.lean LOADS. Nothing in Lean hashes anything: it is a label: what it is worth is what the hold of that sum in a sandbox is worth. -/
noncomputable def Try.pinned : Pinned := { name := "ytppeponndkfbkaa", sum := "211491cd4deca59496d26469a8b7172f8b4a8d4eb4b04dd7ec952457e98cbfc2", checked := Try.checked }
namespace Rows
def none {H : Type} : Left H := { results := [], args := [] }

/-- 'narrowslaw06.VectorBounds': WHATEVER THE INPUT: true; the input reads as it did. -/
def vectorBoundsSpec : ChangeSpec := { name := "vectorBounds", fn := fun _ => fun
  | [d] => { results := [.lit (.bool true)], args := [d] }
  | _ => none }
def vectorBoundsRow : OpenClaim := { program := "ytppeponndkfbkaa", sum := "211491cd4deca59496d26469a8b7172f8b4a8d4eb4b04dd7ec952457e98cbfc2", func := "narrows/narrowslaw06.VectorBounds", spec := "vectorBounds", unfollowed := true, recurses := true, named := ["math/bits.overflowError"], apart := false }
def VectorBoundsSaid : Prop := vectorBoundsRow.holds Try.pinned (OpenSpec.ofChange vectorBoundsSpec)

/-- ITS FALSE NEIGHBOUR: 'it returns false'. Refute it at one input. -/
def vectorBoundsWrong : ChangeSpec := { name := "vectorBounds", fn := fun _ => fun
  | [d] => { results := [.lit (.bool false)], args := [d] }
  | _ => none }
def VectorBoundsWrongFalsely : Prop := vectorBoundsRow.holds Try.pinned (OpenSpec.ofChange vectorBoundsWrong)

/-- 'narrowslaw09.LineSides': WHATEVER THE INPUT: true; the input reads as it did. -/
def lineSidesSpec : ChangeSpec := { name := "lineSides", fn := fun _ => fun
  | [d1, d2, d3] => { results := [.lit (.bool true)], args := [d1, d2, d3] }
  | _ => none }
def lineSidesRow : OpenClaim := { program := "ytppeponndkfbkaa", sum := "211491cd4deca59496d26469a8b7172f8b4a8d4eb4b04dd7ec952457e98cbfc2", func := "narrows/narrowslaw09.LineSides", spec := "lineSides", unfollowed := true, recurses := true, named := ["math/bits.overflowError"], apart := false }
def LineSidesSaid : Prop := lineSidesRow.holds Try.pinned (OpenSpec.ofChange lineSidesSpec)

/-- ITS FALSE NEIGHBOUR: 'it returns false'. Refute it at one input. -/
def lineSidesWrong : ChangeSpec := { name := "lineSides", fn := fun _ => fun
  | [d1, d2, d3] => { results := [.lit (.bool false)], args := [d1, d2, d3] }
  | _ => none }
def LineSidesWrongFalsely : Prop := lineSidesRow.holds Try.pinned (OpenSpec.ofChange lineSidesWrong)

/-- 'narrowslaw09.LineFewer': WHATEVER THE INPUT: true; the input reads as it did. -/
def lineFewerSpec : ChangeSpec := { name := "lineFewer", fn := fun _ => fun
  | [d1, d2, d3, d4] => { results := [.lit (.bool true)], args := [d1, d2, d3, d4] }
  | _ => none }
def lineFewerRow : OpenClaim := { program := "ytppeponndkfbkaa", sum := "211491cd4deca59496d26469a8b7172f8b4a8d4eb4b04dd7ec952457e98cbfc2", func := "narrows/narrowslaw09.LineFewer", spec := "lineFewer", unfollowed := true, recurses := true, named := ["math/bits.overflowError"], apart := false }
def LineFewerSaid : Prop := lineFewerRow.holds Try.pinned (OpenSpec.ofChange lineFewerSpec)

/-- ITS FALSE NEIGHBOUR: 'it returns false'. Refute it at one input. -/
def lineFewerWrong : ChangeSpec := { name := "lineFewer", fn := fun _ => fun
  | [d1, d2, d3, d4] => { results := [.lit (.bool false)], args := [d1, d2, d3, d4] }
  | _ => none }
def LineFewerWrongFalsely : Prop := lineFewerRow.holds Try.pinned (OpenSpec.ofChange lineFewerWrong)

/-- 'narrowslaw09.LineFeet': WHATEVER THE INPUT: true; the input reads as it did. -/
def lineFeetSpec : ChangeSpec := { name := "lineFeet", fn := fun _ => fun
  | [d1, d2, d3] => { results := [.lit (.bool true)], args := [d1, d2, d3] }
  | _ => none }
def lineFeetRow : OpenClaim := { program := "ytppeponndkfbkaa", sum := "211491cd4deca59496d26469a8b7172f8b4a8d4eb4b04dd7ec952457e98cbfc2", func := "narrows/narrowslaw09.LineFeet", spec := "lineFeet", unfollowed := true, recurses := true, named := ["math/bits.overflowError"], apart := false }
def LineFeetSaid : Prop := lineFeetRow.holds Try.pinned (OpenSpec.ofChange lineFeetSpec)

/-- ITS FALSE NEIGHBOUR: 'it returns false'. Refute it at one input. -/
def lineFeetWrong : ChangeSpec := { name := "lineFeet", fn := fun _ => fun
  | [d1, d2, d3] => { results := [.lit (.bool false)], args := [d1, d2, d3] }
  | _ => none }
def LineFeetWrongFalsely : Prop := lineFeetRow.holds Try.pinned (OpenSpec.ofChange lineFeetWrong)

/-- 'narrowslaw09.LineBisects': WHATEVER THE INPUT: true; the input reads as it did. -/
def lineBisectsSpec : ChangeSpec := { name := "lineBisects", fn := fun _ => fun
  | [d1, d2, d3] => { results := [.lit (.bool true)], args := [d1, d2, d3] }
  | _ => none }
def lineBisectsRow : OpenClaim := { program := "ytppeponndkfbkaa", sum := "211491cd4deca59496d26469a8b7172f8b4a8d4eb4b04dd7ec952457e98cbfc2", func := "narrows/narrowslaw09.LineBisects", spec := "lineBisects", unfollowed := true, recurses := true, named := ["math/bits.overflowError"], apart := false }
def LineBisectsSaid : Prop := lineBisectsRow.holds Try.pinned (OpenSpec.ofChange lineBisectsSpec)

/-- ITS FALSE NEIGHBOUR: 'it returns false'. Refute it at one input. -/
def lineBisectsWrong : ChangeSpec := { name := "lineBisects", fn := fun _ => fun
  | [d1, d2, d3] => { results := [.lit (.bool false)], args := [d1, d2, d3] }
  | _ => none }
def LineBisectsWrongFalsely : Prop := lineBisectsRow.holds Try.pinned (OpenSpec.ofChange lineBisectsWrong)

/-- 'narrowslaw09.LineMeets': WHATEVER THE INPUT: true; the input reads as it did. -/
def lineMeetsSpec : ChangeSpec := { name := "lineMeets", fn := fun _ => fun
  | [d1, d2, d3] => { results := [.lit (.bool true)], args := [d1, d2, d3] }
  | _ => none }
def lineMeetsRow : OpenClaim := { program := "ytppeponndkfbkaa", sum := "211491cd4deca59496d26469a8b7172f8b4a8d4eb4b04dd7ec952457e98cbfc2", func := "narrows/narrowslaw09.LineMeets", spec := "lineMeets", unfollowed := true, recurses := true, named := ["math/bits.overflowError"], apart := false }
def LineMeetsSaid : Prop := lineMeetsRow.holds Try.pinned (OpenSpec.ofChange lineMeetsSpec)

/-- ITS FALSE NEIGHBOUR: 'it returns false'. Refute it at one input. -/
def lineMeetsWrong : ChangeSpec := { name := "lineMeets", fn := fun _ => fun
  | [d1, d2, d3] => { results := [.lit (.bool false)], args := [d1, d2, d3] }
  | _ => none }
def LineMeetsWrongFalsely : Prop := lineMeetsRow.holds Try.pinned (OpenSpec.ofChange lineMeetsWrong)

/- THE SECOND FORM. 'bulk': how many values and letters a reading holds, each counted each time it is reached (what is shared counts as often as it is met; a slice's spare places count too). A statement '..UptoSaid' is the law's where the arguments, and the package variables that the reading takes, are together of bulk at most 1048576: NARROWER than '..Said'. Prove '..Said' where nothing that the law and all that it calls make is longer than what came in: it says more and counts as full. Else prove '..UptoSaid'. A law counts once. -/
mutual
def uptoBulk {H : Type} : DataW H → Nat
  | .lit (.string bytes) => bytes.length + 1
  | .lit _ => 1
  | .nil => 1
  | .ptr d => uptoBulk d + 1
  | .slice elems spare => uptoBulkAll elems + uptoBulkAll spare + 1
  | .agg parts => uptoBulkAll parts + 1
  | .iface _ d => uptoBulk d + 1
  | .map entries => uptoBulkEntries entries + 1
  | .held _ => 1
def uptoBulkAll {H : Type} : List (DataW H) → Nat
  | [] => 0
  | d :: r => uptoBulk d + uptoBulkAll r
def uptoBulkEntries {H : Type} : List (Lit × DataW H) → Nat
  | [] => 0
  | x :: r => uptoBulkEntry x + uptoBulkEntries r
def uptoBulkEntry {H : Type} : Lit × DataW H → Nat
  | (.string bytes, d) => bytes.length + uptoBulk d + 1
  | (_, d) => uptoBulk d + 1
 end
def uptoSmall : (H : Type) → List (DataW H) → Bool := fun _ ds => decide (uptoBulkAll ds ≤ 1048576)
def OpenSpec.upto (s : _root_.Go.ChangeSpec) : _root_.Go.OpenSpec := { _root_.Go.OpenSpec.ofChange s with cond := some uptoSmall }

/-- 'narrowslaw06.VectorBounds', WHERE WHAT IT READS IS OF BULK AT MOST 1048576: true; the input reads as it did. -/
def vectorBoundsUptoRow : OpenClaim := { program := "ytppeponndkfbkaa", sum := "211491cd4deca59496d26469a8b7172f8b4a8d4eb4b04dd7ec952457e98cbfc2", func := "narrows/narrowslaw06.VectorBounds", spec := "vectorBounds", unfollowed := true, recurses := true, named := ["math/bits.overflowError"], apart := false, narrowed := true }
def VectorBoundsUptoSaid : Prop := vectorBoundsUptoRow.holds Try.pinned (OpenSpec.upto vectorBoundsSpec)

/-- 'narrowslaw09.LineSides', WHERE WHAT IT READS IS OF BULK AT MOST 1048576: true; the input reads as it did. -/
def lineSidesUptoRow : OpenClaim := { program := "ytppeponndkfbkaa", sum := "211491cd4deca59496d26469a8b7172f8b4a8d4eb4b04dd7ec952457e98cbfc2", func := "narrows/narrowslaw09.LineSides", spec := "lineSides", unfollowed := true, recurses := true, named := ["math/bits.overflowError"], apart := false, narrowed := true }
def LineSidesUptoSaid : Prop := lineSidesUptoRow.holds Try.pinned (OpenSpec.upto lineSidesSpec)

/-- 'narrowslaw09.LineFewer', WHERE WHAT IT READS IS OF BULK AT MOST 1048576: true; the input reads as it did. -/
def lineFewerUptoRow : OpenClaim := { program := "ytppeponndkfbkaa", sum := "211491cd4deca59496d26469a8b7172f8b4a8d4eb4b04dd7ec952457e98cbfc2", func := "narrows/narrowslaw09.LineFewer", spec := "lineFewer", unfollowed := true, recurses := true, named := ["math/bits.overflowError"], apart := false, narrowed := true }
def LineFewerUptoSaid : Prop := lineFewerUptoRow.holds Try.pinned (OpenSpec.upto lineFewerSpec)

/-- 'narrowslaw09.LineFeet', WHERE WHAT IT READS IS OF BULK AT MOST 1048576: true; the input reads as it did. -/
def lineFeetUptoRow : OpenClaim := { program := "ytppeponndkfbkaa", sum := "211491cd4deca59496d26469a8b7172f8b4a8d4eb4b04dd7ec952457e98cbfc2", func := "narrows/narrowslaw09.LineFeet", spec := "lineFeet", unfollowed := true, recurses := true, named := ["math/bits.overflowError"], apart := false, narrowed := true }
def LineFeetUptoSaid : Prop := lineFeetUptoRow.holds Try.pinned (OpenSpec.upto lineFeetSpec)

/-- 'narrowslaw09.LineBisects', WHERE WHAT IT READS IS OF BULK AT MOST 1048576: true; the input reads as it did. -/
def lineBisectsUptoRow : OpenClaim := { program := "ytppeponndkfbkaa", sum := "211491cd4deca59496d26469a8b7172f8b4a8d4eb4b04dd7ec952457e98cbfc2", func := "narrows/narrowslaw09.LineBisects", spec := "lineBisects", unfollowed := true, recurses := true, named := ["math/bits.overflowError"], apart := false, narrowed := true }
def LineBisectsUptoSaid : Prop := lineBisectsUptoRow.holds Try.pinned (OpenSpec.upto lineBisectsSpec)

/-- 'narrowslaw09.LineMeets', WHERE WHAT IT READS IS OF BULK AT MOST 1048576: true; the input reads as it did. -/
def lineMeetsUptoRow : OpenClaim := { program := "ytppeponndkfbkaa", sum := "211491cd4deca59496d26469a8b7172f8b4a8d4eb4b04dd7ec952457e98cbfc2", func := "narrows/narrowslaw09.LineMeets", spec := "lineMeets", unfollowed := true, recurses := true, named := ["math/bits.overflowError"], apart := false, narrowed := true }
def LineMeetsUptoSaid : Prop := lineMeetsUptoRow.holds Try.pinned (OpenSpec.upto lineMeetsSpec)

end Rows
end Go.Proofs.Ytppeponndkfbkaa
