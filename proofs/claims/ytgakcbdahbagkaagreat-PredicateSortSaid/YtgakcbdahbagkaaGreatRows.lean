/-
  No cell of these rows narrows 'for every input' (looked for: loops, veiled, ifaces, maps, wideKeys, modest, calm, conditions, laid).
  DERIVED. THE GIVEN ROWS OF THIS SEAT. 3 by the template 'for every input the law returns true; each argument reads behind the call as it read before'; 0 by the template 'total and deterministic' (their statements: YtgakcbdahbagkaaGreatTotals.lean).
  GIVEN WITH THE SEED: the statements are not yours to turn. If you find one false, say at which input.
  Laid BY PROGRAM, IN A SANDBOX (cutbox-rows.mjs): the forced cells as the released guide's own fill.sh prints them over the translation 033621d209b7ed19… (all of the seat's roots in one cut). By AI agents, Wed Nov 11 2026. No macro, syntax, notation, axiom, sorry.
-/
import Derived.Test.YtgakcbdahbagkaaGreatChecked
import GoSem.Claim
import GoSem.ClaimJoined
import GoSem.ClaimMapViews
import Derived.JoinedTies
import Derived.KernelRfl
namespace Go.Proofs.YtgakcbdahbagkaaGreat
/- THE CELL 'sum', in the pinned program and in every row, IS THE sha256 OF THE DUMP (.gsa) THAT YtgakcbdahbagkaaGreatProg.lean LOADS. Nothing in Lean hashes anything: it is a label: what it is worth is what the hold of that sum in a sandbox is worth. -/
noncomputable def Tryz.pinned : Pinned := { name := "ytgakcbdahbagkaagreat", sum := "033621d209b7ed195d8a19bec57e412a2b127eddaf8c7ec3656be86f51b35232", checked := Tryz.checked }
namespace Rows
def none {H : Type} : Left H := { results := [], args := [] }

/-- 'narrowslaw07.PredicatePoints': WHATEVER THE INPUT: true; the input reads as it did. -/
def predicatePointsSpec : ChangeSpec := { name := "predicatePoints", fn := fun _ => fun
  | [d1, d2, d3, d4] => { results := [.lit (.bool true)], args := [d1, d2, d3, d4] }
  | _ => none }
def predicatePointsRow : OpenClaim := { program := "ytgakcbdahbagkaagreat", sum := "033621d209b7ed195d8a19bec57e412a2b127eddaf8c7ec3656be86f51b35232", func := "narrows/narrowslaw07.PredicatePoints", spec := "predicatePoints", unfollowed := true, recurses := true, named := ["math/bits.overflowError"], apart := false }
def PredicatePointsSaid : Prop := predicatePointsRow.holds Tryz.pinned (OpenSpec.ofChange predicatePointsSpec)

/-- ITS FALSE NEIGHBOUR: 'it returns false'. Refute it at one input. -/
def predicatePointsWrong : ChangeSpec := { name := "predicatePoints", fn := fun _ => fun
  | [d1, d2, d3, d4] => { results := [.lit (.bool false)], args := [d1, d2, d3, d4] }
  | _ => none }
def PredicatePointsWrongFalsely : Prop := predicatePointsRow.holds Tryz.pinned (OpenSpec.ofChange predicatePointsWrong)

/-- 'narrowslaw07.PredicateSort': WHATEVER THE INPUT: true; the input reads as it did. -/
def predicateSortSpec : ChangeSpec := { name := "predicateSort", fn := fun _ => fun
  | [d] => { results := [.lit (.bool true)], args := [d] }
  | _ => none }
def predicateSortRow : OpenClaim := { program := "ytgakcbdahbagkaagreat", sum := "033621d209b7ed195d8a19bec57e412a2b127eddaf8c7ec3656be86f51b35232", func := "narrows/narrowslaw07.PredicateSort", spec := "predicateSort", unfollowed := true, recurses := true, named := ["math/bits.overflowError"], apart := false }
def PredicateSortSaid : Prop := predicateSortRow.holds Tryz.pinned (OpenSpec.ofChange predicateSortSpec)

/-- ITS FALSE NEIGHBOUR: 'it returns false'. Refute it at one input. -/
def predicateSortWrong : ChangeSpec := { name := "predicateSort", fn := fun _ => fun
  | [d] => { results := [.lit (.bool false)], args := [d] }
  | _ => none }
def PredicateSortWrongFalsely : Prop := predicateSortRow.holds Tryz.pinned (OpenSpec.ofChange predicateSortWrong)

/-- 'narrowslaw07.PredicateDirections': WHATEVER THE INPUT: true; the input reads as it did. -/
def predicateDirectionsSpec : ChangeSpec := { name := "predicateDirections", fn := fun _ => fun
  | [d1, d2, d3, d4] => { results := [.lit (.bool true)], args := [d1, d2, d3, d4] }
  | _ => none }
def predicateDirectionsRow : OpenClaim := { program := "ytgakcbdahbagkaagreat", sum := "033621d209b7ed195d8a19bec57e412a2b127eddaf8c7ec3656be86f51b35232", func := "narrows/narrowslaw07.PredicateDirections", spec := "predicateDirections", unfollowed := true, recurses := true, named := ["math/bits.overflowError"], apart := false }
def PredicateDirectionsSaid : Prop := predicateDirectionsRow.holds Tryz.pinned (OpenSpec.ofChange predicateDirectionsSpec)

/-- ITS FALSE NEIGHBOUR: 'it returns false'. Refute it at one input. -/
def predicateDirectionsWrong : ChangeSpec := { name := "predicateDirections", fn := fun _ => fun
  | [d1, d2, d3, d4] => { results := [.lit (.bool false)], args := [d1, d2, d3, d4] }
  | _ => none }
def PredicateDirectionsWrongFalsely : Prop := predicateDirectionsRow.holds Tryz.pinned (OpenSpec.ofChange predicateDirectionsWrong)

/- THE SECOND FORM. 'bulk': how many values and letters a reading holds, each counted each time it is reached (what is shared counts as often as it is met; a slice's spare places count too). A statement '..UptoSaid' is the law's where the arguments, and the package variables that the reading takes, are together of bulk at most 1048576: NARROWER than '..Said'. Prove '..Said' where nothing that the law and all that it calls make is longer than what came in: it says more and counts as full. Else prove '..UptoSaid'. A law counts once. -/
mutual
def uptoBulk {H : Type} : DataW H → Nat
  | .lit (.string bytes) => bytes.length + 1
  | .lit _ => 1
  | .nil => 1
  | .ptr d => uptoBulk d + 1
  | .slice elems spare => uptoBulkAll elems + uptoBulkAll spare + 1
  | .agg parts => uptoBulkAll parts + 1
  | .iface _ d => uptoBulk d + 1
  | .map entries => uptoBulkEntries entries + 1
  | .held _ => 1
def uptoBulkAll {H : Type} : List (DataW H) → Nat
  | [] => 0
  | d :: r => uptoBulk d + uptoBulkAll r
def uptoBulkEntries {H : Type} : List (Lit × DataW H) → Nat
  | [] => 0
  | x :: r => uptoBulkEntry x + uptoBulkEntries r
def uptoBulkEntry {H : Type} : Lit × DataW H → Nat
  | (.string bytes, d) => bytes.length + uptoBulk d + 1
  | (_, d) => uptoBulk d + 1
 end
def uptoSmall : (H : Type) → List (DataW H) → Bool := fun _ ds => decide (uptoBulkAll ds ≤ 1048576)
def OpenSpec.upto (s : _root_.Go.ChangeSpec) : _root_.Go.OpenSpec := { _root_.Go.OpenSpec.ofChange s with cond := some uptoSmall }

/-- 'narrowslaw07.PredicatePoints', WHERE WHAT IT READS IS OF BULK AT MOST 1048576: true; the input reads as it did. -/
def predicatePointsUptoRow : OpenClaim := { program := "ytgakcbdahbagkaagreat", sum := "033621d209b7ed195d8a19bec57e412a2b127eddaf8c7ec3656be86f51b35232", func := "narrows/narrowslaw07.PredicatePoints", spec := "predicatePoints", unfollowed := true, recurses := true, named := ["math/bits.overflowError"], apart := false, narrowed := true }
def PredicatePointsUptoSaid : Prop := predicatePointsUptoRow.holds Tryz.pinned (OpenSpec.upto predicatePointsSpec)

/-- 'narrowslaw07.PredicateSort', WHERE WHAT IT READS IS OF BULK AT MOST 1048576: true; the input reads as it did. -/
def predicateSortUptoRow : OpenClaim := { program := "ytgakcbdahbagkaagreat", sum := "033621d209b7ed195d8a19bec57e412a2b127eddaf8c7ec3656be86f51b35232", func := "narrows/narrowslaw07.PredicateSort", spec := "predicateSort", unfollowed := true, recurses := true, named := ["math/bits.overflowError"], apart := false, narrowed := true }
def PredicateSortUptoSaid : Prop := predicateSortUptoRow.holds Tryz.pinned (OpenSpec.upto predicateSortSpec)

/-- 'narrowslaw07.PredicateDirections', WHERE WHAT IT READS IS OF BULK AT MOST 1048576: true; the input reads as it did. -/
def predicateDirectionsUptoRow : OpenClaim := { program := "ytgakcbdahbagkaagreat", sum := "033621d209b7ed195d8a19bec57e412a2b127eddaf8c7ec3656be86f51b35232", func := "narrows/narrowslaw07.PredicateDirections", spec := "predicateDirections", unfollowed := true, recurses := true, named := ["math/bits.overflowError"], apart := false, narrowed := true }
def PredicateDirectionsUptoSaid : Prop := predicateDirectionsUptoRow.holds Tryz.pinned (OpenSpec.upto predicateDirectionsSpec)

end Rows
end Go.Proofs.YtgakcbdahbagkaaGreat
