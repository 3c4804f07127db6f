/-
  No cell of these rows narrows 'for every input' (looked for: loops, veiled, ifaces, maps, wideKeys, modest, calm, conditions, laid).
  DERIVED. THE GIVEN ROWS OF THIS SEAT. 10 by the template 'for every input the law returns true; each argument reads behind the call as it read before'; 0 by the template 'total and deterministic' (their statements: YthgfgbligkchiaaTotals.lean).
  GIVEN WITH THE SEED: the statements are not yours to turn. If you find one false, say at which input.
  Laid BY PROGRAM, IN A SANDBOX (cutbox-rows.mjs): the forced cells as the released guide's own fill.sh prints them over the translation 87aa91603633c2d8… (all of the seat's roots in one cut). By AI agents, Wed Nov 11 2026. No macro, syntax, notation, axiom, sorry.
-/
import Derived.Test.YthgfgbligkchiaaChecked
import GoSem.Claim
import GoSem.ClaimJoined
import GoSem.ClaimMapViews
import Derived.JoinedTies
import Derived.KernelRfl
namespace Go.Proofs.Ythgfgbligkchiaa
/- THE CELL 'sum', in the pinned program and in every row, IS THE sha256 OF THE DUMP (.gsa) THAT YthgfgbligkchiaaProg.lean LOADS. Nothing in Lean hashes anything: it is a label: what it is worth is what the hold of that sum in a sandbox is worth. -/
noncomputable def Try.pinned : Pinned := { name := "ythgfgbligkchiaa", sum := "87aa91603633c2d8e180124e20fc05bc1bbc9653f3ab9c0f78180ec3c7617569", checked := Try.checked }
namespace Rows
def none {H : Type} : Left H := { results := [], args := [] }

/-- 'vouchlaw14.RouteHashes': WHATEVER THE INPUT: true; the input reads as it did. -/
def routeHashesSpec : ChangeSpec := { name := "routeHashes", fn := fun _ => fun
  | [d1, d2] => { results := [.lit (.bool true)], args := [d1, d2] }
  | _ => none }
def routeHashesRow : OpenClaim := { program := "ythgfgbligkchiaa", sum := "87aa91603633c2d8e180124e20fc05bc1bbc9653f3ab9c0f78180ec3c7617569", func := "vouch/vouchlaw14.RouteHashes", spec := "routeHashes", apart := false }
def RouteHashesSaid : Prop := routeHashesRow.holds Try.pinned (OpenSpec.ofChange routeHashesSpec)

/-- ITS FALSE NEIGHBOUR: 'it returns false'. Refute it at one input. -/
def routeHashesWrong : ChangeSpec := { name := "routeHashes", fn := fun _ => fun
  | [d1, d2] => { results := [.lit (.bool false)], args := [d1, d2] }
  | _ => none }
def RouteHashesWrongFalsely : Prop := routeHashesRow.holds Try.pinned (OpenSpec.ofChange routeHashesWrong)

/-- 'vouchlaw14.RouteSpreads': WHATEVER THE INPUT: true; the input reads as it did. -/
def routeSpreadsSpec : ChangeSpec := { name := "routeSpreads", fn := fun _ => fun
  | [d1, d2] => { results := [.lit (.bool true)], args := [d1, d2] }
  | _ => none }
def routeSpreadsRow : OpenClaim := { program := "ythgfgbligkchiaa", sum := "87aa91603633c2d8e180124e20fc05bc1bbc9653f3ab9c0f78180ec3c7617569", func := "vouch/vouchlaw14.RouteSpreads", spec := "routeSpreads", apart := false }
def RouteSpreadsSaid : Prop := routeSpreadsRow.holds Try.pinned (OpenSpec.ofChange routeSpreadsSpec)

/-- ITS FALSE NEIGHBOUR: 'it returns false'. Refute it at one input. -/
def routeSpreadsWrong : ChangeSpec := { name := "routeSpreads", fn := fun _ => fun
  | [d1, d2] => { results := [.lit (.bool false)], args := [d1, d2] }
  | _ => none }
def RouteSpreadsWrongFalsely : Prop := routeSpreadsRow.holds Try.pinned (OpenSpec.ofChange routeSpreadsWrong)

/-- 'vouchlaw14.RouteSteps': WHATEVER THE INPUT: true; the input reads as it did. -/
def routeStepsSpec : ChangeSpec := { name := "routeSteps", fn := fun _ => fun
  | [d1, d2] => { results := [.lit (.bool true)], args := [d1, d2] }
  | _ => none }
def routeStepsRow : OpenClaim := { program := "ythgfgbligkchiaa", sum := "87aa91603633c2d8e180124e20fc05bc1bbc9653f3ab9c0f78180ec3c7617569", func := "vouch/vouchlaw14.RouteSteps", spec := "routeSteps", apart := false }
def RouteStepsSaid : Prop := routeStepsRow.holds Try.pinned (OpenSpec.ofChange routeStepsSpec)

/-- ITS FALSE NEIGHBOUR: 'it returns false'. Refute it at one input. -/
def routeStepsWrong : ChangeSpec := { name := "routeSteps", fn := fun _ => fun
  | [d1, d2] => { results := [.lit (.bool false)], args := [d1, d2] }
  | _ => none }
def RouteStepsWrongFalsely : Prop := routeStepsRow.holds Try.pinned (OpenSpec.ofChange routeStepsWrong)

/-- 'vouchlaw14.RouteRanges': WHATEVER THE INPUT: true; the input reads as it did. -/
def routeRangesSpec : ChangeSpec := { name := "routeRanges", fn := fun _ => fun
  | [d1, d2] => { results := [.lit (.bool true)], args := [d1, d2] }
  | _ => none }
def routeRangesRow : OpenClaim := { program := "ythgfgbligkchiaa", sum := "87aa91603633c2d8e180124e20fc05bc1bbc9653f3ab9c0f78180ec3c7617569", func := "vouch/vouchlaw14.RouteRanges", spec := "routeRanges", apart := false }
def RouteRangesSaid : Prop := routeRangesRow.holds Try.pinned (OpenSpec.ofChange routeRangesSpec)

/-- ITS FALSE NEIGHBOUR: 'it returns false'. Refute it at one input. -/
def routeRangesWrong : ChangeSpec := { name := "routeRanges", fn := fun _ => fun
  | [d1, d2] => { results := [.lit (.bool false)], args := [d1, d2] }
  | _ => none }
def RouteRangesWrongFalsely : Prop := routeRangesRow.holds Try.pinned (OpenSpec.ofChange routeRangesWrong)

/-- 'vouchlaw09.FactKnows': WHATEVER THE INPUT: true; the input reads as it did. -/
def factKnowsSpec : ChangeSpec := { name := "factKnows", fn := fun _ => fun
  | [d1, d2, d3] => { results := [.lit (.bool true)], args := [d1, d2, d3] }
  | _ => none }
def factKnowsRow : OpenClaim := { program := "ythgfgbligkchiaa", sum := "87aa91603633c2d8e180124e20fc05bc1bbc9653f3ab9c0f78180ec3c7617569", func := "vouch/vouchlaw09.FactKnows", spec := "factKnows", apart := false }
def FactKnowsSaid : Prop := factKnowsRow.holds Try.pinned (OpenSpec.ofChange factKnowsSpec)

/-- ITS FALSE NEIGHBOUR: 'it returns false'. Refute it at one input. -/
def factKnowsWrong : ChangeSpec := { name := "factKnows", fn := fun _ => fun
  | [d1, d2, d3] => { results := [.lit (.bool false)], args := [d1, d2, d3] }
  | _ => none }
def FactKnowsWrongFalsely : Prop := factKnowsRow.holds Try.pinned (OpenSpec.ofChange factKnowsWrong)

/-- 'vouchlaw09.FactCloses': WHATEVER THE INPUT: true; the input reads as it did. -/
def factClosesSpec : ChangeSpec := { name := "factCloses", fn := fun _ => fun
  | [d1, d2, d3] => { results := [.lit (.bool true)], args := [d1, d2, d3] }
  | _ => none }
def factClosesRow : OpenClaim := { program := "ythgfgbligkchiaa", sum := "87aa91603633c2d8e180124e20fc05bc1bbc9653f3ab9c0f78180ec3c7617569", func := "vouch/vouchlaw09.FactCloses", spec := "factCloses", apart := false }
def FactClosesSaid : Prop := factClosesRow.holds Try.pinned (OpenSpec.ofChange factClosesSpec)

/-- ITS FALSE NEIGHBOUR: 'it returns false'. Refute it at one input. -/
def factClosesWrong : ChangeSpec := { name := "factCloses", fn := fun _ => fun
  | [d1, d2, d3] => { results := [.lit (.bool false)], args := [d1, d2, d3] }
  | _ => none }
def FactClosesWrongFalsely : Prop := factClosesRow.holds Try.pinned (OpenSpec.ofChange factClosesWrong)

/-- 'vouchlaw09.FactMerges': WHATEVER THE INPUT: true; the input reads as it did. -/
def factMergesSpec : ChangeSpec := { name := "factMerges", fn := fun _ => fun
  | [d1, d2, d3, d4, d5, d6] => { results := [.lit (.bool true)], args := [d1, d2, d3, d4, d5, d6] }
  | _ => none }
def factMergesRow : OpenClaim := { program := "ythgfgbligkchiaa", sum := "87aa91603633c2d8e180124e20fc05bc1bbc9653f3ab9c0f78180ec3c7617569", func := "vouch/vouchlaw09.FactMerges", spec := "factMerges", apart := false }
def FactMergesSaid : Prop := factMergesRow.holds Try.pinned (OpenSpec.ofChange factMergesSpec)

/-- ITS FALSE NEIGHBOUR: 'it returns false'. Refute it at one input. -/
def factMergesWrong : ChangeSpec := { name := "factMerges", fn := fun _ => fun
  | [d1, d2, d3, d4, d5, d6] => { results := [.lit (.bool false)], args := [d1, d2, d3, d4, d5, d6] }
  | _ => none }
def FactMergesWrongFalsely : Prop := factMergesRow.holds Try.pinned (OpenSpec.ofChange factMergesWrong)

/-- 'vouchlaw09.FactEnds': WHATEVER THE INPUT: true; the input reads as it did. -/
def factEndsSpec : ChangeSpec := { name := "factEnds", fn := fun _ => fun
  | [d1, d2, d3, d4] => { results := [.lit (.bool true)], args := [d1, d2, d3, d4] }
  | _ => none }
def factEndsRow : OpenClaim := { program := "ythgfgbligkchiaa", sum := "87aa91603633c2d8e180124e20fc05bc1bbc9653f3ab9c0f78180ec3c7617569", func := "vouch/vouchlaw09.FactEnds", spec := "factEnds", apart := false }
def FactEndsSaid : Prop := factEndsRow.holds Try.pinned (OpenSpec.ofChange factEndsSpec)

/-- ITS FALSE NEIGHBOUR: 'it returns false'. Refute it at one input. -/
def factEndsWrong : ChangeSpec := { name := "factEnds", fn := fun _ => fun
  | [d1, d2, d3, d4] => { results := [.lit (.bool false)], args := [d1, d2, d3, d4] }
  | _ => none }
def FactEndsWrongFalsely : Prop := factEndsRow.holds Try.pinned (OpenSpec.ofChange factEndsWrong)

/-- 'vouchlaw09.FactHeld': WHATEVER THE INPUT: true; the input reads as it did. -/
def factHeldSpec : ChangeSpec := { name := "factHeld", fn := fun _ => fun
  | [d] => { results := [.lit (.bool true)], args := [d] }
  | _ => none }
def factHeldRow : OpenClaim := { program := "ythgfgbligkchiaa", sum := "87aa91603633c2d8e180124e20fc05bc1bbc9653f3ab9c0f78180ec3c7617569", func := "vouch/vouchlaw09.FactHeld", spec := "factHeld", unfollowed := true, recurses := true, apart := false }
def FactHeldSaid : Prop := factHeldRow.holds Try.pinned (OpenSpec.ofChange factHeldSpec)

/-- ITS FALSE NEIGHBOUR: 'it returns false'. Refute it at one input. -/
def factHeldWrong : ChangeSpec := { name := "factHeld", fn := fun _ => fun
  | [d] => { results := [.lit (.bool false)], args := [d] }
  | _ => none }
def FactHeldWrongFalsely : Prop := factHeldRow.holds Try.pinned (OpenSpec.ofChange factHeldWrong)

/-- 'vouchlaw09.FactNarrows': WHATEVER THE INPUT: true; the input reads as it did. -/
def factNarrowsSpec : ChangeSpec := { name := "factNarrows", fn := fun _ => fun
  | [d1, d2, d3] => { results := [.lit (.bool true)], args := [d1, d2, d3] }
  | _ => none }
def factNarrowsRow : OpenClaim := { program := "ythgfgbligkchiaa", sum := "87aa91603633c2d8e180124e20fc05bc1bbc9653f3ab9c0f78180ec3c7617569", func := "vouch/vouchlaw09.FactNarrows", spec := "factNarrows", unfollowed := true, recurses := true, apart := false }
def FactNarrowsSaid : Prop := factNarrowsRow.holds Try.pinned (OpenSpec.ofChange factNarrowsSpec)

/-- ITS FALSE NEIGHBOUR: 'it returns false'. Refute it at one input. -/
def factNarrowsWrong : ChangeSpec := { name := "factNarrows", fn := fun _ => fun
  | [d1, d2, d3] => { results := [.lit (.bool false)], args := [d1, d2, d3] }
  | _ => none }
def FactNarrowsWrongFalsely : Prop := factNarrowsRow.holds Try.pinned (OpenSpec.ofChange factNarrowsWrong)

/- THE SECOND FORM. 'bulk': how many values and letters a reading holds, each counted each time it is reached (what is shared counts as often as it is met; a slice's spare places count too). A statement '..UptoSaid' is the law's where the arguments, and the package variables that the reading takes, are together of bulk at most 1048576: NARROWER than '..Said'. Prove '..Said' where nothing that the law and all that it calls make is longer than what came in: it says more and counts as full. Else prove '..UptoSaid'. A law counts once. -/
mutual
def uptoBulk {H : Type} : DataW H → Nat
  | .lit (.string bytes) => bytes.length + 1
  | .lit _ => 1
  | .nil => 1
  | .ptr d => uptoBulk d + 1
  | .slice elems spare => uptoBulkAll elems + uptoBulkAll spare + 1
  | .agg parts => uptoBulkAll parts + 1
  | .iface _ d => uptoBulk d + 1
  | .map entries => uptoBulkEntries entries + 1
  | .held _ => 1
def uptoBulkAll {H : Type} : List (DataW H) → Nat
  | [] => 0
  | d :: r => uptoBulk d + uptoBulkAll r
def uptoBulkEntries {H : Type} : List (Lit × DataW H) → Nat
  | [] => 0
  | x :: r => uptoBulkEntry x + uptoBulkEntries r
def uptoBulkEntry {H : Type} : Lit × DataW H → Nat
  | (.string bytes, d) => bytes.length + uptoBulk d + 1
  | (_, d) => uptoBulk d + 1
 end
def uptoSmall : (H : Type) → List (DataW H) → Bool := fun _ ds => decide (uptoBulkAll ds ≤ 1048576)
def OpenSpec.upto (s : _root_.Go.ChangeSpec) : _root_.Go.OpenSpec := { _root_.Go.OpenSpec.ofChange s with cond := some uptoSmall }

/-- 'vouchlaw14.RouteHashes', WHERE WHAT IT READS IS OF BULK AT MOST 1048576: true; the input reads as it did. -/
def routeHashesUptoRow : OpenClaim := { program := "ythgfgbligkchiaa", sum := "87aa91603633c2d8e180124e20fc05bc1bbc9653f3ab9c0f78180ec3c7617569", func := "vouch/vouchlaw14.RouteHashes", spec := "routeHashes", apart := false, narrowed := true }
def RouteHashesUptoSaid : Prop := routeHashesUptoRow.holds Try.pinned (OpenSpec.upto routeHashesSpec)

/-- 'vouchlaw14.RouteSpreads', WHERE WHAT IT READS IS OF BULK AT MOST 1048576: true; the input reads as it did. -/
def routeSpreadsUptoRow : OpenClaim := { program := "ythgfgbligkchiaa", sum := "87aa91603633c2d8e180124e20fc05bc1bbc9653f3ab9c0f78180ec3c7617569", func := "vouch/vouchlaw14.RouteSpreads", spec := "routeSpreads", apart := false, narrowed := true }
def RouteSpreadsUptoSaid : Prop := routeSpreadsUptoRow.holds Try.pinned (OpenSpec.upto routeSpreadsSpec)

/-- 'vouchlaw14.RouteSteps', WHERE WHAT IT READS IS OF BULK AT MOST 1048576: true; the input reads as it did. -/
def routeStepsUptoRow : OpenClaim := { program := "ythgfgbligkchiaa", sum := "87aa91603633c2d8e180124e20fc05bc1bbc9653f3ab9c0f78180ec3c7617569", func := "vouch/vouchlaw14.RouteSteps", spec := "routeSteps", apart := false, narrowed := true }
def RouteStepsUptoSaid : Prop := routeStepsUptoRow.holds Try.pinned (OpenSpec.upto routeStepsSpec)

/-- 'vouchlaw14.RouteRanges', WHERE WHAT IT READS IS OF BULK AT MOST 1048576: true; the input reads as it did. -/
def routeRangesUptoRow : OpenClaim := { program := "ythgfgbligkchiaa", sum := "87aa91603633c2d8e180124e20fc05bc1bbc9653f3ab9c0f78180ec3c7617569", func := "vouch/vouchlaw14.RouteRanges", spec := "routeRanges", apart := false, narrowed := true }
def RouteRangesUptoSaid : Prop := routeRangesUptoRow.holds Try.pinned (OpenSpec.upto routeRangesSpec)

/-- 'vouchlaw09.FactKnows', WHERE WHAT IT READS IS OF BULK AT MOST 1048576: true; the input reads as it did. -/
def factKnowsUptoRow : OpenClaim := { program := "ythgfgbligkchiaa", sum := "87aa91603633c2d8e180124e20fc05bc1bbc9653f3ab9c0f78180ec3c7617569", func := "vouch/vouchlaw09.FactKnows", spec := "factKnows", apart := false, narrowed := true }
def FactKnowsUptoSaid : Prop := factKnowsUptoRow.holds Try.pinned (OpenSpec.upto factKnowsSpec)

/-- 'vouchlaw09.FactCloses', WHERE WHAT IT READS IS OF BULK AT MOST 1048576: true; the input reads as it did. -/
def factClosesUptoRow : OpenClaim := { program := "ythgfgbligkchiaa", sum := "87aa91603633c2d8e180124e20fc05bc1bbc9653f3ab9c0f78180ec3c7617569", func := "vouch/vouchlaw09.FactCloses", spec := "factCloses", apart := false, narrowed := true }
def FactClosesUptoSaid : Prop := factClosesUptoRow.holds Try.pinned (OpenSpec.upto factClosesSpec)

/-- 'vouchlaw09.FactMerges', WHERE WHAT IT READS IS OF BULK AT MOST 1048576: true; the input reads as it did. -/
def factMergesUptoRow : OpenClaim := { program := "ythgfgbligkchiaa", sum := "87aa91603633c2d8e180124e20fc05bc1bbc9653f3ab9c0f78180ec3c7617569", func := "vouch/vouchlaw09.FactMerges", spec := "factMerges", apart := false, narrowed := true }
def FactMergesUptoSaid : Prop := factMergesUptoRow.holds Try.pinned (OpenSpec.upto factMergesSpec)

/-- 'vouchlaw09.FactEnds', WHERE WHAT IT READS IS OF BULK AT MOST 1048576: true; the input reads as it did. -/
def factEndsUptoRow : OpenClaim := { program := "ythgfgbligkchiaa", sum := "87aa91603633c2d8e180124e20fc05bc1bbc9653f3ab9c0f78180ec3c7617569", func := "vouch/vouchlaw09.FactEnds", spec := "factEnds", apart := false, narrowed := true }
def FactEndsUptoSaid : Prop := factEndsUptoRow.holds Try.pinned (OpenSpec.upto factEndsSpec)

/-- 'vouchlaw09.FactHeld', WHERE WHAT IT READS IS OF BULK AT MOST 1048576: true; the input reads as it did. -/
def factHeldUptoRow : OpenClaim := { program := "ythgfgbligkchiaa", sum := "87aa91603633c2d8e180124e20fc05bc1bbc9653f3ab9c0f78180ec3c7617569", func := "vouch/vouchlaw09.FactHeld", spec := "factHeld", unfollowed := true, recurses := true, apart := false, narrowed := true }
def FactHeldUptoSaid : Prop := factHeldUptoRow.holds Try.pinned (OpenSpec.upto factHeldSpec)

/-- 'vouchlaw09.FactNarrows', WHERE WHAT IT READS IS OF BULK AT MOST 1048576: true; the input reads as it did. -/
def factNarrowsUptoRow : OpenClaim := { program := "ythgfgbligkchiaa", sum := "87aa91603633c2d8e180124e20fc05bc1bbc9653f3ab9c0f78180ec3c7617569", func := "vouch/vouchlaw09.FactNarrows", spec := "factNarrows", unfollowed := true, recurses := true, apart := false, narrowed := true }
def FactNarrowsUptoSaid : Prop := factNarrowsUptoRow.holds Try.pinned (OpenSpec.upto factNarrowsSpec)

end Rows
end Go.Proofs.Ythgfgbligkchiaa
