/-
  No cell of these rows narrows 'for every input' (looked for: loops, veiled, ifaces, maps, wideKeys, modest, calm, conditions, laid).
  DERIVED. THE GIVEN ROWS OF THIS SEAT. 6 by the template 'for every input the law returns true; each argument reads behind the call as it read before'; 0 by the template 'total and deterministic' (their statements: YtmjpcpipacciiaaTotals.lean).
  GIVEN WITH THE SEED: the statements are not yours to turn. If you find one false, say at which input.
  Laid BY PROGRAM, IN A SANDBOX (cutbox-rows.mjs): the forced cells as the released guide's own fill.sh prints them over the translation 550dbfd924773335… (all of the seat's roots in one cut). By AI agents, Wed Nov 11 2026. No macro, syntax, notation, axiom, sorry.
-/
import Derived.Test.YtmjpcpipacciiaaChecked
import GoSem.Claim
import GoSem.ClaimJoined
import GoSem.ClaimMapViews
import Derived.JoinedTies
import Derived.KernelRfl
namespace Go.Proofs.Ytmjpcpipacciiaa
/- THE CELL 'sum', in the pinned program and in every row, IS THE sha256 OF THE DUMP (.gsa) THAT YtmjpcpipacciiaaProg.lean LOADS. Nothing in Lean hashes anything: it is a label: what it is worth is what the hold of that sum in a sandbox is worth. -/
noncomputable def Try.pinned : Pinned := { name := "ytmjpcpipacciiaa", sum := "550dbfd92477333514306f88831b949bd8668b6aaaacc80ab25f281ddebbc5b2", checked := Try.checked }
namespace Rows
def none {H : Type} : Left H := { results := [], args := [] }

/-- 'vouchlaw17.TxTries': WHATEVER THE INPUT: true; the input reads as it did. -/
def txTriesSpec : ChangeSpec := { name := "txTries", fn := fun _ => fun
  | [d1, d2] => { results := [.lit (.bool true)], args := [d1, d2] }
  | _ => none }
def txTriesRow : OpenClaim := { program := "ytmjpcpipacciiaa", sum := "550dbfd92477333514306f88831b949bd8668b6aaaacc80ab25f281ddebbc5b2", func := "vouch/vouchlaw17.TxTries", spec := "txTries", apart := false }
def TxTriesSaid : Prop := txTriesRow.holds Try.pinned (OpenSpec.ofChange txTriesSpec)

/-- ITS FALSE NEIGHBOUR: 'it returns false'. Refute it at one input. -/
def txTriesWrong : ChangeSpec := { name := "txTries", fn := fun _ => fun
  | [d1, d2] => { results := [.lit (.bool false)], args := [d1, d2] }
  | _ => none }
def TxTriesWrongFalsely : Prop := txTriesRow.holds Try.pinned (OpenSpec.ofChange txTriesWrong)

/-- 'vouchlaw17.TxOnce': WHATEVER THE INPUT: true; the input reads as it did. -/
def txOnceSpec : ChangeSpec := { name := "txOnce", fn := fun _ => fun
  | [d1, d2, d3, d4, d5] => { results := [.lit (.bool true)], args := [d1, d2, d3, d4, d5] }
  | _ => none }
def txOnceRow : OpenClaim := { program := "ytmjpcpipacciiaa", sum := "550dbfd92477333514306f88831b949bd8668b6aaaacc80ab25f281ddebbc5b2", func := "vouch/vouchlaw17.TxOnce", spec := "txOnce", apart := false }
def TxOnceSaid : Prop := txOnceRow.holds Try.pinned (OpenSpec.ofChange txOnceSpec)

/-- ITS FALSE NEIGHBOUR: 'it returns false'. Refute it at one input. -/
def txOnceWrong : ChangeSpec := { name := "txOnce", fn := fun _ => fun
  | [d1, d2, d3, d4, d5] => { results := [.lit (.bool false)], args := [d1, d2, d3, d4, d5] }
  | _ => none }
def TxOnceWrongFalsely : Prop := txOnceRow.holds Try.pinned (OpenSpec.ofChange txOnceWrong)

/-- 'vouchlaw17.TxPlays': WHATEVER THE INPUT: true; the input reads as it did. -/
def txPlaysSpec : ChangeSpec := { name := "txPlays", fn := fun _ => fun
  | [d1, d2, d3, d4] => { results := [.lit (.bool true)], args := [d1, d2, d3, d4] }
  | _ => none }
def txPlaysRow : OpenClaim := { program := "ytmjpcpipacciiaa", sum := "550dbfd92477333514306f88831b949bd8668b6aaaacc80ab25f281ddebbc5b2", func := "vouch/vouchlaw17.TxPlays", spec := "txPlays", apart := false }
def TxPlaysSaid : Prop := txPlaysRow.holds Try.pinned (OpenSpec.ofChange txPlaysSpec)

/-- ITS FALSE NEIGHBOUR: 'it returns false'. Refute it at one input. -/
def txPlaysWrong : ChangeSpec := { name := "txPlays", fn := fun _ => fun
  | [d1, d2, d3, d4] => { results := [.lit (.bool false)], args := [d1, d2, d3, d4] }
  | _ => none }
def TxPlaysWrongFalsely : Prop := txPlaysRow.holds Try.pinned (OpenSpec.ofChange txPlaysWrong)

/-- 'vouchlaw17.TxNarrows': WHATEVER THE INPUT: true; the input reads as it did. -/
def txNarrowsSpec : ChangeSpec := { name := "txNarrows", fn := fun _ => fun
  | [d1, d2] => { results := [.lit (.bool true)], args := [d1, d2] }
  | _ => none }
def txNarrowsRow : OpenClaim := { program := "ytmjpcpipacciiaa", sum := "550dbfd92477333514306f88831b949bd8668b6aaaacc80ab25f281ddebbc5b2", func := "vouch/vouchlaw17.TxNarrows", spec := "txNarrows", apart := false }
def TxNarrowsSaid : Prop := txNarrowsRow.holds Try.pinned (OpenSpec.ofChange txNarrowsSpec)

/-- ITS FALSE NEIGHBOUR: 'it returns false'. Refute it at one input. -/
def txNarrowsWrong : ChangeSpec := { name := "txNarrows", fn := fun _ => fun
  | [d1, d2] => { results := [.lit (.bool false)], args := [d1, d2] }
  | _ => none }
def TxNarrowsWrongFalsely : Prop := txNarrowsRow.holds Try.pinned (OpenSpec.ofChange txNarrowsWrong)

/-- 'vouchlaw17.TxClones': WHATEVER THE INPUT: true; the input reads as it did. -/
def txClonesSpec : ChangeSpec := { name := "txClones", fn := fun _ => fun
  | [d1, d2, d3] => { results := [.lit (.bool true)], args := [d1, d2, d3] }
  | _ => none }
def txClonesRow : OpenClaim := { program := "ytmjpcpipacciiaa", sum := "550dbfd92477333514306f88831b949bd8668b6aaaacc80ab25f281ddebbc5b2", func := "vouch/vouchlaw17.TxClones", spec := "txClones", apart := false }
def TxClonesSaid : Prop := txClonesRow.holds Try.pinned (OpenSpec.ofChange txClonesSpec)

/-- ITS FALSE NEIGHBOUR: 'it returns false'. Refute it at one input. -/
def txClonesWrong : ChangeSpec := { name := "txClones", fn := fun _ => fun
  | [d1, d2, d3] => { results := [.lit (.bool false)], args := [d1, d2, d3] }
  | _ => none }
def TxClonesWrongFalsely : Prop := txClonesRow.holds Try.pinned (OpenSpec.ofChange txClonesWrong)

/-- 'vouchlaw17.TxNone': WHATEVER THE INPUT: true; the input reads as it did. -/
def txNoneSpec : ChangeSpec := { name := "txNone", fn := fun _ => fun
  | [d] => { results := [.lit (.bool true)], args := [d] }
  | _ => none }
def txNoneRow : OpenClaim := { program := "ytmjpcpipacciiaa", sum := "550dbfd92477333514306f88831b949bd8668b6aaaacc80ab25f281ddebbc5b2", func := "vouch/vouchlaw17.TxNone", spec := "txNone", apart := false }
def TxNoneSaid : Prop := txNoneRow.holds Try.pinned (OpenSpec.ofChange txNoneSpec)

/-- ITS FALSE NEIGHBOUR: 'it returns false'. Refute it at one input. -/
def txNoneWrong : ChangeSpec := { name := "txNone", fn := fun _ => fun
  | [d] => { results := [.lit (.bool false)], args := [d] }
  | _ => none }
def TxNoneWrongFalsely : Prop := txNoneRow.holds Try.pinned (OpenSpec.ofChange txNoneWrong)

/- THE SECOND FORM. 'bulk': how many values and letters a reading holds, each counted each time it is reached (what is shared counts as often as it is met; a slice's spare places count too). A statement '..UptoSaid' is the law's where the arguments, and the package variables that the reading takes, are together of bulk at most 1048576: NARROWER than '..Said'. Prove '..Said' where nothing that the law and all that it calls make is longer than what came in: it says more and counts as full. Else prove '..UptoSaid'. A law counts once. -/
mutual
def uptoBulk {H : Type} : DataW H → Nat
  | .lit (.string bytes) => bytes.length + 1
  | .lit _ => 1
  | .nil => 1
  | .ptr d => uptoBulk d + 1
  | .slice elems spare => uptoBulkAll elems + uptoBulkAll spare + 1
  | .agg parts => uptoBulkAll parts + 1
  | .iface _ d => uptoBulk d + 1
  | .map entries => uptoBulkEntries entries + 1
  | .held _ => 1
def uptoBulkAll {H : Type} : List (DataW H) → Nat
  | [] => 0
  | d :: r => uptoBulk d + uptoBulkAll r
def uptoBulkEntries {H : Type} : List (Lit × DataW H) → Nat
  | [] => 0
  | x :: r => uptoBulkEntry x + uptoBulkEntries r
def uptoBulkEntry {H : Type} : Lit × DataW H → Nat
  | (.string bytes, d) => bytes.length + uptoBulk d + 1
  | (_, d) => uptoBulk d + 1
 end
def uptoSmall : (H : Type) → List (DataW H) → Bool := fun _ ds => decide (uptoBulkAll ds ≤ 1048576)
def OpenSpec.upto (s : _root_.Go.ChangeSpec) : _root_.Go.OpenSpec := { _root_.Go.OpenSpec.ofChange s with cond := some uptoSmall }

/-- 'vouchlaw17.TxTries', WHERE WHAT IT READS IS OF BULK AT MOST 1048576: true; the input reads as it did. -/
def txTriesUptoRow : OpenClaim := { program := "ytmjpcpipacciiaa", sum := "550dbfd92477333514306f88831b949bd8668b6aaaacc80ab25f281ddebbc5b2", func := "vouch/vouchlaw17.TxTries", spec := "txTries", apart := false, narrowed := true }
def TxTriesUptoSaid : Prop := txTriesUptoRow.holds Try.pinned (OpenSpec.upto txTriesSpec)

/-- 'vouchlaw17.TxOnce', WHERE WHAT IT READS IS OF BULK AT MOST 1048576: true; the input reads as it did. -/
def txOnceUptoRow : OpenClaim := { program := "ytmjpcpipacciiaa", sum := "550dbfd92477333514306f88831b949bd8668b6aaaacc80ab25f281ddebbc5b2", func := "vouch/vouchlaw17.TxOnce", spec := "txOnce", apart := false, narrowed := true }
def TxOnceUptoSaid : Prop := txOnceUptoRow.holds Try.pinned (OpenSpec.upto txOnceSpec)

/-- 'vouchlaw17.TxPlays', WHERE WHAT IT READS IS OF BULK AT MOST 1048576: true; the input reads as it did. -/
def txPlaysUptoRow : OpenClaim := { program := "ytmjpcpipacciiaa", sum := "550dbfd92477333514306f88831b949bd8668b6aaaacc80ab25f281ddebbc5b2", func := "vouch/vouchlaw17.TxPlays", spec := "txPlays", apart := false, narrowed := true }
def TxPlaysUptoSaid : Prop := txPlaysUptoRow.holds Try.pinned (OpenSpec.upto txPlaysSpec)

/-- 'vouchlaw17.TxNarrows', WHERE WHAT IT READS IS OF BULK AT MOST 1048576: true; the input reads as it did. -/
def txNarrowsUptoRow : OpenClaim := { program := "ytmjpcpipacciiaa", sum := "550dbfd92477333514306f88831b949bd8668b6aaaacc80ab25f281ddebbc5b2", func := "vouch/vouchlaw17.TxNarrows", spec := "txNarrows", apart := false, narrowed := true }
def TxNarrowsUptoSaid : Prop := txNarrowsUptoRow.holds Try.pinned (OpenSpec.upto txNarrowsSpec)

/-- 'vouchlaw17.TxClones', WHERE WHAT IT READS IS OF BULK AT MOST 1048576: true; the input reads as it did. -/
def txClonesUptoRow : OpenClaim := { program := "ytmjpcpipacciiaa", sum := "550dbfd92477333514306f88831b949bd8668b6aaaacc80ab25f281ddebbc5b2", func := "vouch/vouchlaw17.TxClones", spec := "txClones", apart := false, narrowed := true }
def TxClonesUptoSaid : Prop := txClonesUptoRow.holds Try.pinned (OpenSpec.upto txClonesSpec)

/-- 'vouchlaw17.TxNone', WHERE WHAT IT READS IS OF BULK AT MOST 1048576: true; the input reads as it did. -/
def txNoneUptoRow : OpenClaim := { program := "ytmjpcpipacciiaa", sum := "550dbfd92477333514306f88831b949bd8668b6aaaacc80ab25f281ddebbc5b2", func := "vouch/vouchlaw17.TxNone", spec := "txNone", apart := false, narrowed := true }
def TxNoneUptoSaid : Prop := txNoneUptoRow.holds Try.pinned (OpenSpec.upto txNoneSpec)

end Rows
end Go.Proofs.Ytmjpcpipacciiaa
