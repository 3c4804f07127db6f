/-
  No cell of these rows narrows 'for every input' (looked for: loops, veiled, ifaces, maps, wideKeys, modest, calm, conditions, laid).
  DERIVED. THE GIVEN ROWS OF THIS SEAT. 4 by the template 'for every input the law returns true; each argument reads behind the call as it read before'; 0 by the template 'total and deterministic' (their statements: YtpnghjmphbhkjaaTotals.lean).
  GIVEN WITH THE SEED: the statements are not yours to turn. If you find one false, say at which input.
  Laid BY PROGRAM, IN A SANDBOX (cutbox-rows.mjs): the forced cells as the released guide's own fill.sh prints them over the translation 8a4e6b68abb2a067… (all of the seat's roots in one cut). By AI agents, Wed Nov 11 2026. No macro, syntax, notation, axiom, sorry.
-/
import Derived.Test.YtpnghjmphbhkjaaChecked
import GoSem.Claim
import GoSem.ClaimJoined
import GoSem.ClaimMapViews
import Derived.JoinedTies
import Derived.KernelRfl
namespace Go.Proofs.Ytpnghjmphbhkjaa
/- THE CELL 'sum', in the pinned program and in every row, IS THE sha256 OF THE DUMP (.gsa) THAT YtpnghjmphbhkjaaProg.lean LOADS. Nothing in Lean hashes anything: it is a label: what it is worth is what the hold of that sum in a sandbox is worth. -/
noncomputable def Try.pinned : Pinned := { name := "ytpnghjmphbhkjaa", sum := "8a4e6b68abb2a06767231fbd404999beac6c288e8c5ad2c811958b7ad93a2018", checked := Try.checked }
namespace Rows
def none {H : Type} : Left H := { results := [], args := [] }

/-- 'vouchtop.WholeLogs': WHATEVER THE INPUT: true; the input reads as it did. -/
def wholeLogsSpec : ChangeSpec := { name := "wholeLogs", fn := fun _ => fun
  | [d1, d2, d3] => { results := [.lit (.bool true)], args := [d1, d2, d3] }
  | _ => none }
def wholeLogsRow : OpenClaim := { program := "ytpnghjmphbhkjaa", sum := "8a4e6b68abb2a06767231fbd404999beac6c288e8c5ad2c811958b7ad93a2018", func := "vouch/vouchtop.WholeLogs", spec := "wholeLogs", unfollowed := true, recurses := true, apart := false }
def WholeLogsSaid : Prop := wholeLogsRow.holds Try.pinned (OpenSpec.ofChange wholeLogsSpec)

/-- ITS FALSE NEIGHBOUR: 'it returns false'. Refute it at one input. -/
def wholeLogsWrong : ChangeSpec := { name := "wholeLogs", fn := fun _ => fun
  | [d1, d2, d3] => { results := [.lit (.bool false)], args := [d1, d2, d3] }
  | _ => none }
def WholeLogsWrongFalsely : Prop := wholeLogsRow.holds Try.pinned (OpenSpec.ofChange wholeLogsWrong)

/-- 'vouchtop.WholeRecords': WHATEVER THE INPUT: true; the input reads as it did. -/
def wholeRecordsSpec : ChangeSpec := { name := "wholeRecords", fn := fun _ => fun
  | [d1, d2, d3, d4, d5] => { results := [.lit (.bool true)], args := [d1, d2, d3, d4, d5] }
  | _ => none }
def wholeRecordsRow : OpenClaim := { program := "ytpnghjmphbhkjaa", sum := "8a4e6b68abb2a06767231fbd404999beac6c288e8c5ad2c811958b7ad93a2018", func := "vouch/vouchtop.WholeRecords", spec := "wholeRecords", unfollowed := true, recurses := true, apart := false }
def WholeRecordsSaid : Prop := wholeRecordsRow.holds Try.pinned (OpenSpec.ofChange wholeRecordsSpec)

/-- ITS FALSE NEIGHBOUR: 'it returns false'. Refute it at one input. -/
def wholeRecordsWrong : ChangeSpec := { name := "wholeRecords", fn := fun _ => fun
  | [d1, d2, d3, d4, d5] => { results := [.lit (.bool false)], args := [d1, d2, d3, d4, d5] }
  | _ => none }
def WholeRecordsWrongFalsely : Prop := wholeRecordsRow.holds Try.pinned (OpenSpec.ofChange wholeRecordsWrong)

/-- 'vouchtop.WholeDirect': WHATEVER THE INPUT: true; the input reads as it did. -/
def wholeDirectSpec : ChangeSpec := { name := "wholeDirect", fn := fun _ => fun
  | [d1, d2, d3, d4] => { results := [.lit (.bool true)], args := [d1, d2, d3, d4] }
  | _ => none }
def wholeDirectRow : OpenClaim := { program := "ytpnghjmphbhkjaa", sum := "8a4e6b68abb2a06767231fbd404999beac6c288e8c5ad2c811958b7ad93a2018", func := "vouch/vouchtop.WholeDirect", spec := "wholeDirect", unfollowed := true, recurses := true, apart := false }
def WholeDirectSaid : Prop := wholeDirectRow.holds Try.pinned (OpenSpec.ofChange wholeDirectSpec)

/-- ITS FALSE NEIGHBOUR: 'it returns false'. Refute it at one input. -/
def wholeDirectWrong : ChangeSpec := { name := "wholeDirect", fn := fun _ => fun
  | [d1, d2, d3, d4] => { results := [.lit (.bool false)], args := [d1, d2, d3, d4] }
  | _ => none }
def WholeDirectWrongFalsely : Prop := wholeDirectRow.holds Try.pinned (OpenSpec.ofChange wholeDirectWrong)

/-- 'vouchtop.WholeVictims': WHATEVER THE INPUT: true; the input reads as it did. -/
def wholeVictimsSpec : ChangeSpec := { name := "wholeVictims", fn := fun _ => fun
  | [d1, d2] => { results := [.lit (.bool true)], args := [d1, d2] }
  | _ => none }
def wholeVictimsRow : OpenClaim := { program := "ytpnghjmphbhkjaa", sum := "8a4e6b68abb2a06767231fbd404999beac6c288e8c5ad2c811958b7ad93a2018", func := "vouch/vouchtop.WholeVictims", spec := "wholeVictims", inPlace := ["slices.overlaps[vouch/api.Entry]"], unfollowed := true, recurses := true, apart := false }
def WholeVictimsSaid : Prop := wholeVictimsRow.holds Try.pinned (OpenSpec.ofChange wholeVictimsSpec)

/-- ITS FALSE NEIGHBOUR: 'it returns false'. Refute it at one input. -/
def wholeVictimsWrong : ChangeSpec := { name := "wholeVictims", fn := fun _ => fun
  | [d1, d2] => { results := [.lit (.bool false)], args := [d1, d2] }
  | _ => none }
def WholeVictimsWrongFalsely : Prop := wholeVictimsRow.holds Try.pinned (OpenSpec.ofChange wholeVictimsWrong)

/- THE SECOND FORM. 'bulk': how many values and letters a reading holds, each counted each time it is reached (what is shared counts as often as it is met; a slice's spare places count too). A statement '..UptoSaid' is the law's where the arguments, and the package variables that the reading takes, are together of bulk at most 1048576: NARROWER than '..Said'. Prove '..Said' where nothing that the law and all that it calls make is longer than what came in: it says more and counts as full. Else prove '..UptoSaid'. A law counts once. -/
mutual
def uptoBulk {H : Type} : DataW H → Nat
  | .lit (.string bytes) => bytes.length + 1
  | .lit _ => 1
  | .nil => 1
  | .ptr d => uptoBulk d + 1
  | .slice elems spare => uptoBulkAll elems + uptoBulkAll spare + 1
  | .agg parts => uptoBulkAll parts + 1
  | .iface _ d => uptoBulk d + 1
  | .map entries => uptoBulkEntries entries + 1
  | .held _ => 1
def uptoBulkAll {H : Type} : List (DataW H) → Nat
  | [] => 0
  | d :: r => uptoBulk d + uptoBulkAll r
def uptoBulkEntries {H : Type} : List (Lit × DataW H) → Nat
  | [] => 0
  | x :: r => uptoBulkEntry x + uptoBulkEntries r
def uptoBulkEntry {H : Type} : Lit × DataW H → Nat
  | (.string bytes, d) => bytes.length + uptoBulk d + 1
  | (_, d) => uptoBulk d + 1
 end
def uptoSmall : (H : Type) → List (DataW H) → Bool := fun _ ds => decide (uptoBulkAll ds ≤ 1048576)
def OpenSpec.upto (s : _root_.Go.ChangeSpec) : _root_.Go.OpenSpec := { _root_.Go.OpenSpec.ofChange s with cond := some uptoSmall }

/-- 'vouchtop.WholeLogs', WHERE WHAT IT READS IS OF BULK AT MOST 1048576: true; the input reads as it did. -/
def wholeLogsUptoRow : OpenClaim := { program := "ytpnghjmphbhkjaa", sum := "8a4e6b68abb2a06767231fbd404999beac6c288e8c5ad2c811958b7ad93a2018", func := "vouch/vouchtop.WholeLogs", spec := "wholeLogs", unfollowed := true, recurses := true, apart := false, narrowed := true }
def WholeLogsUptoSaid : Prop := wholeLogsUptoRow.holds Try.pinned (OpenSpec.upto wholeLogsSpec)

/-- 'vouchtop.WholeRecords', WHERE WHAT IT READS IS OF BULK AT MOST 1048576: true; the input reads as it did. -/
def wholeRecordsUptoRow : OpenClaim := { program := "ytpnghjmphbhkjaa", sum := "8a4e6b68abb2a06767231fbd404999beac6c288e8c5ad2c811958b7ad93a2018", func := "vouch/vouchtop.WholeRecords", spec := "wholeRecords", unfollowed := true, recurses := true, apart := false, narrowed := true }
def WholeRecordsUptoSaid : Prop := wholeRecordsUptoRow.holds Try.pinned (OpenSpec.upto wholeRecordsSpec)

/-- 'vouchtop.WholeDirect', WHERE WHAT IT READS IS OF BULK AT MOST 1048576: true; the input reads as it did. -/
def wholeDirectUptoRow : OpenClaim := { program := "ytpnghjmphbhkjaa", sum := "8a4e6b68abb2a06767231fbd404999beac6c288e8c5ad2c811958b7ad93a2018", func := "vouch/vouchtop.WholeDirect", spec := "wholeDirect", unfollowed := true, recurses := true, apart := false, narrowed := true }
def WholeDirectUptoSaid : Prop := wholeDirectUptoRow.holds Try.pinned (OpenSpec.upto wholeDirectSpec)

/-- 'vouchtop.WholeVictims', WHERE WHAT IT READS IS OF BULK AT MOST 1048576: true; the input reads as it did. -/
def wholeVictimsUptoRow : OpenClaim := { program := "ytpnghjmphbhkjaa", sum := "8a4e6b68abb2a06767231fbd404999beac6c288e8c5ad2c811958b7ad93a2018", func := "vouch/vouchtop.WholeVictims", spec := "wholeVictims", inPlace := ["slices.overlaps[vouch/api.Entry]"], unfollowed := true, recurses := true, apart := false, narrowed := true }
def WholeVictimsUptoSaid : Prop := wholeVictimsUptoRow.holds Try.pinned (OpenSpec.upto wholeVictimsSpec)

end Rows
end Go.Proofs.Ytpnghjmphbhkjaa
