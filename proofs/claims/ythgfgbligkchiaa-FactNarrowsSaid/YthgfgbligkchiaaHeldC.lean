/- fact.Held: each field held between its least and its most. No condition. -/
import Derived.Test.YthgfgbligkchiaaProg
import Derived.Below
import Derived.Deep.Draws
import Derived.Deep.AppendLies
import Derived.Maps.AppendAt
import Derived.OwnWalk
import Derived.Laws.BytesArg
import Derived.Laws.MakeOwn
import Derived.Laws.OwnMore
import Derived.Deep.OwnRows
import Derived.Tactics
import Derived.Lib.ConvBytes
import Derived.Laws.Slices
import Derived.WalkKit
import Derived.KernelRfl
import Derived.RowKit3
import Derived.Deep.LoopGhost
import Derived.Deep.QuietTactic
import Derived.BigQuiet
import Derived.WideLaws
import Derived.Deep.DeepCutAuto
import Derived.Deep.CutBlock
import Derived.Deep.RegionHeld3
import Derived.Laws.Rows
import Derived.Lib.AppendStr
import Derived.ArgAppend
import Derived.Laws.IdiomCopy
import Derived.OrdersHeld
import Derived.Laws.BitsLemmas
import Derived.RowKit
import Derived.Test.YthgfgbligkchiaaWWords
import Derived.Test.YthgfgbligkchiaaWLast
import Derived.Test.YthgfgbligkchiaaWTab
import Derived.Test.YthgfgbligkchiaaWFour
import Derived.Test.YthgfgbligkchiaaWQPut
import Derived.Test.YthgfgbligkchiaaWApart
import Derived.Test.YthgfgbligkchiaaWArr
import Derived.Test.YthgfgbligkchiaaWZeros
import Derived.Test.YthgfgbligkchiaaWFoot
import Derived.Test.YthgfgbligkchiaaWKept
import Derived.Test.YthgfgbligkchiaaWShare
import Derived.Test.YthgfgbligkchiaaWN
import Derived.Test.YthgfgbligkchiaaWFootNe
import Derived.Test.YthgfgbligkchiaaWAt
import Derived.Test.YthgfgbligkchiaaWEqStruct
import Derived.Test.YthgfgbligkchiaaWRepsOne
import Derived.Test.YthgfgbligkchiaaWInv
import Derived.Test.YthgfgbligkchiaaWInvWords
import Derived.Test.YthgfgbligkchiaaWGuard
import Derived.Test.YthgfgbligkchiaaWNEv
import Derived.Test.YthgfgbligkchiaaWMore
import Derived.Test.YthgfgbligkchiaaQTail
import Derived.Lib.QuietBelow
namespace Go.Proofs.Ythgfgbligkchiaa.HeldC
open Go.RowKit Go.Proofs.YthgfgbligkchiaaW.PrintWords Go.Proofs.YthgfgbligkchiaaW.PrintLast Go.Proofs.YthgfgbligkchiaaW.PrintMore
attribute [local go_sem] max2_int min2_int max_two min_two max_three min_three max_four min_four
set_option linter.unusedVariables false
set_option linter.unusedSimpArgs false
theorem bt {w a b : World} (h : Below w.heap.size w a) (k : Below a.heap.size a b) : Below w.heap.size w b := below_then h h.size k
def hd (n most least : Int) : Int := mn (mx n least) most
theorem held1 (n most least : Int) (w : World) : Calls Try.prog 50 #[.int .i64 n, .int .i64 most, .int .i64 least] w fun e w' => e = .returned (.int .i64 (hd n most least)) ∧ Below w.heap.size w w' := by
  by_cases h1 : n < least
  · by_cases h2 : most < least
    · have e : hd n most least = most := by unfold hd mn mx; rw [if_pos h1, if_pos h2]
      rw [e]
      go_enter Try.func50, Try.ntmps50
      go_wp2
      go_ret
      exact ⟨rfl, Below.refl _ _⟩
    · have e : hd n most least = least := by unfold hd mn mx; rw [if_pos h1, if_neg h2]
      rw [e]
      go_enter Try.func50, Try.ntmps50
      go_wp2
      go_ret
      exact ⟨rfl, Below.refl _ _⟩
  · by_cases h2 : most < n
    · have e : hd n most least = most := by unfold hd mn mx; rw [if_neg h1, if_pos h2]
      rw [e]
      go_enter Try.func50, Try.ntmps50
      go_wp2
      go_ret
      exact ⟨rfl, Below.refl _ _⟩
    · have e : hd n most least = n := by unfold hd mn mx; rw [if_neg h1, if_neg h2]
      rw [e]
      go_enter Try.func50, Try.ntmps50
      go_wp2
      go_ret
      exact ⟨rfl, Below.refl _ _⟩
set_option maxHeartbeats 2000000 in
set_option maxRecDepth 100000 in
theorem held (c0 c1 c2 c3 c4 c5 c6 c7 : Int) (w : World) : Calls Try.prog 36 #[.agg #[.int .i64 c0, .int .i64 c1, .int .i64 c2, .int .i64 c3, .int .i64 c4, .int .i64 c5, .int .i64 c6, .int .i64 c7]] w fun e w' =>
    e = .returned (.agg #[.int .i64 (hd c0 8 1), .int .i64 (hd c1 1048576 0), .int .i64 (hd c2 64 1), .int .i64 (hd c3 256 0), .int .i64 (hd c4 1024 0), .int .i64 (hd c5 64 1), .int .i64 (hd c6 256 0), .int .i64 (hd c7 16 0)]) ∧ Below w.heap.size w w' := by
  go_enter Try.func36, Try.ntmps36
  go_wp2_with fail
  have B1 : ((w.alloc (.cells #[.int .i64 c0, .int .i64 c1, .int .i64 c2, .int .i64 c3, .int .i64 c4, .int .i64 c5, .int .i64 c6, .int .i64 c7] 58)).alloc (.cells #[.int .i64 0, .int .i64 0, .int .i64 0, .int .i64 0, .int .i64 0, .int .i64 0, .int .i64 0, .int .i64 0] 58)).heap[w.heap.size]? = some (.cells #[.int .i64 c0, .int .i64 c1, .int .i64 c2, .int .i64 c3, .int .i64 c4, .int .i64 c5, .int .i64 c6, .int .i64 c7] 58 (0, 0)) := blk_alloc (blk_new _ _) _
  have B2 : ((w.alloc (.cells #[.int .i64 c0, .int .i64 c1, .int .i64 c2, .int .i64 c3, .int .i64 c4, .int .i64 c5, .int .i64 c6, .int .i64 c7] 58)).alloc (.cells #[.int .i64 0, .int .i64 0, .int .i64 0, .int .i64 0, .int .i64 0, .int .i64 0, .int .i64 0, .int .i64 0] 58)).heap[w.heap.size + 1]? = some (.cells #[.int .i64 0, .int .i64 0, .int .i64 0, .int .i64 0, .int .i64 0, .int .i64 0, .int .i64 0, .int .i64 0] 58 (0, 0)) := by
    have h_ := blk_new (w.alloc (.cells #[.int .i64 c0, .int .i64 c1, .int .i64 c2, .int .i64 c3, .int .i64 c4, .int .i64 c5, .int .i64 c6, .int .i64 c7] 58)) (.cells #[.int .i64 0, .int .i64 0, .int .i64 0, .int .i64 0, .int .i64 0, .int .i64 0, .int .i64 0, .int .i64 0] 58 (0, 0))
    simpa using h_
  have HB := below_alloc (below_alloc (Below.refl w.heap.size w) (.cells #[.int .i64 c0, .int .i64 c1, .int .i64 c2, .int .i64 c3, .int .i64 c4, .int .i64 c5, .int .i64 c6, .int .i64 c7] 58)) (.cells #[.int .i64 0, .int .i64 0, .int .i64 0, .int .i64 0, .int .i64 0, .int .i64 0, .int .i64 0, .int .i64 0] 58)
  generalize (w.alloc (.cells #[.int .i64 c0, .int .i64 c1, .int .i64 c2, .int .i64 c3, .int .i64 c4, .int .i64 c5, .int .i64 c6, .int .i64 c7] 58)).alloc (.cells #[.int .i64 0, .int .i64 0, .int .i64 0, .int .i64 0, .int .i64 0, .int .i64 0, .int .i64 0, .int .i64 0] 58) = W at B1 B2 HB ⊢
  have HBa := Aside0.mk HB; have B2a := Aside0.mk B2; clear HB B2
  have m0 := cell_regrown ((blk_cell B1 0).trans rfl)
  have m1 := cell_regrown ((blk_cell B1 1).trans rfl)
  have m2 := cell_regrown ((blk_cell B1 2).trans rfl)
  have m3 := cell_regrown ((blk_cell B1 3).trans rfl)
  have m4 := cell_regrown ((blk_cell B1 4).trans rfl)
  have m5 := cell_regrown ((blk_cell B1 5).trans rfl)
  have m6 := cell_regrown ((blk_cell B1 6).trans rfl)
  have m7 := cell_regrown ((blk_cell B1 7).trans rfl)
  clear B1
  have f0 := fun d os => Calls.regrown_of (w := W) (d := d) (os := os) (held1 c0 8 1 _)
  have f1 := fun d os => Calls.regrown_of (w := W) (d := d) (os := os) (held1 c1 1048576 0 _)
  have f2 := fun d os => Calls.regrown_of (w := W) (d := d) (os := os) (held1 c2 64 1 _)
  have f3 := fun d os => Calls.regrown_of (w := W) (d := d) (os := os) (held1 c3 256 0 _)
  have f4 := fun d os => Calls.regrown_of (w := W) (d := d) (os := os) (held1 c4 1024 0 _)
  have f5 := fun d os => Calls.regrown_of (w := W) (d := d) (os := os) (held1 c5 64 1 _)
  have f6 := fun d os => Calls.regrown_of (w := W) (d := d) (os := os) (held1 c6 256 0 _)
  have f7 := fun d os => Calls.regrown_of (w := W) (d := d) (os := os) (held1 c7 16 0 _)
  refine wp_region_tail_below 33 (by kernel_rfl) (by kernel_rfl) ?_
  simp only [List.take_succ_cons, List.take_zero, List.drop_succ_cons, List.drop_zero]
  repeat (quiet_step (first | (with_reducible exact f0 _ _) | (with_reducible exact f1 _ _) | (with_reducible exact f2 _ _) | (with_reducible exact f3 _ _) | (with_reducible exact f4 _ _) | (with_reducible exact f5 _ _) | (with_reducible exact f6 _ _) | (with_reducible exact f7 _ _)))
  refine wpQuiet_nil ?_
  intro _ hw'
  obtain ⟨⟨dq, osq⟩, hw''⟩ := hw'
  have B2 := blk_below B2a.out (below_regrown W dq osq)
  have HB := bt HBa.out (below_regrown W dq osq)
  have ge : w.heap.size ≤ w.heap.size + 1 := by omega
  subst hw''
  clear m0 m1 m2 m3 m4 m5 m6 m7 f0 f1 f2 f3 f4 f5 f6 f7 B2a HBa
  generalize Go.Sort.grow (redrawn W dq) osq = W2 at B2 HB ⊢
  have c0_ : W2.cell? ⟨w.heap.size + 1, 0, none⟩ = some (.int .i64 0) := (blk_cell B2 0).trans rfl
  have g0_ := blk_frozen B2 0
  have c1_ : W2.cell? ⟨w.heap.size + 1, 1, none⟩ = some (.int .i64 0) := (blk_cell B2 1).trans rfl
  have g1_ := blk_frozen B2 1
  have c2_ : W2.cell? ⟨w.heap.size + 1, 2, none⟩ = some (.int .i64 0) := (blk_cell B2 2).trans rfl
  have g2_ := blk_frozen B2 2
  have c3_ : W2.cell? ⟨w.heap.size + 1, 3, none⟩ = some (.int .i64 0) := (blk_cell B2 3).trans rfl
  have g3_ := blk_frozen B2 3
  have c4_ : W2.cell? ⟨w.heap.size + 1, 4, none⟩ = some (.int .i64 0) := (blk_cell B2 4).trans rfl
  have g4_ := blk_frozen B2 4
  have c5_ : W2.cell? ⟨w.heap.size + 1, 5, none⟩ = some (.int .i64 0) := (blk_cell B2 5).trans rfl
  have g5_ := blk_frozen B2 5
  have c6_ : W2.cell? ⟨w.heap.size + 1, 6, none⟩ = some (.int .i64 0) := (blk_cell B2 6).trans rfl
  have g6_ := blk_frozen B2 6
  have c7_ : W2.cell? ⟨w.heap.size + 1, 7, none⟩ = some (.int .i64 0) := (blk_cell B2 7).trans rfl
  have g7_ := blk_frozen B2 7
  have B2a := Aside0.mk B2; clear B2
  go_wp2
  exact bodyPost_ret (v := .agg #[.int .i64 (hd c0 8 1), .int .i64 (hd c1 1048576 0), .int .i64 (hd c2 64 1), .int .i64 (hd c3 256 0), .int .i64 (hd c4 1024 0), .int .i64 (hd c5 64 1), .int .i64 (hd c6 256 0), .int .i64 (hd c7 16 0)]) (by simp [results, Try.results36, go_sem, *]) rfl ⟨rfl, below_set (below_set (below_set (below_set (below_set (below_set (below_set (below_set (HB) ge) ge) ge) ge) ge) ge) ge) ge⟩
end Go.Proofs.Ythgfgbligkchiaa.HeldC
