/- The walk of FactEnds, in its two cases: the fact could be closed, or nothing of it is left. Conditions: the position is a uint16; what the callees answer. -/
import Derived.Test.YthgfgbligkchiaaPFactEndsx7
import Derived.Test.YthgfgbligkchiaaPFactEndsx3
import Derived.Lib.QuietBelow

import Derived.KernelRfl
namespace Go.Proofs.Ythgfgbligkchiaa.PFactEnds
open Go.RowKit Go.Proofs.YthgfgbligkchiaaW.PrintWords Go.Proofs.YthgfgbligkchiaaW.PrintLast Go.Proofs.YthgfgbligkchiaaW.PrintMore
attribute [local go_sem high] eqA38 eqA41
set_option linter.unusedVariables false
theorem fixed20 : vouchlaw09_fixed.f 20 = some true := by kernel_rfl
theorem bcell {W w1 : World} (hb : Below W.heap.size W w1) : (∀ b o, b < W.heap.size → w1.cell? ⟨b, o, none⟩ = W.cell? ⟨b, o, none⟩) ∧ (∀ b o, b < W.heap.size → w1.frozen? ⟨b, o, none⟩ = W.frozen? ⟨b, o, none⟩) :=
  ⟨fun b o h => hb.cell (p := ⟨b, o, none⟩) h, fun b o h => hb.frozen (p := ⟨b, o, none⟩) h⟩
theorem bt {w a b : World} (h : Below w.heap.size w a) (k : Below a.heap.size a b) : Below w.heap.size w b := below_then h h.size k
set_option maxHeartbeats 1000000 in
theorem ends_walk_A (k0 : ByteArray) (h0 : Bool) (d0 : ByteArray) (l0 e0 e1 a1 a2 a3 lo hi : Int) (b : Bool) (w : World) (b0 : 0 ≤ a1) (b1 : a1 ≤ 65535)
    (hc : fact_Close.f k0 h0 d0 l0 e0 (a1 + 1) = some (k0, h0, d0, l0, e1, true)) (hk1 : fact_Known.f k0 h0 d0 l0 e1 a2 = some (lo, hi)) (hk2 : fact_Known.f k0 h0 d0 l0 e1 a1 = some (lo, hi))
    (hk3 : fact_Known.f k0 h0 d0 l0 e0 a1 = some (lo, hi)) (hh : span_Span_int64_Has.f lo hi a3 = some b) :
    Calls Try.prog 10 #[.agg #[.string k0, .bool h0, .string d0, .int .i64 l0, .int .i64 e0], .int .u16 a1, .int .i64 a2, .int .i64 a3] w fun e w' => e = .returned (.bool true) ∧ Below w.heap.size w w' := by
  have C1 := Aside0.mk hc; have C2 := Aside0.mk hk1; have C3 := Aside0.mk hk2; have C4 := Aside0.mk hk3; have C5 := Aside0.mk hh
  clear hc hk1 hk2 hk3 hh
  go_enter Try.func10, Try.ntmps10
  go_wp2_with (first | (go_at_call 20; refine (vouchlaw09_fixed.calls 20 true _ fixed20).mono ?_; rintro e w1 ⟨rfl, hb1⟩; obtain ⟨q1, q2⟩ := bcell hb1; have z1 : w.heap.size < w1.heap.size := by (have := hb1.size; simp at this; omega)) | (go_at_call 29; refine (fact_Close.calls _ _ _ _ _ _ _ _ _ _ _ _ _ C1.out).mono ?_; rintro e w2 ⟨rfl, hb2⟩; obtain ⟨q3, q4⟩ := bcell hb2; have z2 := Nat.lt_of_lt_of_le z1 hb2.size))
  have BW : Below w.heap.size w (w2.alloc (.cells #[.string k0, .bool h0, .string d0, .int .i64 l0, .int .i64 e1] 38)) := below_alloc (below_then (below_then ((Below.refl _ _).alloc (Nat.le_refl _) _) (by simp) hb1) (Nat.le_of_lt z1) hb2) _
  have c0 : (w2.alloc (.cells #[.string k0, .bool h0, .string d0, .int .i64 l0, .int .i64 e1] 38)).heap[w2.heap.size]? = some (.cells #[.string k0, .bool h0, .string d0, .int .i64 l0, .int .i64 e1] 38 (0, 0)) := blk_new _ _
  have c1 : (w2.alloc (.cells #[.string k0, .bool h0, .string d0, .int .i64 l0, .int .i64 e1] 38)).heap[w.heap.size]? = some (.cells #[.string k0, .bool h0, .string d0, .int .i64 l0, .int .i64 e0] 38 (0, 0)) := blk_alloc (blk_below (blk_below (blk_new _ _) hb1) hb2) _
  clear q1 q2 q3 q4 hb1 hb2
  generalize hW : w2.alloc (.cells #[.string k0, .bool h0, .string d0, .int .i64 l0, .int .i64 e1] 38) = W at *
  generalize hg0 : w.heap.size = g0 at c1 ⊢
  generalize hg1 : w2.heap.size = g1 at c0 ⊢
  clear hW hg0 hg1 z1 z2
  have BWa := Aside0.mk BW; clear BW
  have m00 := cell_regrown ((blk_cell c0 0).trans rfl); have m01 := cell_regrown ((blk_cell c0 1).trans rfl); have m02 := cell_regrown ((blk_cell c0 2).trans rfl); have m03 := cell_regrown ((blk_cell c0 3).trans rfl); have m04 := cell_regrown ((blk_cell c0 4).trans rfl)
  have m10 := cell_regrown ((blk_cell c1 0).trans rfl); have m11 := cell_regrown ((blk_cell c1 1).trans rfl); have m12 := cell_regrown ((blk_cell c1 2).trans rfl); have m13 := cell_regrown ((blk_cell c1 3).trans rfl); have m14 := cell_regrown ((blk_cell c1 4).trans rfl)
  clear c0 c1
  have f1 := fun d os => Calls.regrown_of (w := W) (d := d) (os := os) (fact_Known.calls _ _ _ _ _ _ _ _ _ C2.out)
  have f2 := fun d os => Calls.regrown_of (w := W) (d := d) (os := os) (fact_Known.calls _ _ _ _ _ _ _ _ _ C3.out)
  have f3 := fun d os => Calls.regrown_of (w := W) (d := d) (os := os) (fact_Known.calls _ _ _ _ _ _ _ _ _ C4.out)
  have f4 := fun d os => Calls.regrown_of (w := W) (d := d) (os := os) (span_Span_int64_Has.calls _ _ _ _ _ C5.out)
  have hwr : IntKind.i64.wrap a1 = a1 := IntWalk.i64_in _ (by omega)
  refine wp_region_quiet_below (by kernel_rfl) (by kernel_rfl) ?_
  repeat (quiet_step (first | (with_reducible exact f1 _ _) | (with_reducible exact f2 _ _) | (with_reducible exact f3 _ _) | (with_reducible exact f4 _ _)))
  refine wpQuiet_nil ?_
  intro _ hw'
  obtain ⟨⟨dq, osq⟩, hw''⟩ := hw'
  subst hw''
  go_wp2
  go_ret
  exact ⟨by simp, below_then BWa.out BWa.out.size (below_regrown W dq osq)⟩
set_option maxHeartbeats 1000000 in
theorem ends_walk_B (k0 : ByteArray) (h0 : Bool) (d0 : ByteArray) (l0 a1 a2 a3 : Int) (w : World) (b0 : 0 ≤ a1) (b1 : a1 ≤ 65535) (hl : a1 < l0)
    (hc : fact_Close.f k0 h0 d0 l0 4611686018427387904 (a1 + 1) = some (⟨#[]⟩, false, ⟨#[]⟩, 0, 0, false))
    (hk3 : fact_Known.f k0 h0 d0 l0 4611686018427387904 a1 = some (0, 0)) :
    Calls Try.prog 10 #[.agg #[.string k0, .bool h0, .string d0, .int .i64 l0, .int .i64 4611686018427387904], .int .u16 a1, .int .i64 a2, .int .i64 a3] w fun e w' => e = .returned (.bool true) ∧ Below w.heap.size w w' := by
  have C1 := Aside0.mk hc; have C4 := Aside0.mk hk3
  have C5 : Aside0 (span_Span_int64_Empty.f 0 0 = some true) := ⟨rfl⟩
  clear hc hk3
  go_enter Try.func10, Try.ntmps10
  go_wp2_with (first | (go_at_call 20; refine (vouchlaw09_fixed.calls 20 true _ fixed20).mono ?_; rintro e w1 ⟨rfl, hb1⟩; obtain ⟨q1, q2⟩ := bcell hb1; have z1 : w.heap.size < w1.heap.size := by (have := hb1.size; simp at this; omega)) | (go_at_call 29; refine (fact_Close.calls _ _ _ _ _ _ _ _ _ _ _ _ _ C1.out).mono ?_; rintro e w2 ⟨rfl, hb2⟩; obtain ⟨q3, q4⟩ := bcell hb2; have z2 := Nat.lt_of_lt_of_le z1 hb2.size) | (go_at_call 21; refine (fact_Known.calls _ _ _ _ _ _ _ _ _ C4.out).mono ?_; rintro e w3 ⟨rfl, hb3⟩) | (go_at_call 35; refine (span_Span_int64_Empty.calls _ _ _ _ C5.out).mono ?_; rintro e w4 ⟨rfl, hb4⟩))
  go_ret
  exact ⟨by simp, bt (bt (below_alloc (bt (bt (below_alloc (Below.refl _ _) _) hb1) hb2) _) hb3) hb4⟩
end Go.Proofs.Ythgfgbligkchiaa.PFactEnds
