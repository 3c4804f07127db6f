/- The walk of FactNarrows. Conditions: what the callees answer. -/
import Derived.Test.YthgfgbligkchiaaPFactNarrowsx10
import Derived.Test.YthgfgbligkchiaaHeldC
import Derived.Lib.QuietBelow
import Derived.KernelRfl
namespace Go.Proofs.Ythgfgbligkchiaa.PFactNarrows
open Go.RowKit Go.Proofs.YthgfgbligkchiaaW.PrintWords Go.Proofs.YthgfgbligkchiaaW.PrintLast Go.Proofs.YthgfgbligkchiaaW.PrintMore
set_option linter.unusedVariables false
set_option linter.unusedSimpArgs false
theorem bt {w a b : World} (h : Below w.heap.size w a) (k : Below a.heap.size a b) : Below w.heap.size w b := below_then h h.size k
theorem eqA40 (d : Nat) (w : World) (x0 y0 : Int) (x1 y1 : Int) :
    (Op.equalIn (d + 2) 40 (.agg #[.int .i64 x0, .int .i64 x1]) (.agg #[.int .i64 y0, .int .i64 y1])).run Try.prog w = .ok (x0 == y0 && (x1 == y1)) w := by
  refine eqA_of Try.underlying40 (by kernel_rfl) ?_
  refine eqf_cons (by rfl) (by go_simp; rfl) (by go_simp; rfl) (by go_simp) ?_
  exact eqf_last (by rfl) (by go_simp; rfl) (by go_simp; rfl) (by go_simp)
theorem eqA58 (d : Nat) (w : World) (x0 y0 x1 y1 x2 y2 x3 y3 x4 y4 x5 y5 x6 y6 x7 y7 : Int) :
    (Op.equalIn (d + 2) 58 (.agg #[.int .i64 x0, .int .i64 x1, .int .i64 x2, .int .i64 x3, .int .i64 x4, .int .i64 x5, .int .i64 x6, .int .i64 x7]) (.agg #[.int .i64 y0, .int .i64 y1, .int .i64 y2, .int .i64 y3, .int .i64 y4, .int .i64 y5, .int .i64 y6, .int .i64 y7])).run Try.prog w = .ok (x0 == y0 && (x1 == y1 && (x2 == y2 && (x3 == y3 && (x4 == y4 && (x5 == y5 && (x6 == y6 && (x7 == y7)))))))) w := by
  refine eqA_of Try.underlying58 (by kernel_rfl) ?_
  refine eqf_cons (by rfl) (by go_simp; rfl) (by go_simp; rfl) (by go_simp) ?_
  refine eqf_cons (by rfl) (by go_simp; rfl) (by go_simp; rfl) (by go_simp) ?_
  refine eqf_cons (by rfl) (by go_simp; rfl) (by go_simp; rfl) (by go_simp) ?_
  refine eqf_cons (by rfl) (by go_simp; rfl) (by go_simp; rfl) (by go_simp) ?_
  refine eqf_cons (by rfl) (by go_simp; rfl) (by go_simp; rfl) (by go_simp) ?_
  refine eqf_cons (by rfl) (by go_simp; rfl) (by go_simp; rfl) (by go_simp) ?_
  refine eqf_cons (by rfl) (by go_simp; rfl) (by go_simp; rfl) (by go_simp) ?_
  exact eqf_last (by rfl) (by go_simp; rfl) (by go_simp; rfl) (by go_simp)
attribute [local go_sem high] eqA40 eqA58
theorem fixed20 : vouchlaw09_fixed.f 20 = some true := by kernel_rfl
set_option maxHeartbeats 2000000 in
set_option maxRecDepth 100000 in
theorem narrows_walk (p0 p1 s0 s1 c0 c1 c2 c3 c4 c5 c6 c7 h0 h1 h2 h3 h4 h5 h6 h7 m0 m1 : Int) (b : Bool) (w : World)
    (n1 : fact_Narrow.f p0 p1 s0 s1 = some (m0, m1, b)) (n2 : vouchref09_Narrow.f 20 p0 p1 s0 s1 = some (m0, m1, b))
    (H1 : ∀ w, Calls Try.prog 36 #[.agg #[.int .i64 c0, .int .i64 c1, .int .i64 c2, .int .i64 c3, .int .i64 c4, .int .i64 c5, .int .i64 c6, .int .i64 c7]] w fun e w' => e = .returned (.agg #[.int .i64 h0, .int .i64 h1, .int .i64 h2, .int .i64 h3, .int .i64 h4, .int .i64 h5, .int .i64 h6, .int .i64 h7]) ∧ Below w.heap.size w w')
    (H2 : ∀ w, Calls Try.prog 39 #[.agg #[.int .i64 c0, .int .i64 c1, .int .i64 c2, .int .i64 c3, .int .i64 c4, .int .i64 c5, .int .i64 c6, .int .i64 c7]] w fun e w' => e = .returned (.agg #[.int .i64 h0, .int .i64 h1, .int .i64 h2, .int .i64 h3, .int .i64 h4, .int .i64 h5, .int .i64 h6, .int .i64 h7]) ∧ Below w.heap.size w w') :
    Calls Try.prog 12 #[.agg #[.int .i64 p0, .int .i64 p1], .agg #[.int .i64 s0, .int .i64 s1], .agg #[.int .i64 c0, .int .i64 c1, .int .i64 c2, .int .i64 c3, .int .i64 c4, .int .i64 c5, .int .i64 c6, .int .i64 c7]] w fun e w' => e = .returned (.bool true) ∧ Below w.heap.size w w' := by
  have C1 := Aside0.mk n1; have C2 := Aside0.mk n2; have C3 := Aside0.mk H1; have C4 := Aside0.mk H2
  clear n1 n2 H1 H2
  go_enter Try.func12, Try.ntmps12
  have B0 : (((w.alloc (.cells #[.int .i64 p0, .int .i64 p1] 40)).alloc (.cells #[.int .i64 s0, .int .i64 s1] 40)).alloc (.cells #[.int .i64 c0, .int .i64 c1, .int .i64 c2, .int .i64 c3, .int .i64 c4, .int .i64 c5, .int .i64 c6, .int .i64 c7] 58)).heap[w.heap.size]? = some (.cells #[.int .i64 p0, .int .i64 p1] 40 (0, 0)) := blk_alloc (blk_alloc (blk_new _ _) _) _
  have B1 : (((w.alloc (.cells #[.int .i64 p0, .int .i64 p1] 40)).alloc (.cells #[.int .i64 s0, .int .i64 s1] 40)).alloc (.cells #[.int .i64 c0, .int .i64 c1, .int .i64 c2, .int .i64 c3, .int .i64 c4, .int .i64 c5, .int .i64 c6, .int .i64 c7] 58)).heap[w.heap.size + 1]? = some (.cells #[.int .i64 s0, .int .i64 s1] 40 (0, 0)) := by
    have h_ := blk_alloc (blk_new (w.alloc (.cells #[.int .i64 p0, .int .i64 p1] 40)) (.cells #[.int .i64 s0, .int .i64 s1] 40 (0, 0))) (.cells #[.int .i64 c0, .int .i64 c1, .int .i64 c2, .int .i64 c3, .int .i64 c4, .int .i64 c5, .int .i64 c6, .int .i64 c7] 58)
    simpa using h_
  have B2 : (((w.alloc (.cells #[.int .i64 p0, .int .i64 p1] 40)).alloc (.cells #[.int .i64 s0, .int .i64 s1] 40)).alloc (.cells #[.int .i64 c0, .int .i64 c1, .int .i64 c2, .int .i64 c3, .int .i64 c4, .int .i64 c5, .int .i64 c6, .int .i64 c7] 58)).heap[w.heap.size + 1 + 1]? = some (.cells #[.int .i64 c0, .int .i64 c1, .int .i64 c2, .int .i64 c3, .int .i64 c4, .int .i64 c5, .int .i64 c6, .int .i64 c7] 58 (0, 0)) := by
    have h_ := blk_new ((w.alloc (.cells #[.int .i64 p0, .int .i64 p1] 40)).alloc (.cells #[.int .i64 s0, .int .i64 s1] 40)) (.cells #[.int .i64 c0, .int .i64 c1, .int .i64 c2, .int .i64 c3, .int .i64 c4, .int .i64 c5, .int .i64 c6, .int .i64 c7] 58 (0, 0))
    simpa using h_
  have HB := below_alloc (below_alloc (below_alloc (Below.refl w.heap.size w) (.cells #[.int .i64 p0, .int .i64 p1] 40)) (.cells #[.int .i64 s0, .int .i64 s1] 40)) (.cells #[.int .i64 c0, .int .i64 c1, .int .i64 c2, .int .i64 c3, .int .i64 c4, .int .i64 c5, .int .i64 c6, .int .i64 c7] 58)
  go_wp2_with fail
  (with_reducible refine (vouchlaw09_fixed.calls 20 true _ fixed20).mono ?_)
  rintro e w1 ⟨rfl, hbw1⟩
  have nB0 := blk_below (g := w.heap.size) (o := .cells #[.int .i64 p0, .int .i64 p1] 40 (0, 0)) (B0) hbw1
  have nB1 := blk_below (g := w.heap.size + 1) (o := .cells #[.int .i64 s0, .int .i64 s1] 40 (0, 0)) (B1) hbw1
  have nB2 := blk_below (g := w.heap.size + 1 + 1) (o := .cells #[.int .i64 c0, .int .i64 c1, .int .i64 c2, .int .i64 c3, .int .i64 c4, .int .i64 c5, .int .i64 c6, .int .i64 c7] 58 (0, 0)) (B2) hbw1
  have nHB := bt (HB) hbw1
  clear HB hbw1
  have HB := nHB
  clear nHB
  try clear B0
  have B0 := nB0
  clear nB0
  try clear B1
  have B1 := nB1
  clear nB1
  try clear B2
  have B2 := nB2
  clear nB2
  have cB00_ : w1.cell? ⟨w.heap.size, 0, none⟩ = some (.int .i64 p0) := (blk_cell B0 0).trans rfl
  have cB01_ : w1.cell? ⟨w.heap.size, 1, none⟩ = some (.int .i64 p1) := (blk_cell B0 1).trans rfl
  have lB0 : w.heap.size < w1.heap.size := blk_lt B0
  have cB10_ : w1.cell? ⟨w.heap.size + 1, 0, none⟩ = some (.int .i64 s0) := (blk_cell B1 0).trans rfl
  have cB11_ : w1.cell? ⟨w.heap.size + 1, 1, none⟩ = some (.int .i64 s1) := (blk_cell B1 1).trans rfl
  have lB1 : w.heap.size + 1 < w1.heap.size := blk_lt B1
  go_wp2_with fail
  clear cB00_ cB01_ lB0
  clear cB10_ cB11_ lB1
  (with_reducible refine (fact_Narrow.calls _ _ _ _ _ _ _ _ C1.out).mono ?_)
  rintro e w2 ⟨rfl, hbw2⟩
  have nB0 := blk_below (g := w.heap.size) (o := .cells #[.int .i64 p0, .int .i64 p1] 40 (0, 0)) (B0) hbw2
  have nB1 := blk_below (g := w.heap.size + 1) (o := .cells #[.int .i64 s0, .int .i64 s1] 40 (0, 0)) (B1) hbw2
  have nB2 := blk_below (g := w.heap.size + 1 + 1) (o := .cells #[.int .i64 c0, .int .i64 c1, .int .i64 c2, .int .i64 c3, .int .i64 c4, .int .i64 c5, .int .i64 c6, .int .i64 c7] 58 (0, 0)) (B2) hbw2
  have nHB := bt (HB) hbw2
  clear HB hbw2
  have HB := nHB
  clear nHB
  try clear B0
  have B0 := nB0
  clear nB0
  try clear B1
  have B1 := nB1
  clear nB1
  try clear B2
  have B2 := nB2
  clear nB2
  have cB00_ : w2.cell? ⟨w.heap.size, 0, none⟩ = some (.int .i64 p0) := (blk_cell B0 0).trans rfl
  have cB01_ : w2.cell? ⟨w.heap.size, 1, none⟩ = some (.int .i64 p1) := (blk_cell B0 1).trans rfl
  have lB0 : w.heap.size < w2.heap.size := blk_lt B0
  have cB10_ : w2.cell? ⟨w.heap.size + 1, 0, none⟩ = some (.int .i64 s0) := (blk_cell B1 0).trans rfl
  have cB11_ : w2.cell? ⟨w.heap.size + 1, 1, none⟩ = some (.int .i64 s1) := (blk_cell B1 1).trans rfl
  have lB1 : w.heap.size + 1 < w2.heap.size := blk_lt B1
  go_wp2_with fail
  clear cB00_ cB01_ lB0
  clear cB10_ cB11_ lB1
  (with_reducible refine (vouchref09_Narrow.calls 20 _ _ _ _ _ _ _ _ C2.out).mono ?_)
  rintro e w3 ⟨rfl, hbw3⟩
  have nB0 := blk_below (g := w.heap.size) (o := .cells #[.int .i64 p0, .int .i64 p1] 40 (0, 0)) (blk_alloc B0 _) hbw3
  have nB1 := blk_below (g := w.heap.size + 1) (o := .cells #[.int .i64 s0, .int .i64 s1] 40 (0, 0)) (blk_alloc B1 _) hbw3
  have nB2 := blk_below (g := w.heap.size + 1 + 1) (o := .cells #[.int .i64 c0, .int .i64 c1, .int .i64 c2, .int .i64 c3, .int .i64 c4, .int .i64 c5, .int .i64 c6, .int .i64 c7] 58 (0, 0)) (blk_alloc B2 _) hbw3
  have nB3 := blk_below (g := w2.heap.size) (o := .cells #[.int .i64 m0, .int .i64 m1] 40 (0, 0)) (blk_new _ _) hbw3
  have nHB := bt (below_alloc HB _) hbw3
  clear HB hbw3
  have HB := nHB
  clear nHB
  try clear B0
  have B0 := nB0
  clear nB0
  try clear B1
  have B1 := nB1
  clear nB1
  try clear B2
  have B2 := nB2
  clear nB2
  try clear B3
  have B3 := nB3
  clear nB3
  go_wp2_with fail
  have n3 : (w3.alloc (.cells #[.int .i64 m0, .int .i64 m1] 40)).heap[w2.heap.size]? = some (.cells #[.int .i64 m0, .int .i64 m1] 40 (0, 0)) := blk_alloc B3 _
  have n4 : (w3.alloc (.cells #[.int .i64 m0, .int .i64 m1] 40)).heap[w3.heap.size]? = some (.cells #[.int .i64 m0, .int .i64 m1] 40 (0, 0)) := blk_new _ _
  have n2 : (w3.alloc (.cells #[.int .i64 m0, .int .i64 m1] 40)).heap[w.heap.size + 1 + 1]? = some (.cells #[.int .i64 c0, .int .i64 c1, .int .i64 c2, .int .i64 c3, .int .i64 c4, .int .i64 c5, .int .i64 c6, .int .i64 c7] 58 (0, 0)) := blk_alloc B2 _
  have nHB := below_alloc HB (.cells #[.int .i64 m0, .int .i64 m1] 40)
  clear HB B0 B1 B2 B3
  generalize hg3 : w2.heap.size = g3 at n3 ⊢
  generalize hg4 : w3.heap.size = g4 at n4 ⊢
  generalize w3.alloc (.cells #[.int .i64 m0, .int .i64 m1] 40) = W at n2 n3 n4 nHB ⊢
  clear hg3 hg4
  have HBa := Aside0.mk nHB; clear nHB
  have m20 := cell_regrown ((blk_cell n2 0).trans rfl)
  have m21 := cell_regrown ((blk_cell n2 1).trans rfl)
  have m22 := cell_regrown ((blk_cell n2 2).trans rfl)
  have m23 := cell_regrown ((blk_cell n2 3).trans rfl)
  have m24 := cell_regrown ((blk_cell n2 4).trans rfl)
  have m25 := cell_regrown ((blk_cell n2 5).trans rfl)
  have m26 := cell_regrown ((blk_cell n2 6).trans rfl)
  have m27 := cell_regrown ((blk_cell n2 7).trans rfl)
  have m30 := cell_regrown ((blk_cell n3 0).trans rfl)
  have m31 := cell_regrown ((blk_cell n3 1).trans rfl)
  have m40 := cell_regrown ((blk_cell n4 0).trans rfl)
  have m41 := cell_regrown ((blk_cell n4 1).trans rfl)
  clear n2 n3 n4
  have f1 := fun d os => Calls.regrown_of (w := W) (d := d) (os := os) (C3.out _)
  have f2 := fun d os => Calls.regrown_of (w := W) (d := d) (os := os) (C4.out _)
  refine wp_region_quiet_below (by kernel_rfl) (by kernel_rfl) ?_
  repeat (quiet_step (first | (with_reducible exact f1 _ _) | (with_reducible exact f2 _ _)))
  refine wpQuiet_nil ?_
  intro _ hw'
  obtain ⟨⟨dq, osq⟩, hw''⟩ := hw'
  subst hw''
  go_wp2
  go_ret
  exact ⟨by simp, bt HBa.out (below_regrown W dq osq)⟩
end Go.Proofs.Ythgfgbligkchiaa.PFactNarrows
