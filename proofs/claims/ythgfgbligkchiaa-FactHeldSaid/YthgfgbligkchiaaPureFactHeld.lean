/- The walk of FactHeld. Conditions: what Held answers, and its bounds. -/
import Derived.Test.YthgfgbligkchiaaHeld
namespace Go.Proofs.Ythgfgbligkchiaa.PFactHeld
open Go.RowKit Go.Proofs.YthgfgbligkchiaaW.PrintWords Go.Proofs.YthgfgbligkchiaaW.PrintLast Go.Proofs.YthgfgbligkchiaaW.PrintMore
set_option linter.unusedVariables false
set_option linter.unusedSimpArgs false
theorem eqA58 (d : Nat) (w : World) (x0 y0 x1 y1 x2 y2 x3 y3 x4 y4 x5 y5 x6 y6 x7 y7 : Int) :
    (Op.equalIn (d + 2) 58 (.agg #[.int .i64 x0, .int .i64 x1, .int .i64 x2, .int .i64 x3, .int .i64 x4, .int .i64 x5, .int .i64 x6, .int .i64 x7]) (.agg #[.int .i64 y0, .int .i64 y1, .int .i64 y2, .int .i64 y3, .int .i64 y4, .int .i64 y5, .int .i64 y6, .int .i64 y7])).run Try.prog w = .ok (x0 == y0 && (x1 == y1 && (x2 == y2 && (x3 == y3 && (x4 == y4 && (x5 == y5 && (x6 == y6 && (x7 == y7)))))))) w := by
  refine eqA_of Try.underlying58 (by kernel_rfl) ?_
  refine eqf_cons (by rfl) (by go_simp; rfl) (by go_simp; rfl) (by go_simp) ?_
  refine eqf_cons (by rfl) (by go_simp; rfl) (by go_simp; rfl) (by go_simp) ?_
  refine eqf_cons (by rfl) (by go_simp; rfl) (by go_simp; rfl) (by go_simp) ?_
  refine eqf_cons (by rfl) (by go_simp; rfl) (by go_simp; rfl) (by go_simp) ?_
  refine eqf_cons (by rfl) (by go_simp; rfl) (by go_simp; rfl) (by go_simp) ?_
  refine eqf_cons (by rfl) (by go_simp; rfl) (by go_simp; rfl) (by go_simp) ?_
  refine eqf_cons (by rfl) (by go_simp; rfl) (by go_simp; rfl) (by go_simp) ?_
  exact eqf_last (by rfl) (by go_simp; rfl) (by go_simp; rfl) (by go_simp)
attribute [local go_sem high] eqA58
theorem fixed20 : vouchlaw09_fixed.f 20 = some true := by kernel_rfl
set_option maxHeartbeats 2000000 in
set_option maxRecDepth 100000 in
theorem held_walk (c0 c1 c2 c3 c4 c5 c6 c7 h0 h1 h2 h3 h4 h5 h6 h7 : Int) (w : World)
    (H1 : ∀ w, Calls Try.prog 36 #[.agg #[.int .i64 c0, .int .i64 c1, .int .i64 c2, .int .i64 c3, .int .i64 c4, .int .i64 c5, .int .i64 c6, .int .i64 c7]] w fun e w' => e = .returned (.agg #[.int .i64 h0, .int .i64 h1, .int .i64 h2, .int .i64 h3, .int .i64 h4, .int .i64 h5, .int .i64 h6, .int .i64 h7]) ∧ Below w.heap.size w w')
    (H2 : ∀ w, Calls Try.prog 36 #[.agg #[.int .i64 h0, .int .i64 h1, .int .i64 h2, .int .i64 h3, .int .i64 h4, .int .i64 h5, .int .i64 h6, .int .i64 h7]] w fun e w' => e = .returned (.agg #[.int .i64 h0, .int .i64 h1, .int .i64 h2, .int .i64 h3, .int .i64 h4, .int .i64 h5, .int .i64 h6, .int .i64 h7]) ∧ Below w.heap.size w w')
    (n0 : ¬ h0 < 1) (n1 : ¬ 8 < h0) (n2 : ¬ h1 < 0) (n3 : ¬ h2 < 1) (n4 : ¬ 64 < h2) (n5 : ¬ h5 < 1) (n6 : ¬ h3 < 0) (n7 : ¬ 256 < h3)
    (e0 : h0 = c0 ∨ c0 < 1 ∧ h0 = 1 ∨ 8 < c0 ∧ h0 = 8) (e1 : h1 = c1 ∨ c1 < 0 ∧ h1 = 0 ∨ 1048576 < c1 ∧ h1 = 1048576) :
    Calls Try.prog 11 #[.agg #[.int .i64 c0, .int .i64 c1, .int .i64 c2, .int .i64 c3, .int .i64 c4, .int .i64 c5, .int .i64 c6, .int .i64 c7]] w fun e w' => e = .returned (.bool true) ∧ Below w.heap.size w w' := by
  have A1 := Aside0.mk H1; have A2 := Aside0.mk H2; have A3 := Aside0.mk e0; have A4 := Aside0.mk e1
  clear H1 H2 e0 e1
  go_enter Try.func11, Try.ntmps11
  go_wp2_with fail
  (with_reducible refine (vouchlaw09_fixed.calls 20 true _ fixed20).mono ?_)
  rintro e w1 ⟨rfl, hb1⟩
  have B1 := blk_below (blk_new w (.cells #[.int .i64 c0, .int .i64 c1, .int .i64 c2, .int .i64 c3, .int .i64 c4, .int .i64 c5, .int .i64 c6, .int .i64 c7] 58 (0, 0))) hb1
  have HB := bt (below_alloc (Below.refl _ _) _) hb1
  clear hb1
  have c0_ : w1.cell? ⟨w.heap.size, 0, none⟩ = some (.int .i64 c0) := (blk_cell B1 0).trans rfl
  have c1_ : w1.cell? ⟨w.heap.size, 1, none⟩ = some (.int .i64 c1) := (blk_cell B1 1).trans rfl
  have c2_ : w1.cell? ⟨w.heap.size, 2, none⟩ = some (.int .i64 c2) := (blk_cell B1 2).trans rfl
  have c3_ : w1.cell? ⟨w.heap.size, 3, none⟩ = some (.int .i64 c3) := (blk_cell B1 3).trans rfl
  have c4_ : w1.cell? ⟨w.heap.size, 4, none⟩ = some (.int .i64 c4) := (blk_cell B1 4).trans rfl
  have c5_ : w1.cell? ⟨w.heap.size, 5, none⟩ = some (.int .i64 c5) := (blk_cell B1 5).trans rfl
  have c6_ : w1.cell? ⟨w.heap.size, 6, none⟩ = some (.int .i64 c6) := (blk_cell B1 6).trans rfl
  have c7_ : w1.cell? ⟨w.heap.size, 7, none⟩ = some (.int .i64 c7) := (blk_cell B1 7).trans rfl
  go_wp2_with fail
  (with_reducible refine (A1.out _).mono ?_)
  rintro e w2 ⟨rfl, hb2⟩
  clear c0_ c1_ c2_ c3_ c4_ c5_ c6_ c7_
  have B2 := blk_below B1 hb2
  have HB2 := bt HB hb2
  clear B1 HB hb2
  go_wp2_with fail
  have B1 : (w2.alloc (.cells #[.int .i64 h0, .int .i64 h1, .int .i64 h2, .int .i64 h3, .int .i64 h4, .int .i64 h5, .int .i64 h6, .int .i64 h7] 58)).heap[w.heap.size]? = some (.cells #[.int .i64 c0, .int .i64 c1, .int .i64 c2, .int .i64 c3, .int .i64 c4, .int .i64 c5, .int .i64 c6, .int .i64 c7] 58 (0, 0)) := blk_alloc B2 _
  have B3 : (w2.alloc (.cells #[.int .i64 h0, .int .i64 h1, .int .i64 h2, .int .i64 h3, .int .i64 h4, .int .i64 h5, .int .i64 h6, .int .i64 h7] 58)).heap[w2.heap.size]? = some (.cells #[.int .i64 h0, .int .i64 h1, .int .i64 h2, .int .i64 h3, .int .i64 h4, .int .i64 h5, .int .i64 h6, .int .i64 h7] 58 (0, 0)) := blk_new _ _
  have HB := below_alloc HB2 (.cells #[.int .i64 h0, .int .i64 h1, .int .i64 h2, .int .i64 h3, .int .i64 h4, .int .i64 h5, .int .i64 h6, .int .i64 h7] 58)
  clear HB2 B2
  generalize hg1 : w2.heap.size = g1 at B3 ⊢
  generalize hg0 : w.heap.size = g0 at B1 ⊢
  generalize w2.alloc (.cells #[.int .i64 h0, .int .i64 h1, .int .i64 h2, .int .i64 h3, .int .i64 h4, .int .i64 h5, .int .i64 h6, .int .i64 h7] 58) = W at B1 B3 HB ⊢
  rw [hg0] at HB
  clear hg1
  have HBa := Aside0.mk HB; have B1a := Aside0.mk B1; have B3a := Aside0.mk B3; clear HB B1
  have m0 := cell_regrown ((blk_cell B3 0).trans rfl)
  have m1 := cell_regrown ((blk_cell B3 1).trans rfl)
  have m2 := cell_regrown ((blk_cell B3 2).trans rfl)
  have m3 := cell_regrown ((blk_cell B3 3).trans rfl)
  have m4 := cell_regrown ((blk_cell B3 4).trans rfl)
  have m5 := cell_regrown ((blk_cell B3 5).trans rfl)
  have m6 := cell_regrown ((blk_cell B3 6).trans rfl)
  have m7 := cell_regrown ((blk_cell B3 7).trans rfl)
  clear B3
  have d0 : decide (h0 < 1) = false := by simpa using n0
  have d1 : decide (8 < h0) = false := by simpa using n1
  have d2 : decide (h1 < 0) = false := by simpa using n2
  have d3 : decide (h2 < 1) = false := by simpa using n3
  have d4 : decide (64 < h2) = false := by simpa using n4
  have d5 : decide (h5 < 1) = false := by simpa using n5
  have d6 : decide (h3 < 0) = false := by simpa using n6
  have d7 : decide (256 < h3) = false := by simpa using n7
  have f1 := fun d os => Calls.regrown_of (w := W) (d := d) (os := os) (A2.out _)
  refine wp_region_quiet_below (by kernel_rfl) (by kernel_rfl) ?_
  repeat (quiet_step (with_reducible exact f1 _ _))
  refine wpQuiet_nil ?_
  intro _ hw'
  obtain ⟨⟨dq, osq⟩, hw''⟩ := hw'
  have nB1 := blk_below B1a.out (below_regrown W dq osq)
  have nB3 := blk_below B3a.out (below_regrown W dq osq)
  have nHB : Below g0 w (Go.Sort.grow (redrawn W dq) osq) := by subst hg0; exact bt HBa.out (below_regrown W dq osq)
  subst hw''
  clear m0 m1 m2 m3 m4 m5 m6 m7 f1 B1a B3a HBa
  generalize Go.Sort.grow (redrawn W dq) osq = W2 at nB1 nB3 nHB ⊢
  have b0_ : W2.cell? ⟨g0, 0, none⟩ = some (.int .i64 c0) := (blk_cell nB1 0).trans rfl
  have g0_ : W2.cell? ⟨g1, 0, none⟩ = some (.int .i64 h0) := (blk_cell nB3 0).trans rfl
  have b1_ : W2.cell? ⟨g0, 1, none⟩ = some (.int .i64 c1) := (blk_cell nB1 1).trans rfl
  have g1_ : W2.cell? ⟨g1, 1, none⟩ = some (.int .i64 h1) := (blk_cell nB3 1).trans rfl
  clear nB1 nB3
  have HBa := Aside0.mk nHB
  have HBb : Aside0 (Below w.heap.size w W2) := ⟨by rw [hg0]; exact nHB⟩
  clear nHB hg0
  go_wp2
  all_goals
    have a3 := A3.out
    have a4 := A4.out
    first
      | (exfalso; omega)
      | (go_ret; refine ⟨?_, by first | exact HBa.out | exact HBb.out⟩; (first | (simp; done) | (simp [*]; done) | (simp; omega) | (simp [*]; omega)))
theorem hd_in (n most least : Int) (h : least ≤ most) : least ≤ hd n most least ∧ hd n most least ≤ most ∧ (hd n most least = n ∨ n < least ∧ hd n most least = least ∨ most < n ∧ hd n most least = most) := by
  unfold hd mn mx
  by_cases h1 : n < least
  · rw [if_pos h1, if_neg (by omega)]
    omega
  · rw [if_neg h1]
    by_cases h2 : most < n
    · rw [if_pos h2]
      omega
    · rw [if_neg h2]
      omega
theorem hd_hd (n most least : Int) (h : least ≤ most) : hd (hd n most least) most least = hd n most least := by
  have h1 := hd_in n most least h
  generalize hd n most least = m at *
  unfold hd mn mx
  rw [if_neg (by omega), if_neg (by omega)]
theorem FactHeld (c0 c1 c2 c3 c4 c5 c6 c7 : Int) (w : World) : Calls Try.prog 11 #[.agg #[.int .i64 c0, .int .i64 c1, .int .i64 c2, .int .i64 c3, .int .i64 c4, .int .i64 c5, .int .i64 c6, .int .i64 c7]] w fun e w' => e = .returned (.bool true) ∧ Below w.heap.size w w' := by
  have i0 := hd_in c0 8 1 (by omega)
  have i1 := hd_in c1 1048576 0 (by omega)
  have i2 := hd_in c2 64 1 (by omega)
  have i3 := hd_in c3 256 0 (by omega)
  have i5 := hd_in c5 64 1 (by omega)
  refine held_walk c0 c1 c2 c3 c4 c5 c6 c7 _ _ _ _ _ _ _ _ w (fun w => held c0 c1 c2 c3 c4 c5 c6 c7 w) (fun w => ?_) (by omega) (by omega) (by omega) (by omega) (by omega) (by omega) (by omega) (by omega) i0.2.2 i1.2.2
  have h2 := held (hd c0 8 1) (hd c1 1048576 0) (hd c2 64 1) (hd c3 256 0) (hd c4 1024 0) (hd c5 64 1) (hd c6 256 0) (hd c7 16 0) w
  rw [hd_hd c0 8 1 (by omega), hd_hd c1 1048576 0 (by omega), hd_hd c2 64 1 (by omega), hd_hd c3 256 0 (by omega), hd_hd c4 1024 0 (by omega), hd_hd c5 64 1 (by omega), hd_hd c6 256 0 (by omega), hd_hd c7 16 0 (by omega)] at h2
  exact h2
end Go.Proofs.Ythgfgbligkchiaa.PFactHeld
