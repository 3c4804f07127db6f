/- The walks of FactMerges, case by case (is the first, the second fact open; does the first know the number). Conditions: the arguments are uint8; what the callees answer. -/
import Derived.Test.YthgfgbligkchiaaPFactMergesx7
import Derived.Test.YthgfgbligkchiaaPFactMergesx2
import Derived.Test.YthgfgbligkchiaaPFactMergesx3
import Derived.KernelRfl
namespace Go.Proofs.Ythgfgbligkchiaa.PFactMerges
open Go.RowKit Go.Proofs.YthgfgbligkchiaaW.PrintWords Go.Proofs.YthgfgbligkchiaaW.PrintLast Go.Proofs.YthgfgbligkchiaaW.PrintMore
attribute [local go_sem high] eqA38 eqA41
set_option linter.unusedVariables false
set_option linter.unusedSimpArgs false
theorem fixed20 : vouchlaw09_fixed.f 20 = some true := by kernel_rfl
theorem bt {w a b : World} (h : Below w.heap.size w a) (k : Below a.heap.size a b) : Below w.heap.size w b := below_then h h.size k
set_option maxHeartbeats 2000000 in
set_option maxRecDepth 100000 in
theorem walk_000 (key : ByteArray) (lo a b at_ c me x0 x1 y0 y1 z0 z1 : Int) (q : Bool) (w : World) (l0 : 0 ≤ lo) (l1 : lo ≤ 255) (a0 : 0 ≤ a) (a1 : a ≤ 255) (b0 : 0 ≤ b) (b1 : b ≤ 255) (t0 : 0 ≤ at_) (t1 : at_ ≤ 255) (c0 : 0 ≤ c) (c1 : c ≤ 255)
    (ha : a < 128) (hb : b < 128)
    (m1 : fact_Merge.f 20 key true (⟨#[118]⟩ : ByteArray) lo (lo + 1 + a % 16) key true (⟨#[118]⟩ : ByteArray) lo (lo + 1 + b % 16) at_ = some (key, true, ⟨#[118]⟩, lo, me, true)) (m2 : fact_Merge.f 20 key true (⟨#[118]⟩ : ByteArray) lo (lo + 1 + b % 16) key true (⟨#[118]⟩ : ByteArray) lo (lo + 1 + a % 16) at_ = some (key, true, ⟨#[118]⟩, lo, me, true))
    (k1 : fact_Known.f key true (⟨#[118]⟩ : ByteArray) lo (lo + 1 + a % 16) at_ = some (x0, x1)) (k2 : fact_Known.f key true (⟨#[118]⟩ : ByteArray) lo (lo + 1 + b % 16) at_ = some (y0, y1)) (k3 : fact_Known.f key true (⟨#[118]⟩ : ByteArray) lo (me) at_ = some (z0, z1))
    (h1 : span_Span_int64_Has.f x0 x1 c = some false) (h2 : span_Span_int64_Has.f y0 y1 c = some q) (h3 : span_Span_int64_Has.f z0 z1 c = some q) :
    Calls Try.prog 9 #[.string key, .int .u8 lo, .int .u8 a, .int .u8 b, .int .u8 at_, .int .u8 c] w fun e w' => e = .returned (.bool true) ∧ Below w.heap.size w w' := by
  have C1 := Aside0.mk m1
  have C2 := Aside0.mk m2
  have C3 := Aside0.mk k1
  have C4 := Aside0.mk k2
  have C5 := Aside0.mk k3
  have C6 := Aside0.mk h1
  have C7 := Aside0.mk h2
  have C8 := Aside0.mk h3
  clear m1 m2 k1 k2 k3 h1 h2 h3
  go_enter Try.func9, Try.ntmps9
  have HB := Below.refl w.heap.size w
  go_wp2_with fail
  (with_reducible refine (vouchlaw09_fixed.calls 20 true _ fixed20).mono ?_)
  rintro e wA ⟨rfl, hbwA⟩
  have nHB := bt (HB) hbwA
  clear HB hbwA
  have HB := nHB
  clear nHB
  go_wp2_with fail
  (with_reducible refine (vouchlaw09_text.calls (⟨#[118]⟩ : ByteArray) true (⟨#[118]⟩ : ByteArray) _ rfl).mono ?_)
  rintro e wB ⟨rfl, hbwB⟩
  have nHB := bt (HB) hbwB
  clear HB hbwB
  have HB := nHB
  clear nHB
  go_wp2_with fail
  (with_reducible refine (vouchlaw09_text.calls (⟨#[118]⟩ : ByteArray) true (⟨#[118]⟩ : ByteArray) _ rfl).mono ?_)
  rintro e wC ⟨rfl, hbwC⟩
  have nB13 := blk_below (g := wB.heap.size) (o := .cells #[.string key, .bool true, .string (⟨#[118]⟩ : ByteArray), .int .i64 lo, .int .i64 (lo + 1 + a % 16)] 38 (0, 0)) (blk_new _ _) hbwC
  have nHB := bt (below_alloc HB _) hbwC
  clear HB hbwC
  have HB := nHB
  clear nHB
  try clear B13
  have B13 := nB13
  clear nB13
  have ne : wB.heap.size ≠ wC.heap.size := by have := blk_lt B13; omega
  have ne' : wC.heap.size ≠ wB.heap.size := fun h => ne h.symm
  have cB130 : wC.cell? ⟨wB.heap.size, 0, none⟩ = some (.string key) := (blk_cell B13 0).trans rfl
  have cB131 : wC.cell? ⟨wB.heap.size, 1, none⟩ = some (.bool true) := (blk_cell B13 1).trans rfl
  have cB132 : wC.cell? ⟨wB.heap.size, 2, none⟩ = some (.string (⟨#[118]⟩ : ByteArray)) := (blk_cell B13 2).trans rfl
  have cB133 : wC.cell? ⟨wB.heap.size, 3, none⟩ = some (.int .i64 lo) := (blk_cell B13 3).trans rfl
  have cB134 : wC.cell? ⟨wB.heap.size, 4, none⟩ = some (.int .i64 (lo + 1 + a % 16)) := (blk_cell B13 4).trans rfl
  have cB13f0 := blk_frozen B13 0
  have cB13f1 := blk_frozen B13 1
  have cB13f2 := blk_frozen B13 2
  have cB13f3 := blk_frozen B13 3
  have cB13f4 := blk_frozen B13 4
  have cB13lt : wB.heap.size < wC.heap.size := blk_lt B13
  go_wp2_with fail
  clear cB130 cB13f0 cB131 cB13f1 cB132 cB13f2 cB133 cB13f3 cB134 cB13f4 cB13lt
  (with_reducible refine (fact_Merge.calls 20 _ _ _ _ _ _ _ _ _ _ _ _ _ _ _ _ _ _ C1.out).mono ?_)
  rintro e wD ⟨rfl, hbwD⟩
  have nB13 := blk_below (g := wB.heap.size) (o := .cells #[.string key, .bool true, .string (⟨#[118]⟩ : ByteArray), .int .i64 lo, .int .i64 (lo + 1 + a % 16)] 38 (0, 0)) (blk_alloc B13 _) hbwD
  have nB14 := blk_below (g := wC.heap.size) (o := .cells #[.string key, .bool true, .string (⟨#[118]⟩ : ByteArray), .int .i64 lo, .int .i64 (lo + 1 + b % 16)] 38 (0, 0)) (blk_new _ _) hbwD
  have nHB := bt (below_alloc HB _) hbwD
  clear HB hbwD B13
  have HB := nHB
  have B13 := nB13
  have B14 := nB14
  clear nHB nB13 nB14
  have cB130 : wD.cell? ⟨wB.heap.size, 0, none⟩ = some (.string key) := (blk_cell B13 0).trans rfl
  have cB131 : wD.cell? ⟨wB.heap.size, 1, none⟩ = some (.bool true) := (blk_cell B13 1).trans rfl
  have cB132 : wD.cell? ⟨wB.heap.size, 2, none⟩ = some (.string (⟨#[118]⟩ : ByteArray)) := (blk_cell B13 2).trans rfl
  have cB133 : wD.cell? ⟨wB.heap.size, 3, none⟩ = some (.int .i64 lo) := (blk_cell B13 3).trans rfl
  have cB134 : wD.cell? ⟨wB.heap.size, 4, none⟩ = some (.int .i64 (lo + 1 + a % 16)) := (blk_cell B13 4).trans rfl
  have cB13f0 := blk_frozen B13 0
  have cB13f1 := blk_frozen B13 1
  have cB13f2 := blk_frozen B13 2
  have cB13f3 := blk_frozen B13 3
  have cB13f4 := blk_frozen B13 4
  have cB13lt : wB.heap.size < wD.heap.size := blk_lt B13
  have cB140 : wD.cell? ⟨wC.heap.size, 0, none⟩ = some (.string key) := (blk_cell B14 0).trans rfl
  have cB141 : wD.cell? ⟨wC.heap.size, 1, none⟩ = some (.bool true) := (blk_cell B14 1).trans rfl
  have cB142 : wD.cell? ⟨wC.heap.size, 2, none⟩ = some (.string (⟨#[118]⟩ : ByteArray)) := (blk_cell B14 2).trans rfl
  have cB143 : wD.cell? ⟨wC.heap.size, 3, none⟩ = some (.int .i64 lo) := (blk_cell B14 3).trans rfl
  have cB144 : wD.cell? ⟨wC.heap.size, 4, none⟩ = some (.int .i64 (lo + 1 + b % 16)) := (blk_cell B14 4).trans rfl
  have cB14f0 := blk_frozen B14 0
  have cB14f1 := blk_frozen B14 1
  have cB14f2 := blk_frozen B14 2
  have cB14f3 := blk_frozen B14 3
  have cB14f4 := blk_frozen B14 4
  have cB14lt : wC.heap.size < wD.heap.size := blk_lt B14
  go_wp2_with fail
  clear cB130 cB13f0 cB131 cB13f1 cB132 cB13f2 cB133 cB13f3 cB134 cB13f4 cB13lt
  clear cB140 cB14f0 cB141 cB14f1 cB142 cB14f2 cB143 cB14f3 cB144 cB14f4 cB14lt
  (with_reducible refine (fact_Merge.calls 20 _ _ _ _ _ _ _ _ _ _ _ _ _ _ _ _ _ _ C2.out).mono ?_)
  rintro e wE ⟨rfl, hbwE⟩
  have nB13 := blk_below (g := wB.heap.size) (o := .cells #[.string key, .bool true, .string (⟨#[118]⟩ : ByteArray), .int .i64 lo, .int .i64 (lo + 1 + a % 16)] 38 (0, 0)) (blk_alloc B13 _) hbwE
  have nB14 := blk_below (g := wC.heap.size) (o := .cells #[.string key, .bool true, .string (⟨#[118]⟩ : ByteArray), .int .i64 lo, .int .i64 (lo + 1 + b % 16)] 38 (0, 0)) (blk_alloc B14 _) hbwE
  have nB15 := blk_below (g := wD.heap.size) (o := .cells #[.string key, .bool true, .string (⟨#[118]⟩ : ByteArray), .int .i64 lo, .int .i64 (me)] 38 (0, 0)) (blk_new _ _) hbwE
  have nHB := bt (below_alloc HB _) hbwE
  clear HB hbwE
  have HB := nHB
  clear nHB
  try clear B13
  have B13 := nB13
  clear nB13
  try clear B14
  have B14 := nB14
  clear nB14
  try clear B15
  have B15 := nB15
  clear nB15
  have cB130 : wE.cell? ⟨wB.heap.size, 0, none⟩ = some (.string key) := (blk_cell B13 0).trans rfl
  have cB131 : wE.cell? ⟨wB.heap.size, 1, none⟩ = some (.bool true) := (blk_cell B13 1).trans rfl
  have cB132 : wE.cell? ⟨wB.heap.size, 2, none⟩ = some (.string (⟨#[118]⟩ : ByteArray)) := (blk_cell B13 2).trans rfl
  have cB133 : wE.cell? ⟨wB.heap.size, 3, none⟩ = some (.int .i64 lo) := (blk_cell B13 3).trans rfl
  have cB134 : wE.cell? ⟨wB.heap.size, 4, none⟩ = some (.int .i64 (lo + 1 + a % 16)) := (blk_cell B13 4).trans rfl
  have cB13f0 := blk_frozen B13 0
  have cB13f1 := blk_frozen B13 1
  have cB13f2 := blk_frozen B13 2
  have cB13f3 := blk_frozen B13 3
  have cB13f4 := blk_frozen B13 4
  have cB13lt : wB.heap.size < wE.heap.size := blk_lt B13
  have cB140 : wE.cell? ⟨wC.heap.size, 0, none⟩ = some (.string key) := (blk_cell B14 0).trans rfl
  have cB141 : wE.cell? ⟨wC.heap.size, 1, none⟩ = some (.bool true) := (blk_cell B14 1).trans rfl
  have cB142 : wE.cell? ⟨wC.heap.size, 2, none⟩ = some (.string (⟨#[118]⟩ : ByteArray)) := (blk_cell B14 2).trans rfl
  have cB143 : wE.cell? ⟨wC.heap.size, 3, none⟩ = some (.int .i64 lo) := (blk_cell B14 3).trans rfl
  have cB144 : wE.cell? ⟨wC.heap.size, 4, none⟩ = some (.int .i64 (lo + 1 + b % 16)) := (blk_cell B14 4).trans rfl
  have cB14f0 := blk_frozen B14 0
  have cB14f1 := blk_frozen B14 1
  have cB14f2 := blk_frozen B14 2
  have cB14f3 := blk_frozen B14 3
  have cB14f4 := blk_frozen B14 4
  have cB14lt : wC.heap.size < wE.heap.size := blk_lt B14
  have cB150 : wE.cell? ⟨wD.heap.size, 0, none⟩ = some (.string key) := (blk_cell B15 0).trans rfl
  have cB151 : wE.cell? ⟨wD.heap.size, 1, none⟩ = some (.bool true) := (blk_cell B15 1).trans rfl
  have cB152 : wE.cell? ⟨wD.heap.size, 2, none⟩ = some (.string (⟨#[118]⟩ : ByteArray)) := (blk_cell B15 2).trans rfl
  have cB153 : wE.cell? ⟨wD.heap.size, 3, none⟩ = some (.int .i64 lo) := (blk_cell B15 3).trans rfl
  have cB154 : wE.cell? ⟨wD.heap.size, 4, none⟩ = some (.int .i64 (me)) := (blk_cell B15 4).trans rfl
  have cB15f0 := blk_frozen B15 0
  have cB15f1 := blk_frozen B15 1
  have cB15f2 := blk_frozen B15 2
  have cB15f3 := blk_frozen B15 3
  have cB15f4 := blk_frozen B15 4
  have cB15lt : wD.heap.size < wE.heap.size := blk_lt B15
  go_wp2_with fail
  clear cB130 cB13f0 cB131 cB13f1 cB132 cB13f2 cB133 cB13f3 cB134 cB13f4 cB13lt
  clear cB140 cB14f0 cB141 cB14f1 cB142 cB14f2 cB143 cB14f3 cB144 cB14f4 cB14lt
  clear cB150 cB15f0 cB151 cB15f1 cB152 cB15f2 cB153 cB15f3 cB154 cB15f4 cB15lt
  (with_reducible refine (fact_Known.calls _ _ _ _ _ _ _ _ _ C3.out).mono ?_)
  rintro e wF ⟨rfl, hbwF⟩
  have nB13 := blk_below (g := wB.heap.size) (o := .cells #[.string key, .bool true, .string (⟨#[118]⟩ : ByteArray), .int .i64 lo, .int .i64 (lo + 1 + a % 16)] 38 (0, 0)) (blk_alloc B13 _) hbwF
  have nB14 := blk_below (g := wC.heap.size) (o := .cells #[.string key, .bool true, .string (⟨#[118]⟩ : ByteArray), .int .i64 lo, .int .i64 (lo + 1 + b % 16)] 38 (0, 0)) (blk_alloc B14 _) hbwF
  have nB15 := blk_below (g := wD.heap.size) (o := .cells #[.string key, .bool true, .string (⟨#[118]⟩ : ByteArray), .int .i64 lo, .int .i64 (me)] 38 (0, 0)) (blk_alloc B15 _) hbwF
  have nB17 := blk_below (g := wE.heap.size) (o := .cells #[.string key, .bool true, .string (⟨#[118]⟩ : ByteArray), .int .i64 lo, .int .i64 (me)] 38 (0, 0)) (blk_new _ _) hbwF
  have nHB := bt (below_alloc HB _) hbwF
  clear HB hbwF
  have HB := nHB
  clear nHB
  try clear B13
  have B13 := nB13
  clear nB13
  try clear B14
  have B14 := nB14
  clear nB14
  try clear B15
  have B15 := nB15
  clear nB15
  try clear B17
  have B17 := nB17
  clear nB17
  have cB130 : wF.cell? ⟨wB.heap.size, 0, none⟩ = some (.string key) := (blk_cell B13 0).trans rfl
  have cB131 : wF.cell? ⟨wB.heap.size, 1, none⟩ = some (.bool true) := (blk_cell B13 1).trans rfl
  have cB132 : wF.cell? ⟨wB.heap.size, 2, none⟩ = some (.string (⟨#[118]⟩ : ByteArray)) := (blk_cell B13 2).trans rfl
  have cB133 : wF.cell? ⟨wB.heap.size, 3, none⟩ = some (.int .i64 lo) := (blk_cell B13 3).trans rfl
  have cB134 : wF.cell? ⟨wB.heap.size, 4, none⟩ = some (.int .i64 (lo + 1 + a % 16)) := (blk_cell B13 4).trans rfl
  have cB13f0 := blk_frozen B13 0
  have cB13f1 := blk_frozen B13 1
  have cB13f2 := blk_frozen B13 2
  have cB13f3 := blk_frozen B13 3
  have cB13f4 := blk_frozen B13 4
  have cB13lt : wB.heap.size < wF.heap.size := blk_lt B13
  have cB140 : wF.cell? ⟨wC.heap.size, 0, none⟩ = some (.string key) := (blk_cell B14 0).trans rfl
  have cB141 : wF.cell? ⟨wC.heap.size, 1, none⟩ = some (.bool true) := (blk_cell B14 1).trans rfl
  have cB142 : wF.cell? ⟨wC.heap.size, 2, none⟩ = some (.string (⟨#[118]⟩ : ByteArray)) := (blk_cell B14 2).trans rfl
  have cB143 : wF.cell? ⟨wC.heap.size, 3, none⟩ = some (.int .i64 lo) := (blk_cell B14 3).trans rfl
  have cB144 : wF.cell? ⟨wC.heap.size, 4, none⟩ = some (.int .i64 (lo + 1 + b % 16)) := (blk_cell B14 4).trans rfl
  have cB14f0 := blk_frozen B14 0
  have cB14f1 := blk_frozen B14 1
  have cB14f2 := blk_frozen B14 2
  have cB14f3 := blk_frozen B14 3
  have cB14f4 := blk_frozen B14 4
  have cB14lt : wC.heap.size < wF.heap.size := blk_lt B14
  have cB150 : wF.cell? ⟨wD.heap.size, 0, none⟩ = some (.string key) := (blk_cell B15 0).trans rfl
  have cB151 : wF.cell? ⟨wD.heap.size, 1, none⟩ = some (.bool true) := (blk_cell B15 1).trans rfl
  have cB152 : wF.cell? ⟨wD.heap.size, 2, none⟩ = some (.string (⟨#[118]⟩ : ByteArray)) := (blk_cell B15 2).trans rfl
  have cB153 : wF.cell? ⟨wD.heap.size, 3, none⟩ = some (.int .i64 lo) := (blk_cell B15 3).trans rfl
  have cB154 : wF.cell? ⟨wD.heap.size, 4, none⟩ = some (.int .i64 (me)) := (blk_cell B15 4).trans rfl
  have cB15f0 := blk_frozen B15 0
  have cB15f1 := blk_frozen B15 1
  have cB15f2 := blk_frozen B15 2
  have cB15f3 := blk_frozen B15 3
  have cB15f4 := blk_frozen B15 4
  have cB15lt : wD.heap.size < wF.heap.size := blk_lt B15
  have cB170 : wF.cell? ⟨wE.heap.size, 0, none⟩ = some (.string key) := (blk_cell B17 0).trans rfl
  have cB171 : wF.cell? ⟨wE.heap.size, 1, none⟩ = some (.bool true) := (blk_cell B17 1).trans rfl
  have cB172 : wF.cell? ⟨wE.heap.size, 2, none⟩ = some (.string (⟨#[118]⟩ : ByteArray)) := (blk_cell B17 2).trans rfl
  have cB173 : wF.cell? ⟨wE.heap.size, 3, none⟩ = some (.int .i64 lo) := (blk_cell B17 3).trans rfl
  have cB174 : wF.cell? ⟨wE.heap.size, 4, none⟩ = some (.int .i64 (me)) := (blk_cell B17 4).trans rfl
  have cB17f0 := blk_frozen B17 0
  have cB17f1 := blk_frozen B17 1
  have cB17f2 := blk_frozen B17 2
  have cB17f3 := blk_frozen B17 3
  have cB17f4 := blk_frozen B17 4
  have cB17lt : wE.heap.size < wF.heap.size := blk_lt B17
  go_wp2_with fail
  clear cB130 cB13f0 cB131 cB13f1 cB132 cB13f2 cB133 cB13f3 cB134 cB13f4 cB13lt
  clear cB140 cB14f0 cB141 cB14f1 cB142 cB14f2 cB143 cB14f3 cB144 cB14f4 cB14lt
  clear cB150 cB15f0 cB151 cB15f1 cB152 cB15f2 cB153 cB15f3 cB154 cB15f4 cB15lt
  clear cB170 cB17f0 cB171 cB17f1 cB172 cB17f2 cB173 cB17f3 cB174 cB17f4 cB17lt
  (with_reducible refine (span_Span_int64_Has.calls _ _ _ _ _ C6.out).mono ?_)
  rintro e wG ⟨rfl, hbwG⟩
  have nB13 := blk_below (g := wB.heap.size) (o := .cells #[.string key, .bool true, .string (⟨#[118]⟩ : ByteArray), .int .i64 lo, .int .i64 (lo + 1 + a % 16)] 38 (0, 0)) (B13) hbwG
  have nB14 := blk_below (g := wC.heap.size) (o := .cells #[.string key, .bool true, .string (⟨#[118]⟩ : ByteArray), .int .i64 lo, .int .i64 (lo + 1 + b % 16)] 38 (0, 0)) (B14) hbwG
  have nB15 := blk_below (g := wD.heap.size) (o := .cells #[.string key, .bool true, .string (⟨#[118]⟩ : ByteArray), .int .i64 lo, .int .i64 (me)] 38 (0, 0)) (B15) hbwG
  have nB17 := blk_below (g := wE.heap.size) (o := .cells #[.string key, .bool true, .string (⟨#[118]⟩ : ByteArray), .int .i64 lo, .int .i64 (me)] 38 (0, 0)) (B17) hbwG
  have nHB := bt (HB) hbwG
  clear HB hbwG
  have HB := nHB
  clear nHB
  try clear B13
  have B13 := nB13
  clear nB13
  try clear B14
  have B14 := nB14
  clear nB14
  try clear B15
  have B15 := nB15
  clear nB15
  try clear B17
  have B17 := nB17
  clear nB17
  have cB130 : wG.cell? ⟨wB.heap.size, 0, none⟩ = some (.string key) := (blk_cell B13 0).trans rfl
  have cB131 : wG.cell? ⟨wB.heap.size, 1, none⟩ = some (.bool true) := (blk_cell B13 1).trans rfl
  have cB132 : wG.cell? ⟨wB.heap.size, 2, none⟩ = some (.string (⟨#[118]⟩ : ByteArray)) := (blk_cell B13 2).trans rfl
  have cB133 : wG.cell? ⟨wB.heap.size, 3, none⟩ = some (.int .i64 lo) := (blk_cell B13 3).trans rfl
  have cB134 : wG.cell? ⟨wB.heap.size, 4, none⟩ = some (.int .i64 (lo + 1 + a % 16)) := (blk_cell B13 4).trans rfl
  have cB13f0 := blk_frozen B13 0
  have cB13f1 := blk_frozen B13 1
  have cB13f2 := blk_frozen B13 2
  have cB13f3 := blk_frozen B13 3
  have cB13f4 := blk_frozen B13 4
  have cB13lt : wB.heap.size < wG.heap.size := blk_lt B13
  have cB140 : wG.cell? ⟨wC.heap.size, 0, none⟩ = some (.string key) := (blk_cell B14 0).trans rfl
  have cB141 : wG.cell? ⟨wC.heap.size, 1, none⟩ = some (.bool true) := (blk_cell B14 1).trans rfl
  have cB142 : wG.cell? ⟨wC.heap.size, 2, none⟩ = some (.string (⟨#[118]⟩ : ByteArray)) := (blk_cell B14 2).trans rfl
  have cB143 : wG.cell? ⟨wC.heap.size, 3, none⟩ = some (.int .i64 lo) := (blk_cell B14 3).trans rfl
  have cB144 : wG.cell? ⟨wC.heap.size, 4, none⟩ = some (.int .i64 (lo + 1 + b % 16)) := (blk_cell B14 4).trans rfl
  have cB14f0 := blk_frozen B14 0
  have cB14f1 := blk_frozen B14 1
  have cB14f2 := blk_frozen B14 2
  have cB14f3 := blk_frozen B14 3
  have cB14f4 := blk_frozen B14 4
  have cB14lt : wC.heap.size < wG.heap.size := blk_lt B14
  have cB150 : wG.cell? ⟨wD.heap.size, 0, none⟩ = some (.string key) := (blk_cell B15 0).trans rfl
  have cB151 : wG.cell? ⟨wD.heap.size, 1, none⟩ = some (.bool true) := (blk_cell B15 1).trans rfl
  have cB152 : wG.cell? ⟨wD.heap.size, 2, none⟩ = some (.string (⟨#[118]⟩ : ByteArray)) := (blk_cell B15 2).trans rfl
  have cB153 : wG.cell? ⟨wD.heap.size, 3, none⟩ = some (.int .i64 lo) := (blk_cell B15 3).trans rfl
  have cB154 : wG.cell? ⟨wD.heap.size, 4, none⟩ = some (.int .i64 (me)) := (blk_cell B15 4).trans rfl
  have cB15f0 := blk_frozen B15 0
  have cB15f1 := blk_frozen B15 1
  have cB15f2 := blk_frozen B15 2
  have cB15f3 := blk_frozen B15 3
  have cB15f4 := blk_frozen B15 4
  have cB15lt : wD.heap.size < wG.heap.size := blk_lt B15
  have cB170 : wG.cell? ⟨wE.heap.size, 0, none⟩ = some (.string key) := (blk_cell B17 0).trans rfl
  have cB171 : wG.cell? ⟨wE.heap.size, 1, none⟩ = some (.bool true) := (blk_cell B17 1).trans rfl
  have cB172 : wG.cell? ⟨wE.heap.size, 2, none⟩ = some (.string (⟨#[118]⟩ : ByteArray)) := (blk_cell B17 2).trans rfl
  have cB173 : wG.cell? ⟨wE.heap.size, 3, none⟩ = some (.int .i64 lo) := (blk_cell B17 3).trans rfl
  have cB174 : wG.cell? ⟨wE.heap.size, 4, none⟩ = some (.int .i64 (me)) := (blk_cell B17 4).trans rfl
  have cB17f0 := blk_frozen B17 0
  have cB17f1 := blk_frozen B17 1
  have cB17f2 := blk_frozen B17 2
  have cB17f3 := blk_frozen B17 3
  have cB17f4 := blk_frozen B17 4
  have cB17lt : wE.heap.size < wG.heap.size := blk_lt B17
  go_wp2_with fail
  clear cB130 cB13f0 cB131 cB13f1 cB132 cB13f2 cB133 cB13f3 cB134 cB13f4 cB13lt
  clear cB140 cB14f0 cB141 cB14f1 cB142 cB14f2 cB143 cB14f3 cB144 cB14f4 cB14lt
  clear cB150 cB15f0 cB151 cB15f1 cB152 cB15f2 cB153 cB15f3 cB154 cB15f4 cB15lt
  clear cB170 cB17f0 cB171 cB17f1 cB172 cB17f2 cB173 cB17f3 cB174 cB17f4 cB17lt
  (with_reducible refine (fact_Known.calls _ _ _ _ _ _ _ _ _ C4.out).mono ?_)
  rintro e wH ⟨rfl, hbwH⟩
  have nB13 := blk_below (g := wB.heap.size) (o := .cells #[.string key, .bool true, .string (⟨#[118]⟩ : ByteArray), .int .i64 lo, .int .i64 (lo + 1 + a % 16)] 38 (0, 0)) (B13) hbwH
  have nB14 := blk_below (g := wC.heap.size) (o := .cells #[.string key, .bool true, .string (⟨#[118]⟩ : ByteArray), .int .i64 lo, .int .i64 (lo + 1 + b % 16)] 38 (0, 0)) (B14) hbwH
  have nB15 := blk_below (g := wD.heap.size) (o := .cells #[.string key, .bool true, .string (⟨#[118]⟩ : ByteArray), .int .i64 lo, .int .i64 (me)] 38 (0, 0)) (B15) hbwH
  have nB17 := blk_below (g := wE.heap.size) (o := .cells #[.string key, .bool true, .string (⟨#[118]⟩ : ByteArray), .int .i64 lo, .int .i64 (me)] 38 (0, 0)) (B17) hbwH
  have nHB := bt (HB) hbwH
  clear HB hbwH
  have HB := nHB
  clear nHB
  try clear B13
  have B13 := nB13
  clear nB13
  try clear B14
  have B14 := nB14
  clear nB14
  try clear B15
  have B15 := nB15
  clear nB15
  try clear B17
  have B17 := nB17
  clear nB17
  have cB130 : wH.cell? ⟨wB.heap.size, 0, none⟩ = some (.string key) := (blk_cell B13 0).trans rfl
  have cB131 : wH.cell? ⟨wB.heap.size, 1, none⟩ = some (.bool true) := (blk_cell B13 1).trans rfl
  have cB132 : wH.cell? ⟨wB.heap.size, 2, none⟩ = some (.string (⟨#[118]⟩ : ByteArray)) := (blk_cell B13 2).trans rfl
  have cB133 : wH.cell? ⟨wB.heap.size, 3, none⟩ = some (.int .i64 lo) := (blk_cell B13 3).trans rfl
  have cB134 : wH.cell? ⟨wB.heap.size, 4, none⟩ = some (.int .i64 (lo + 1 + a % 16)) := (blk_cell B13 4).trans rfl
  have cB13f0 := blk_frozen B13 0
  have cB13f1 := blk_frozen B13 1
  have cB13f2 := blk_frozen B13 2
  have cB13f3 := blk_frozen B13 3
  have cB13f4 := blk_frozen B13 4
  have cB13lt : wB.heap.size < wH.heap.size := blk_lt B13
  have cB140 : wH.cell? ⟨wC.heap.size, 0, none⟩ = some (.string key) := (blk_cell B14 0).trans rfl
  have cB141 : wH.cell? ⟨wC.heap.size, 1, none⟩ = some (.bool true) := (blk_cell B14 1).trans rfl
  have cB142 : wH.cell? ⟨wC.heap.size, 2, none⟩ = some (.string (⟨#[118]⟩ : ByteArray)) := (blk_cell B14 2).trans rfl
  have cB143 : wH.cell? ⟨wC.heap.size, 3, none⟩ = some (.int .i64 lo) := (blk_cell B14 3).trans rfl
  have cB144 : wH.cell? ⟨wC.heap.size, 4, none⟩ = some (.int .i64 (lo + 1 + b % 16)) := (blk_cell B14 4).trans rfl
  have cB14f0 := blk_frozen B14 0
  have cB14f1 := blk_frozen B14 1
  have cB14f2 := blk_frozen B14 2
  have cB14f3 := blk_frozen B14 3
  have cB14f4 := blk_frozen B14 4
  have cB14lt : wC.heap.size < wH.heap.size := blk_lt B14
  have cB150 : wH.cell? ⟨wD.heap.size, 0, none⟩ = some (.string key) := (blk_cell B15 0).trans rfl
  have cB151 : wH.cell? ⟨wD.heap.size, 1, none⟩ = some (.bool true) := (blk_cell B15 1).trans rfl
  have cB152 : wH.cell? ⟨wD.heap.size, 2, none⟩ = some (.string (⟨#[118]⟩ : ByteArray)) := (blk_cell B15 2).trans rfl
  have cB153 : wH.cell? ⟨wD.heap.size, 3, none⟩ = some (.int .i64 lo) := (blk_cell B15 3).trans rfl
  have cB154 : wH.cell? ⟨wD.heap.size, 4, none⟩ = some (.int .i64 (me)) := (blk_cell B15 4).trans rfl
  have cB15f0 := blk_frozen B15 0
  have cB15f1 := blk_frozen B15 1
  have cB15f2 := blk_frozen B15 2
  have cB15f3 := blk_frozen B15 3
  have cB15f4 := blk_frozen B15 4
  have cB15lt : wD.heap.size < wH.heap.size := blk_lt B15
  have cB170 : wH.cell? ⟨wE.heap.size, 0, none⟩ = some (.string key) := (blk_cell B17 0).trans rfl
  have cB171 : wH.cell? ⟨wE.heap.size, 1, none⟩ = some (.bool true) := (blk_cell B17 1).trans rfl
  have cB172 : wH.cell? ⟨wE.heap.size, 2, none⟩ = some (.string (⟨#[118]⟩ : ByteArray)) := (blk_cell B17 2).trans rfl
  have cB173 : wH.cell? ⟨wE.heap.size, 3, none⟩ = some (.int .i64 lo) := (blk_cell B17 3).trans rfl
  have cB174 : wH.cell? ⟨wE.heap.size, 4, none⟩ = some (.int .i64 (me)) := (blk_cell B17 4).trans rfl
  have cB17f0 := blk_frozen B17 0
  have cB17f1 := blk_frozen B17 1
  have cB17f2 := blk_frozen B17 2
  have cB17f3 := blk_frozen B17 3
  have cB17f4 := blk_frozen B17 4
  have cB17lt : wE.heap.size < wH.heap.size := blk_lt B17
  go_wp2_with fail
  clear cB130 cB13f0 cB131 cB13f1 cB132 cB13f2 cB133 cB13f3 cB134 cB13f4 cB13lt
  clear cB140 cB14f0 cB141 cB14f1 cB142 cB14f2 cB143 cB14f3 cB144 cB14f4 cB14lt
  clear cB150 cB15f0 cB151 cB15f1 cB152 cB15f2 cB153 cB15f3 cB154 cB15f4 cB15lt
  clear cB170 cB17f0 cB171 cB17f1 cB172 cB17f2 cB173 cB17f3 cB174 cB17f4 cB17lt
  (with_reducible refine (span_Span_int64_Has.calls _ _ _ _ _ C7.out).mono ?_)
  rintro e wI ⟨rfl, hbwI⟩
  have nB13 := blk_below (g := wB.heap.size) (o := .cells #[.string key, .bool true, .string (⟨#[118]⟩ : ByteArray), .int .i64 lo, .int .i64 (lo + 1 + a % 16)] 38 (0, 0)) (B13) hbwI
  have nB14 := blk_below (g := wC.heap.size) (o := .cells #[.string key, .bool true, .string (⟨#[118]⟩ : ByteArray), .int .i64 lo, .int .i64 (lo + 1 + b % 16)] 38 (0, 0)) (B14) hbwI
  have nB15 := blk_below (g := wD.heap.size) (o := .cells #[.string key, .bool true, .string (⟨#[118]⟩ : ByteArray), .int .i64 lo, .int .i64 (me)] 38 (0, 0)) (B15) hbwI
  have nB17 := blk_below (g := wE.heap.size) (o := .cells #[.string key, .bool true, .string (⟨#[118]⟩ : ByteArray), .int .i64 lo, .int .i64 (me)] 38 (0, 0)) (B17) hbwI
  have nHB := bt (HB) hbwI
  clear HB hbwI
  have HB := nHB
  clear nHB
  try clear B13
  have B13 := nB13
  clear nB13
  try clear B14
  have B14 := nB14
  clear nB14
  try clear B15
  have B15 := nB15
  clear nB15
  try clear B17
  have B17 := nB17
  clear nB17
  have cB130 : wI.cell? ⟨wB.heap.size, 0, none⟩ = some (.string key) := (blk_cell B13 0).trans rfl
  have cB131 : wI.cell? ⟨wB.heap.size, 1, none⟩ = some (.bool true) := (blk_cell B13 1).trans rfl
  have cB132 : wI.cell? ⟨wB.heap.size, 2, none⟩ = some (.string (⟨#[118]⟩ : ByteArray)) := (blk_cell B13 2).trans rfl
  have cB133 : wI.cell? ⟨wB.heap.size, 3, none⟩ = some (.int .i64 lo) := (blk_cell B13 3).trans rfl
  have cB134 : wI.cell? ⟨wB.heap.size, 4, none⟩ = some (.int .i64 (lo + 1 + a % 16)) := (blk_cell B13 4).trans rfl
  have cB13f0 := blk_frozen B13 0
  have cB13f1 := blk_frozen B13 1
  have cB13f2 := blk_frozen B13 2
  have cB13f3 := blk_frozen B13 3
  have cB13f4 := blk_frozen B13 4
  have cB13lt : wB.heap.size < wI.heap.size := blk_lt B13
  have cB140 : wI.cell? ⟨wC.heap.size, 0, none⟩ = some (.string key) := (blk_cell B14 0).trans rfl
  have cB141 : wI.cell? ⟨wC.heap.size, 1, none⟩ = some (.bool true) := (blk_cell B14 1).trans rfl
  have cB142 : wI.cell? ⟨wC.heap.size, 2, none⟩ = some (.string (⟨#[118]⟩ : ByteArray)) := (blk_cell B14 2).trans rfl
  have cB143 : wI.cell? ⟨wC.heap.size, 3, none⟩ = some (.int .i64 lo) := (blk_cell B14 3).trans rfl
  have cB144 : wI.cell? ⟨wC.heap.size, 4, none⟩ = some (.int .i64 (lo + 1 + b % 16)) := (blk_cell B14 4).trans rfl
  have cB14f0 := blk_frozen B14 0
  have cB14f1 := blk_frozen B14 1
  have cB14f2 := blk_frozen B14 2
  have cB14f3 := blk_frozen B14 3
  have cB14f4 := blk_frozen B14 4
  have cB14lt : wC.heap.size < wI.heap.size := blk_lt B14
  have cB150 : wI.cell? ⟨wD.heap.size, 0, none⟩ = some (.string key) := (blk_cell B15 0).trans rfl
  have cB151 : wI.cell? ⟨wD.heap.size, 1, none⟩ = some (.bool true) := (blk_cell B15 1).trans rfl
  have cB152 : wI.cell? ⟨wD.heap.size, 2, none⟩ = some (.string (⟨#[118]⟩ : ByteArray)) := (blk_cell B15 2).trans rfl
  have cB153 : wI.cell? ⟨wD.heap.size, 3, none⟩ = some (.int .i64 lo) := (blk_cell B15 3).trans rfl
  have cB154 : wI.cell? ⟨wD.heap.size, 4, none⟩ = some (.int .i64 (me)) := (blk_cell B15 4).trans rfl
  have cB15f0 := blk_frozen B15 0
  have cB15f1 := blk_frozen B15 1
  have cB15f2 := blk_frozen B15 2
  have cB15f3 := blk_frozen B15 3
  have cB15f4 := blk_frozen B15 4
  have cB15lt : wD.heap.size < wI.heap.size := blk_lt B15
  have cB170 : wI.cell? ⟨wE.heap.size, 0, none⟩ = some (.string key) := (blk_cell B17 0).trans rfl
  have cB171 : wI.cell? ⟨wE.heap.size, 1, none⟩ = some (.bool true) := (blk_cell B17 1).trans rfl
  have cB172 : wI.cell? ⟨wE.heap.size, 2, none⟩ = some (.string (⟨#[118]⟩ : ByteArray)) := (blk_cell B17 2).trans rfl
  have cB173 : wI.cell? ⟨wE.heap.size, 3, none⟩ = some (.int .i64 lo) := (blk_cell B17 3).trans rfl
  have cB174 : wI.cell? ⟨wE.heap.size, 4, none⟩ = some (.int .i64 (me)) := (blk_cell B17 4).trans rfl
  have cB17f0 := blk_frozen B17 0
  have cB17f1 := blk_frozen B17 1
  have cB17f2 := blk_frozen B17 2
  have cB17f3 := blk_frozen B17 3
  have cB17f4 := blk_frozen B17 4
  have cB17lt : wE.heap.size < wI.heap.size := blk_lt B17
  go_wp2_with fail
  clear cB130 cB13f0 cB131 cB13f1 cB132 cB13f2 cB133 cB13f3 cB134 cB13f4 cB13lt
  clear cB140 cB14f0 cB141 cB14f1 cB142 cB14f2 cB143 cB14f3 cB144 cB14f4 cB14lt
  clear cB150 cB15f0 cB151 cB15f1 cB152 cB15f2 cB153 cB15f3 cB154 cB15f4 cB15lt
  clear cB170 cB17f0 cB171 cB17f1 cB172 cB17f2 cB173 cB17f3 cB174 cB17f4 cB17lt
  (with_reducible refine (fact_Known.calls _ _ _ _ _ _ _ _ _ C5.out).mono ?_)
  rintro e wJ ⟨rfl, hbwJ⟩
  have nB13 := blk_below (g := wB.heap.size) (o := .cells #[.string key, .bool true, .string (⟨#[118]⟩ : ByteArray), .int .i64 lo, .int .i64 (lo + 1 + a % 16)] 38 (0, 0)) (B13) hbwJ
  have nB14 := blk_below (g := wC.heap.size) (o := .cells #[.string key, .bool true, .string (⟨#[118]⟩ : ByteArray), .int .i64 lo, .int .i64 (lo + 1 + b % 16)] 38 (0, 0)) (B14) hbwJ
  have nB15 := blk_below (g := wD.heap.size) (o := .cells #[.string key, .bool true, .string (⟨#[118]⟩ : ByteArray), .int .i64 lo, .int .i64 (me)] 38 (0, 0)) (B15) hbwJ
  have nB17 := blk_below (g := wE.heap.size) (o := .cells #[.string key, .bool true, .string (⟨#[118]⟩ : ByteArray), .int .i64 lo, .int .i64 (me)] 38 (0, 0)) (B17) hbwJ
  have nHB := bt (HB) hbwJ
  clear HB hbwJ
  have HB := nHB
  clear nHB
  try clear B13
  have B13 := nB13
  clear nB13
  try clear B14
  have B14 := nB14
  clear nB14
  try clear B15
  have B15 := nB15
  clear nB15
  try clear B17
  have B17 := nB17
  clear nB17
  have cB130 : wJ.cell? ⟨wB.heap.size, 0, none⟩ = some (.string key) := (blk_cell B13 0).trans rfl
  have cB131 : wJ.cell? ⟨wB.heap.size, 1, none⟩ = some (.bool true) := (blk_cell B13 1).trans rfl
  have cB132 : wJ.cell? ⟨wB.heap.size, 2, none⟩ = some (.string (⟨#[118]⟩ : ByteArray)) := (blk_cell B13 2).trans rfl
  have cB133 : wJ.cell? ⟨wB.heap.size, 3, none⟩ = some (.int .i64 lo) := (blk_cell B13 3).trans rfl
  have cB134 : wJ.cell? ⟨wB.heap.size, 4, none⟩ = some (.int .i64 (lo + 1 + a % 16)) := (blk_cell B13 4).trans rfl
  have cB13f0 := blk_frozen B13 0
  have cB13f1 := blk_frozen B13 1
  have cB13f2 := blk_frozen B13 2
  have cB13f3 := blk_frozen B13 3
  have cB13f4 := blk_frozen B13 4
  have cB13lt : wB.heap.size < wJ.heap.size := blk_lt B13
  have cB140 : wJ.cell? ⟨wC.heap.size, 0, none⟩ = some (.string key) := (blk_cell B14 0).trans rfl
  have cB141 : wJ.cell? ⟨wC.heap.size, 1, none⟩ = some (.bool true) := (blk_cell B14 1).trans rfl
  have cB142 : wJ.cell? ⟨wC.heap.size, 2, none⟩ = some (.string (⟨#[118]⟩ : ByteArray)) := (blk_cell B14 2).trans rfl
  have cB143 : wJ.cell? ⟨wC.heap.size, 3, none⟩ = some (.int .i64 lo) := (blk_cell B14 3).trans rfl
  have cB144 : wJ.cell? ⟨wC.heap.size, 4, none⟩ = some (.int .i64 (lo + 1 + b % 16)) := (blk_cell B14 4).trans rfl
  have cB14f0 := blk_frozen B14 0
  have cB14f1 := blk_frozen B14 1
  have cB14f2 := blk_frozen B14 2
  have cB14f3 := blk_frozen B14 3
  have cB14f4 := blk_frozen B14 4
  have cB14lt : wC.heap.size < wJ.heap.size := blk_lt B14
  have cB150 : wJ.cell? ⟨wD.heap.size, 0, none⟩ = some (.string key) := (blk_cell B15 0).trans rfl
  have cB151 : wJ.cell? ⟨wD.heap.size, 1, none⟩ = some (.bool true) := (blk_cell B15 1).trans rfl
  have cB152 : wJ.cell? ⟨wD.heap.size, 2, none⟩ = some (.string (⟨#[118]⟩ : ByteArray)) := (blk_cell B15 2).trans rfl
  have cB153 : wJ.cell? ⟨wD.heap.size, 3, none⟩ = some (.int .i64 lo) := (blk_cell B15 3).trans rfl
  have cB154 : wJ.cell? ⟨wD.heap.size, 4, none⟩ = some (.int .i64 (me)) := (blk_cell B15 4).trans rfl
  have cB15f0 := blk_frozen B15 0
  have cB15f1 := blk_frozen B15 1
  have cB15f2 := blk_frozen B15 2
  have cB15f3 := blk_frozen B15 3
  have cB15f4 := blk_frozen B15 4
  have cB15lt : wD.heap.size < wJ.heap.size := blk_lt B15
  have cB170 : wJ.cell? ⟨wE.heap.size, 0, none⟩ = some (.string key) := (blk_cell B17 0).trans rfl
  have cB171 : wJ.cell? ⟨wE.heap.size, 1, none⟩ = some (.bool true) := (blk_cell B17 1).trans rfl
  have cB172 : wJ.cell? ⟨wE.heap.size, 2, none⟩ = some (.string (⟨#[118]⟩ : ByteArray)) := (blk_cell B17 2).trans rfl
  have cB173 : wJ.cell? ⟨wE.heap.size, 3, none⟩ = some (.int .i64 lo) := (blk_cell B17 3).trans rfl
  have cB174 : wJ.cell? ⟨wE.heap.size, 4, none⟩ = some (.int .i64 (me)) := (blk_cell B17 4).trans rfl
  have cB17f0 := blk_frozen B17 0
  have cB17f1 := blk_frozen B17 1
  have cB17f2 := blk_frozen B17 2
  have cB17f3 := blk_frozen B17 3
  have cB17f4 := blk_frozen B17 4
  have cB17lt : wE.heap.size < wJ.heap.size := blk_lt B17
  go_wp2_with fail
  clear cB130 cB13f0 cB131 cB13f1 cB132 cB13f2 cB133 cB13f3 cB134 cB13f4 cB13lt
  clear cB140 cB14f0 cB141 cB14f1 cB142 cB14f2 cB143 cB14f3 cB144 cB14f4 cB14lt
  clear cB150 cB15f0 cB151 cB15f1 cB152 cB15f2 cB153 cB15f3 cB154 cB15f4 cB15lt
  clear cB170 cB17f0 cB171 cB17f1 cB172 cB17f2 cB173 cB17f3 cB174 cB17f4 cB17lt
  (with_reducible refine (span_Span_int64_Has.calls _ _ _ _ _ C8.out).mono ?_)
  rintro e wK ⟨rfl, hbwK⟩
  have nB13 := blk_below (g := wB.heap.size) (o := .cells #[.string key, .bool true, .string (⟨#[118]⟩ : ByteArray), .int .i64 lo, .int .i64 (lo + 1 + a % 16)] 38 (0, 0)) (B13) hbwK
  have nB14 := blk_below (g := wC.heap.size) (o := .cells #[.string key, .bool true, .string (⟨#[118]⟩ : ByteArray), .int .i64 lo, .int .i64 (lo + 1 + b % 16)] 38 (0, 0)) (B14) hbwK
  have nB15 := blk_below (g := wD.heap.size) (o := .cells #[.string key, .bool true, .string (⟨#[118]⟩ : ByteArray), .int .i64 lo, .int .i64 (me)] 38 (0, 0)) (B15) hbwK
  have nB17 := blk_below (g := wE.heap.size) (o := .cells #[.string key, .bool true, .string (⟨#[118]⟩ : ByteArray), .int .i64 lo, .int .i64 (me)] 38 (0, 0)) (B17) hbwK
  have nHB := bt (HB) hbwK
  clear HB hbwK
  have HB := nHB
  clear nHB
  try clear B13
  have B13 := nB13
  clear nB13
  try clear B14
  have B14 := nB14
  clear nB14
  try clear B15
  have B15 := nB15
  clear nB15
  try clear B17
  have B17 := nB17
  clear nB17
  go_wp2_with fail
  go_ret
  exact ⟨by simp, HB⟩
set_option maxHeartbeats 2000000 in
set_option maxRecDepth 100000 in
theorem walk_001 (key : ByteArray) (lo a b at_ c me x0 x1 y0 y1 z0 z1 : Int) (q : Bool) (w : World) (l0 : 0 ≤ lo) (l1 : lo ≤ 255) (a0 : 0 ≤ a) (a1 : a ≤ 255) (b0 : 0 ≤ b) (b1 : b ≤ 255) (t0 : 0 ≤ at_) (t1 : at_ ≤ 255) (c0 : 0 ≤ c) (c1 : c ≤ 255)
    (ha : a < 128) (hb : b < 128)
    (m1 : fact_Merge.f 20 key true (⟨#[118]⟩ : ByteArray) lo (lo + 1 + a % 16) key true (⟨#[118]⟩ : ByteArray) lo (lo + 1 + b % 16) at_ = some (key, true, ⟨#[118]⟩, lo, me, true)) (m2 : fact_Merge.f 20 key true (⟨#[118]⟩ : ByteArray) lo (lo + 1 + b % 16) key true (⟨#[118]⟩ : ByteArray) lo (lo + 1 + a % 16) at_ = some (key, true, ⟨#[118]⟩, lo, me, true))
    (k1 : fact_Known.f key true (⟨#[118]⟩ : ByteArray) lo (lo + 1 + a % 16) at_ = some (x0, x1)) (k2 : fact_Known.f key true (⟨#[118]⟩ : ByteArray) lo (lo + 1 + b % 16) at_ = some (y0, y1)) (k3 : fact_Known.f key true (⟨#[118]⟩ : ByteArray) lo (me) at_ = some (z0, z1))
    (h1 : span_Span_int64_Has.f x0 x1 c = some true) (h2 : span_Span_int64_Has.f y0 y1 c = some q) (h3 : span_Span_int64_Has.f z0 z1 c = some true) :
    Calls Try.prog 9 #[.string key, .int .u8 lo, .int .u8 a, .int .u8 b, .int .u8 at_, .int .u8 c] w fun e w' => e = .returned (.bool true) ∧ Below w.heap.size w w' := by
  have C1 := Aside0.mk m1
  have C2 := Aside0.mk m2
  have C3 := Aside0.mk k1
  have C4 := Aside0.mk k2
  have C5 := Aside0.mk k3
  have C6 := Aside0.mk h1
  have C7 := Aside0.mk h2
  have C8 := Aside0.mk h3
  clear m1 m2 k1 k2 k3 h1 h2 h3
  go_enter Try.func9, Try.ntmps9
  have HB := Below.refl w.heap.size w
  go_wp2_with fail
  (with_reducible refine (vouchlaw09_fixed.calls 20 true _ fixed20).mono ?_)
  rintro e wA ⟨rfl, hbwA⟩
  have nHB := bt (HB) hbwA
  clear HB hbwA
  have HB := nHB
  clear nHB
  go_wp2_with fail
  (with_reducible refine (vouchlaw09_text.calls (⟨#[118]⟩ : ByteArray) true (⟨#[118]⟩ : ByteArray) _ rfl).mono ?_)
  rintro e wB ⟨rfl, hbwB⟩
  have nHB := bt (HB) hbwB
  clear HB hbwB
  have HB := nHB
  clear nHB
  go_wp2_with fail
  (with_reducible refine (vouchlaw09_text.calls (⟨#[118]⟩ : ByteArray) true (⟨#[118]⟩ : ByteArray) _ rfl).mono ?_)
  rintro e wC ⟨rfl, hbwC⟩
  have nB13 := blk_below (g := wB.heap.size) (o := .cells #[.string key, .bool true, .string (⟨#[118]⟩ : ByteArray), .int .i64 lo, .int .i64 (lo + 1 + a % 16)] 38 (0, 0)) (blk_new _ _) hbwC
  have nHB := bt (below_alloc HB _) hbwC
  clear HB hbwC
  have HB := nHB
  clear nHB
  try clear B13
  have B13 := nB13
  clear nB13
  have ne : wB.heap.size ≠ wC.heap.size := by have := blk_lt B13; omega
  have ne' : wC.heap.size ≠ wB.heap.size := fun h => ne h.symm
  have cB130 : wC.cell? ⟨wB.heap.size, 0, none⟩ = some (.string key) := (blk_cell B13 0).trans rfl
  have cB131 : wC.cell? ⟨wB.heap.size, 1, none⟩ = some (.bool true) := (blk_cell B13 1).trans rfl
  have cB132 : wC.cell? ⟨wB.heap.size, 2, none⟩ = some (.string (⟨#[118]⟩ : ByteArray)) := (blk_cell B13 2).trans rfl
  have cB133 : wC.cell? ⟨wB.heap.size, 3, none⟩ = some (.int .i64 lo) := (blk_cell B13 3).trans rfl
  have cB134 : wC.cell? ⟨wB.heap.size, 4, none⟩ = some (.int .i64 (lo + 1 + a % 16)) := (blk_cell B13 4).trans rfl
  have cB13f0 := blk_frozen B13 0
  have cB13f1 := blk_frozen B13 1
  have cB13f2 := blk_frozen B13 2
  have cB13f3 := blk_frozen B13 3
  have cB13f4 := blk_frozen B13 4
  have cB13lt : wB.heap.size < wC.heap.size := blk_lt B13
  go_wp2_with fail
  clear cB130 cB13f0 cB131 cB13f1 cB132 cB13f2 cB133 cB13f3 cB134 cB13f4 cB13lt
  (with_reducible refine (fact_Merge.calls 20 _ _ _ _ _ _ _ _ _ _ _ _ _ _ _ _ _ _ C1.out).mono ?_)
  rintro e wD ⟨rfl, hbwD⟩
  have nB13 := blk_below (g := wB.heap.size) (o := .cells #[.string key, .bool true, .string (⟨#[118]⟩ : ByteArray), .int .i64 lo, .int .i64 (lo + 1 + a % 16)] 38 (0, 0)) (blk_alloc B13 _) hbwD
  have nB14 := blk_below (g := wC.heap.size) (o := .cells #[.string key, .bool true, .string (⟨#[118]⟩ : ByteArray), .int .i64 lo, .int .i64 (lo + 1 + b % 16)] 38 (0, 0)) (blk_new _ _) hbwD
  have nHB := bt (below_alloc HB _) hbwD
  clear HB hbwD B13
  have HB := nHB
  have B13 := nB13
  have B14 := nB14
  clear nHB nB13 nB14
  have cB130 : wD.cell? ⟨wB.heap.size, 0, none⟩ = some (.string key) := (blk_cell B13 0).trans rfl
  have cB131 : wD.cell? ⟨wB.heap.size, 1, none⟩ = some (.bool true) := (blk_cell B13 1).trans rfl
  have cB132 : wD.cell? ⟨wB.heap.size, 2, none⟩ = some (.string (⟨#[118]⟩ : ByteArray)) := (blk_cell B13 2).trans rfl
  have cB133 : wD.cell? ⟨wB.heap.size, 3, none⟩ = some (.int .i64 lo) := (blk_cell B13 3).trans rfl
  have cB134 : wD.cell? ⟨wB.heap.size, 4, none⟩ = some (.int .i64 (lo + 1 + a % 16)) := (blk_cell B13 4).trans rfl
  have cB13f0 := blk_frozen B13 0
  have cB13f1 := blk_frozen B13 1
  have cB13f2 := blk_frozen B13 2
  have cB13f3 := blk_frozen B13 3
  have cB13f4 := blk_frozen B13 4
  have cB13lt : wB.heap.size < wD.heap.size := blk_lt B13
  have cB140 : wD.cell? ⟨wC.heap.size, 0, none⟩ = some (.string key) := (blk_cell B14 0).trans rfl
  have cB141 : wD.cell? ⟨wC.heap.size, 1, none⟩ = some (.bool true) := (blk_cell B14 1).trans rfl
  have cB142 : wD.cell? ⟨wC.heap.size, 2, none⟩ = some (.string (⟨#[118]⟩ : ByteArray)) := (blk_cell B14 2).trans rfl
  have cB143 : wD.cell? ⟨wC.heap.size, 3, none⟩ = some (.int .i64 lo) := (blk_cell B14 3).trans rfl
  have cB144 : wD.cell? ⟨wC.heap.size, 4, none⟩ = some (.int .i64 (lo + 1 + b % 16)) := (blk_cell B14 4).trans rfl
  have cB14f0 := blk_frozen B14 0
  have cB14f1 := blk_frozen B14 1
  have cB14f2 := blk_frozen B14 2
  have cB14f3 := blk_frozen B14 3
  have cB14f4 := blk_frozen B14 4
  have cB14lt : wC.heap.size < wD.heap.size := blk_lt B14
  go_wp2_with fail
  clear cB130 cB13f0 cB131 cB13f1 cB132 cB13f2 cB133 cB13f3 cB134 cB13f4 cB13lt
  clear cB140 cB14f0 cB141 cB14f1 cB142 cB14f2 cB143 cB14f3 cB144 cB14f4 cB14lt
  (with_reducible refine (fact_Merge.calls 20 _ _ _ _ _ _ _ _ _ _ _ _ _ _ _ _ _ _ C2.out).mono ?_)
  rintro e wE ⟨rfl, hbwE⟩
  have nB13 := blk_below (g := wB.heap.size) (o := .cells #[.string key, .bool true, .string (⟨#[118]⟩ : ByteArray), .int .i64 lo, .int .i64 (lo + 1 + a % 16)] 38 (0, 0)) (blk_alloc B13 _) hbwE
  have nB14 := blk_below (g := wC.heap.size) (o := .cells #[.string key, .bool true, .string (⟨#[118]⟩ : ByteArray), .int .i64 lo, .int .i64 (lo + 1 + b % 16)] 38 (0, 0)) (blk_alloc B14 _) hbwE
  have nB15 := blk_below (g := wD.heap.size) (o := .cells #[.string key, .bool true, .string (⟨#[118]⟩ : ByteArray), .int .i64 lo, .int .i64 (me)] 38 (0, 0)) (blk_new _ _) hbwE
  have nHB := bt (below_alloc HB _) hbwE
  clear HB hbwE
  have HB := nHB
  clear nHB
  try clear B13
  have B13 := nB13
  clear nB13
  try clear B14
  have B14 := nB14
  clear nB14
  try clear B15
  have B15 := nB15
  clear nB15
  have cB130 : wE.cell? ⟨wB.heap.size, 0, none⟩ = some (.string key) := (blk_cell B13 0).trans rfl
  have cB131 : wE.cell? ⟨wB.heap.size, 1, none⟩ = some (.bool true) := (blk_cell B13 1).trans rfl
  have cB132 : wE.cell? ⟨wB.heap.size, 2, none⟩ = some (.string (⟨#[118]⟩ : ByteArray)) := (blk_cell B13 2).trans rfl
  have cB133 : wE.cell? ⟨wB.heap.size, 3, none⟩ = some (.int .i64 lo) := (blk_cell B13 3).trans rfl
  have cB134 : wE.cell? ⟨wB.heap.size, 4, none⟩ = some (.int .i64 (lo + 1 + a % 16)) := (blk_cell B13 4).trans rfl
  have cB13f0 := blk_frozen B13 0
  have cB13f1 := blk_frozen B13 1
  have cB13f2 := blk_frozen B13 2
  have cB13f3 := blk_frozen B13 3
  have cB13f4 := blk_frozen B13 4
  have cB13lt : wB.heap.size < wE.heap.size := blk_lt B13
  have cB140 : wE.cell? ⟨wC.heap.size, 0, none⟩ = some (.string key) := (blk_cell B14 0).trans rfl
  have cB141 : wE.cell? ⟨wC.heap.size, 1, none⟩ = some (.bool true) := (blk_cell B14 1).trans rfl
  have cB142 : wE.cell? ⟨wC.heap.size, 2, none⟩ = some (.string (⟨#[118]⟩ : ByteArray)) := (blk_cell B14 2).trans rfl
  have cB143 : wE.cell? ⟨wC.heap.size, 3, none⟩ = some (.int .i64 lo) := (blk_cell B14 3).trans rfl
  have cB144 : wE.cell? ⟨wC.heap.size, 4, none⟩ = some (.int .i64 (lo + 1 + b % 16)) := (blk_cell B14 4).trans rfl
  have cB14f0 := blk_frozen B14 0
  have cB14f1 := blk_frozen B14 1
  have cB14f2 := blk_frozen B14 2
  have cB14f3 := blk_frozen B14 3
  have cB14f4 := blk_frozen B14 4
  have cB14lt : wC.heap.size < wE.heap.size := blk_lt B14
  have cB150 : wE.cell? ⟨wD.heap.size, 0, none⟩ = some (.string key) := (blk_cell B15 0).trans rfl
  have cB151 : wE.cell? ⟨wD.heap.size, 1, none⟩ = some (.bool true) := (blk_cell B15 1).trans rfl
  have cB152 : wE.cell? ⟨wD.heap.size, 2, none⟩ = some (.string (⟨#[118]⟩ : ByteArray)) := (blk_cell B15 2).trans rfl
  have cB153 : wE.cell? ⟨wD.heap.size, 3, none⟩ = some (.int .i64 lo) := (blk_cell B15 3).trans rfl
  have cB154 : wE.cell? ⟨wD.heap.size, 4, none⟩ = some (.int .i64 (me)) := (blk_cell B15 4).trans rfl
  have cB15f0 := blk_frozen B15 0
  have cB15f1 := blk_frozen B15 1
  have cB15f2 := blk_frozen B15 2
  have cB15f3 := blk_frozen B15 3
  have cB15f4 := blk_frozen B15 4
  have cB15lt : wD.heap.size < wE.heap.size := blk_lt B15
  go_wp2_with fail
  clear cB130 cB13f0 cB131 cB13f1 cB132 cB13f2 cB133 cB13f3 cB134 cB13f4 cB13lt
  clear cB140 cB14f0 cB141 cB14f1 cB142 cB14f2 cB143 cB14f3 cB144 cB14f4 cB14lt
  clear cB150 cB15f0 cB151 cB15f1 cB152 cB15f2 cB153 cB15f3 cB154 cB15f4 cB15lt
  (with_reducible refine (fact_Known.calls _ _ _ _ _ _ _ _ _ C3.out).mono ?_)
  rintro e wF ⟨rfl, hbwF⟩
  have nB13 := blk_below (g := wB.heap.size) (o := .cells #[.string key, .bool true, .string (⟨#[118]⟩ : ByteArray), .int .i64 lo, .int .i64 (lo + 1 + a % 16)] 38 (0, 0)) (blk_alloc B13 _) hbwF
  have nB14 := blk_below (g := wC.heap.size) (o := .cells #[.string key, .bool true, .string (⟨#[118]⟩ : ByteArray), .int .i64 lo, .int .i64 (lo + 1 + b % 16)] 38 (0, 0)) (blk_alloc B14 _) hbwF
  have nB15 := blk_below (g := wD.heap.size) (o := .cells #[.string key, .bool true, .string (⟨#[118]⟩ : ByteArray), .int .i64 lo, .int .i64 (me)] 38 (0, 0)) (blk_alloc B15 _) hbwF
  have nB17 := blk_below (g := wE.heap.size) (o := .cells #[.string key, .bool true, .string (⟨#[118]⟩ : ByteArray), .int .i64 lo, .int .i64 (me)] 38 (0, 0)) (blk_new _ _) hbwF
  have nHB := bt (below_alloc HB _) hbwF
  clear HB hbwF
  have HB := nHB
  clear nHB
  try clear B13
  have B13 := nB13
  clear nB13
  try clear B14
  have B14 := nB14
  clear nB14
  try clear B15
  have B15 := nB15
  clear nB15
  try clear B17
  have B17 := nB17
  clear nB17
  have cB130 : wF.cell? ⟨wB.heap.size, 0, none⟩ = some (.string key) := (blk_cell B13 0).trans rfl
  have cB131 : wF.cell? ⟨wB.heap.size, 1, none⟩ = some (.bool true) := (blk_cell B13 1).trans rfl
  have cB132 : wF.cell? ⟨wB.heap.size, 2, none⟩ = some (.string (⟨#[118]⟩ : ByteArray)) := (blk_cell B13 2).trans rfl
  have cB133 : wF.cell? ⟨wB.heap.size, 3, none⟩ = some (.int .i64 lo) := (blk_cell B13 3).trans rfl
  have cB134 : wF.cell? ⟨wB.heap.size, 4, none⟩ = some (.int .i64 (lo + 1 + a % 16)) := (blk_cell B13 4).trans rfl
  have cB13f0 := blk_frozen B13 0
  have cB13f1 := blk_frozen B13 1
  have cB13f2 := blk_frozen B13 2
  have cB13f3 := blk_frozen B13 3
  have cB13f4 := blk_frozen B13 4
  have cB13lt : wB.heap.size < wF.heap.size := blk_lt B13
  have cB140 : wF.cell? ⟨wC.heap.size, 0, none⟩ = some (.string key) := (blk_cell B14 0).trans rfl
  have cB141 : wF.cell? ⟨wC.heap.size, 1, none⟩ = some (.bool true) := (blk_cell B14 1).trans rfl
  have cB142 : wF.cell? ⟨wC.heap.size, 2, none⟩ = some (.string (⟨#[118]⟩ : ByteArray)) := (blk_cell B14 2).trans rfl
  have cB143 : wF.cell? ⟨wC.heap.size, 3, none⟩ = some (.int .i64 lo) := (blk_cell B14 3).trans rfl
  have cB144 : wF.cell? ⟨wC.heap.size, 4, none⟩ = some (.int .i64 (lo + 1 + b % 16)) := (blk_cell B14 4).trans rfl
  have cB14f0 := blk_frozen B14 0
  have cB14f1 := blk_frozen B14 1
  have cB14f2 := blk_frozen B14 2
  have cB14f3 := blk_frozen B14 3
  have cB14f4 := blk_frozen B14 4
  have cB14lt : wC.heap.size < wF.heap.size := blk_lt B14
  have cB150 : wF.cell? ⟨wD.heap.size, 0, none⟩ = some (.string key) := (blk_cell B15 0).trans rfl
  have cB151 : wF.cell? ⟨wD.heap.size, 1, none⟩ = some (.bool true) := (blk_cell B15 1).trans rfl
  have cB152 : wF.cell? ⟨wD.heap.size, 2, none⟩ = some (.string (⟨#[118]⟩ : ByteArray)) := (blk_cell B15 2).trans rfl
  have cB153 : wF.cell? ⟨wD.heap.size, 3, none⟩ = some (.int .i64 lo) := (blk_cell B15 3).trans rfl
  have cB154 : wF.cell? ⟨wD.heap.size, 4, none⟩ = some (.int .i64 (me)) := (blk_cell B15 4).trans rfl
  have cB15f0 := blk_frozen B15 0
  have cB15f1 := blk_frozen B15 1
  have cB15f2 := blk_frozen B15 2
  have cB15f3 := blk_frozen B15 3
  have cB15f4 := blk_frozen B15 4
  have cB15lt : wD.heap.size < wF.heap.size := blk_lt B15
  have cB170 : wF.cell? ⟨wE.heap.size, 0, none⟩ = some (.string key) := (blk_cell B17 0).trans rfl
  have cB171 : wF.cell? ⟨wE.heap.size, 1, none⟩ = some (.bool true) := (blk_cell B17 1).trans rfl
  have cB172 : wF.cell? ⟨wE.heap.size, 2, none⟩ = some (.string (⟨#[118]⟩ : ByteArray)) := (blk_cell B17 2).trans rfl
  have cB173 : wF.cell? ⟨wE.heap.size, 3, none⟩ = some (.int .i64 lo) := (blk_cell B17 3).trans rfl
  have cB174 : wF.cell? ⟨wE.heap.size, 4, none⟩ = some (.int .i64 (me)) := (blk_cell B17 4).trans rfl
  have cB17f0 := blk_frozen B17 0
  have cB17f1 := blk_frozen B17 1
  have cB17f2 := blk_frozen B17 2
  have cB17f3 := blk_frozen B17 3
  have cB17f4 := blk_frozen B17 4
  have cB17lt : wE.heap.size < wF.heap.size := blk_lt B17
  go_wp2_with fail
  clear cB130 cB13f0 cB131 cB13f1 cB132 cB13f2 cB133 cB13f3 cB134 cB13f4 cB13lt
  clear cB140 cB14f0 cB141 cB14f1 cB142 cB14f2 cB143 cB14f3 cB144 cB14f4 cB14lt
  clear cB150 cB15f0 cB151 cB15f1 cB152 cB15f2 cB153 cB15f3 cB154 cB15f4 cB15lt
  clear cB170 cB17f0 cB171 cB17f1 cB172 cB17f2 cB173 cB17f3 cB174 cB17f4 cB17lt
  (with_reducible refine (span_Span_int64_Has.calls _ _ _ _ _ C6.out).mono ?_)
  rintro e wG ⟨rfl, hbwG⟩
  have nB13 := blk_below (g := wB.heap.size) (o := .cells #[.string key, .bool true, .string (⟨#[118]⟩ : ByteArray), .int .i64 lo, .int .i64 (lo + 1 + a % 16)] 38 (0, 0)) (B13) hbwG
  have nB14 := blk_below (g := wC.heap.size) (o := .cells #[.string key, .bool true, .string (⟨#[118]⟩ : ByteArray), .int .i64 lo, .int .i64 (lo + 1 + b % 16)] 38 (0, 0)) (B14) hbwG
  have nB15 := blk_below (g := wD.heap.size) (o := .cells #[.string key, .bool true, .string (⟨#[118]⟩ : ByteArray), .int .i64 lo, .int .i64 (me)] 38 (0, 0)) (B15) hbwG
  have nB17 := blk_below (g := wE.heap.size) (o := .cells #[.string key, .bool true, .string (⟨#[118]⟩ : ByteArray), .int .i64 lo, .int .i64 (me)] 38 (0, 0)) (B17) hbwG
  have nHB := bt (HB) hbwG
  clear HB hbwG
  have HB := nHB
  clear nHB
  try clear B13
  have B13 := nB13
  clear nB13
  try clear B14
  have B14 := nB14
  clear nB14
  try clear B15
  have B15 := nB15
  clear nB15
  try clear B17
  have B17 := nB17
  clear nB17
  have cB130 : wG.cell? ⟨wB.heap.size, 0, none⟩ = some (.string key) := (blk_cell B13 0).trans rfl
  have cB131 : wG.cell? ⟨wB.heap.size, 1, none⟩ = some (.bool true) := (blk_cell B13 1).trans rfl
  have cB132 : wG.cell? ⟨wB.heap.size, 2, none⟩ = some (.string (⟨#[118]⟩ : ByteArray)) := (blk_cell B13 2).trans rfl
  have cB133 : wG.cell? ⟨wB.heap.size, 3, none⟩ = some (.int .i64 lo) := (blk_cell B13 3).trans rfl
  have cB134 : wG.cell? ⟨wB.heap.size, 4, none⟩ = some (.int .i64 (lo + 1 + a % 16)) := (blk_cell B13 4).trans rfl
  have cB13f0 := blk_frozen B13 0
  have cB13f1 := blk_frozen B13 1
  have cB13f2 := blk_frozen B13 2
  have cB13f3 := blk_frozen B13 3
  have cB13f4 := blk_frozen B13 4
  have cB13lt : wB.heap.size < wG.heap.size := blk_lt B13
  have cB140 : wG.cell? ⟨wC.heap.size, 0, none⟩ = some (.string key) := (blk_cell B14 0).trans rfl
  have cB141 : wG.cell? ⟨wC.heap.size, 1, none⟩ = some (.bool true) := (blk_cell B14 1).trans rfl
  have cB142 : wG.cell? ⟨wC.heap.size, 2, none⟩ = some (.string (⟨#[118]⟩ : ByteArray)) := (blk_cell B14 2).trans rfl
  have cB143 : wG.cell? ⟨wC.heap.size, 3, none⟩ = some (.int .i64 lo) := (blk_cell B14 3).trans rfl
  have cB144 : wG.cell? ⟨wC.heap.size, 4, none⟩ = some (.int .i64 (lo + 1 + b % 16)) := (blk_cell B14 4).trans rfl
  have cB14f0 := blk_frozen B14 0
  have cB14f1 := blk_frozen B14 1
  have cB14f2 := blk_frozen B14 2
  have cB14f3 := blk_frozen B14 3
  have cB14f4 := blk_frozen B14 4
  have cB14lt : wC.heap.size < wG.heap.size := blk_lt B14
  have cB150 : wG.cell? ⟨wD.heap.size, 0, none⟩ = some (.string key) := (blk_cell B15 0).trans rfl
  have cB151 : wG.cell? ⟨wD.heap.size, 1, none⟩ = some (.bool true) := (blk_cell B15 1).trans rfl
  have cB152 : wG.cell? ⟨wD.heap.size, 2, none⟩ = some (.string (⟨#[118]⟩ : ByteArray)) := (blk_cell B15 2).trans rfl
  have cB153 : wG.cell? ⟨wD.heap.size, 3, none⟩ = some (.int .i64 lo) := (blk_cell B15 3).trans rfl
  have cB154 : wG.cell? ⟨wD.heap.size, 4, none⟩ = some (.int .i64 (me)) := (blk_cell B15 4).trans rfl
  have cB15f0 := blk_frozen B15 0
  have cB15f1 := blk_frozen B15 1
  have cB15f2 := blk_frozen B15 2
  have cB15f3 := blk_frozen B15 3
  have cB15f4 := blk_frozen B15 4
  have cB15lt : wD.heap.size < wG.heap.size := blk_lt B15
  have cB170 : wG.cell? ⟨wE.heap.size, 0, none⟩ = some (.string key) := (blk_cell B17 0).trans rfl
  have cB171 : wG.cell? ⟨wE.heap.size, 1, none⟩ = some (.bool true) := (blk_cell B17 1).trans rfl
  have cB172 : wG.cell? ⟨wE.heap.size, 2, none⟩ = some (.string (⟨#[118]⟩ : ByteArray)) := (blk_cell B17 2).trans rfl
  have cB173 : wG.cell? ⟨wE.heap.size, 3, none⟩ = some (.int .i64 lo) := (blk_cell B17 3).trans rfl
  have cB174 : wG.cell? ⟨wE.heap.size, 4, none⟩ = some (.int .i64 (me)) := (blk_cell B17 4).trans rfl
  have cB17f0 := blk_frozen B17 0
  have cB17f1 := blk_frozen B17 1
  have cB17f2 := blk_frozen B17 2
  have cB17f3 := blk_frozen B17 3
  have cB17f4 := blk_frozen B17 4
  have cB17lt : wE.heap.size < wG.heap.size := blk_lt B17
  go_wp2_with fail
  clear cB130 cB13f0 cB131 cB13f1 cB132 cB13f2 cB133 cB13f3 cB134 cB13f4 cB13lt
  clear cB140 cB14f0 cB141 cB14f1 cB142 cB14f2 cB143 cB14f3 cB144 cB14f4 cB14lt
  clear cB150 cB15f0 cB151 cB15f1 cB152 cB15f2 cB153 cB15f3 cB154 cB15f4 cB15lt
  clear cB170 cB17f0 cB171 cB17f1 cB172 cB17f2 cB173 cB17f3 cB174 cB17f4 cB17lt
  (with_reducible refine (fact_Known.calls _ _ _ _ _ _ _ _ _ C5.out).mono ?_)
  rintro e wJ ⟨rfl, hbwJ⟩
  have nB13 := blk_below (g := wB.heap.size) (o := .cells #[.string key, .bool true, .string (⟨#[118]⟩ : ByteArray), .int .i64 lo, .int .i64 (lo + 1 + a % 16)] 38 (0, 0)) (B13) hbwJ
  have nB14 := blk_below (g := wC.heap.size) (o := .cells #[.string key, .bool true, .string (⟨#[118]⟩ : ByteArray), .int .i64 lo, .int .i64 (lo + 1 + b % 16)] 38 (0, 0)) (B14) hbwJ
  have nB15 := blk_below (g := wD.heap.size) (o := .cells #[.string key, .bool true, .string (⟨#[118]⟩ : ByteArray), .int .i64 lo, .int .i64 (me)] 38 (0, 0)) (B15) hbwJ
  have nB17 := blk_below (g := wE.heap.size) (o := .cells #[.string key, .bool true, .string (⟨#[118]⟩ : ByteArray), .int .i64 lo, .int .i64 (me)] 38 (0, 0)) (B17) hbwJ
  have nHB := bt (HB) hbwJ
  clear HB hbwJ
  have HB := nHB
  clear nHB
  try clear B13
  have B13 := nB13
  clear nB13
  try clear B14
  have B14 := nB14
  clear nB14
  try clear B15
  have B15 := nB15
  clear nB15
  try clear B17
  have B17 := nB17
  clear nB17
  have cB130 : wJ.cell? ⟨wB.heap.size, 0, none⟩ = some (.string key) := (blk_cell B13 0).trans rfl
  have cB131 : wJ.cell? ⟨wB.heap.size, 1, none⟩ = some (.bool true) := (blk_cell B13 1).trans rfl
  have cB132 : wJ.cell? ⟨wB.heap.size, 2, none⟩ = some (.string (⟨#[118]⟩ : ByteArray)) := (blk_cell B13 2).trans rfl
  have cB133 : wJ.cell? ⟨wB.heap.size, 3, none⟩ = some (.int .i64 lo) := (blk_cell B13 3).trans rfl
  have cB134 : wJ.cell? ⟨wB.heap.size, 4, none⟩ = some (.int .i64 (lo + 1 + a % 16)) := (blk_cell B13 4).trans rfl
  have cB13f0 := blk_frozen B13 0
  have cB13f1 := blk_frozen B13 1
  have cB13f2 := blk_frozen B13 2
  have cB13f3 := blk_frozen B13 3
  have cB13f4 := blk_frozen B13 4
  have cB13lt : wB.heap.size < wJ.heap.size := blk_lt B13
  have cB140 : wJ.cell? ⟨wC.heap.size, 0, none⟩ = some (.string key) := (blk_cell B14 0).trans rfl
  have cB141 : wJ.cell? ⟨wC.heap.size, 1, none⟩ = some (.bool true) := (blk_cell B14 1).trans rfl
  have cB142 : wJ.cell? ⟨wC.heap.size, 2, none⟩ = some (.string (⟨#[118]⟩ : ByteArray)) := (blk_cell B14 2).trans rfl
  have cB143 : wJ.cell? ⟨wC.heap.size, 3, none⟩ = some (.int .i64 lo) := (blk_cell B14 3).trans rfl
  have cB144 : wJ.cell? ⟨wC.heap.size, 4, none⟩ = some (.int .i64 (lo + 1 + b % 16)) := (blk_cell B14 4).trans rfl
  have cB14f0 := blk_frozen B14 0
  have cB14f1 := blk_frozen B14 1
  have cB14f2 := blk_frozen B14 2
  have cB14f3 := blk_frozen B14 3
  have cB14f4 := blk_frozen B14 4
  have cB14lt : wC.heap.size < wJ.heap.size := blk_lt B14
  have cB150 : wJ.cell? ⟨wD.heap.size, 0, none⟩ = some (.string key) := (blk_cell B15 0).trans rfl
  have cB151 : wJ.cell? ⟨wD.heap.size, 1, none⟩ = some (.bool true) := (blk_cell B15 1).trans rfl
  have cB152 : wJ.cell? ⟨wD.heap.size, 2, none⟩ = some (.string (⟨#[118]⟩ : ByteArray)) := (blk_cell B15 2).trans rfl
  have cB153 : wJ.cell? ⟨wD.heap.size, 3, none⟩ = some (.int .i64 lo) := (blk_cell B15 3).trans rfl
  have cB154 : wJ.cell? ⟨wD.heap.size, 4, none⟩ = some (.int .i64 (me)) := (blk_cell B15 4).trans rfl
  have cB15f0 := blk_frozen B15 0
  have cB15f1 := blk_frozen B15 1
  have cB15f2 := blk_frozen B15 2
  have cB15f3 := blk_frozen B15 3
  have cB15f4 := blk_frozen B15 4
  have cB15lt : wD.heap.size < wJ.heap.size := blk_lt B15
  have cB170 : wJ.cell? ⟨wE.heap.size, 0, none⟩ = some (.string key) := (blk_cell B17 0).trans rfl
  have cB171 : wJ.cell? ⟨wE.heap.size, 1, none⟩ = some (.bool true) := (blk_cell B17 1).trans rfl
  have cB172 : wJ.cell? ⟨wE.heap.size, 2, none⟩ = some (.string (⟨#[118]⟩ : ByteArray)) := (blk_cell B17 2).trans rfl
  have cB173 : wJ.cell? ⟨wE.heap.size, 3, none⟩ = some (.int .i64 lo) := (blk_cell B17 3).trans rfl
  have cB174 : wJ.cell? ⟨wE.heap.size, 4, none⟩ = some (.int .i64 (me)) := (blk_cell B17 4).trans rfl
  have cB17f0 := blk_frozen B17 0
  have cB17f1 := blk_frozen B17 1
  have cB17f2 := blk_frozen B17 2
  have cB17f3 := blk_frozen B17 3
  have cB17f4 := blk_frozen B17 4
  have cB17lt : wE.heap.size < wJ.heap.size := blk_lt B17
  go_wp2_with fail
  clear cB130 cB13f0 cB131 cB13f1 cB132 cB13f2 cB133 cB13f3 cB134 cB13f4 cB13lt
  clear cB140 cB14f0 cB141 cB14f1 cB142 cB14f2 cB143 cB14f3 cB144 cB14f4 cB14lt
  clear cB150 cB15f0 cB151 cB15f1 cB152 cB15f2 cB153 cB15f3 cB154 cB15f4 cB15lt
  clear cB170 cB17f0 cB171 cB17f1 cB172 cB17f2 cB173 cB17f3 cB174 cB17f4 cB17lt
  (with_reducible refine (span_Span_int64_Has.calls _ _ _ _ _ C8.out).mono ?_)
  rintro e wK ⟨rfl, hbwK⟩
  have nB13 := blk_below (g := wB.heap.size) (o := .cells #[.string key, .bool true, .string (⟨#[118]⟩ : ByteArray), .int .i64 lo, .int .i64 (lo + 1 + a % 16)] 38 (0, 0)) (B13) hbwK
  have nB14 := blk_below (g := wC.heap.size) (o := .cells #[.string key, .bool true, .string (⟨#[118]⟩ : ByteArray), .int .i64 lo, .int .i64 (lo + 1 + b % 16)] 38 (0, 0)) (B14) hbwK
  have nB15 := blk_below (g := wD.heap.size) (o := .cells #[.string key, .bool true, .string (⟨#[118]⟩ : ByteArray), .int .i64 lo, .int .i64 (me)] 38 (0, 0)) (B15) hbwK
  have nB17 := blk_below (g := wE.heap.size) (o := .cells #[.string key, .bool true, .string (⟨#[118]⟩ : ByteArray), .int .i64 lo, .int .i64 (me)] 38 (0, 0)) (B17) hbwK
  have nHB := bt (HB) hbwK
  clear HB hbwK
  have HB := nHB
  clear nHB
  try clear B13
  have B13 := nB13
  clear nB13
  try clear B14
  have B14 := nB14
  clear nB14
  try clear B15
  have B15 := nB15
  clear nB15
  try clear B17
  have B17 := nB17
  clear nB17
  go_wp2_with fail
  go_ret
  exact ⟨by simp, HB⟩
set_option maxHeartbeats 2000000 in
set_option maxRecDepth 100000 in
theorem walk_010 (key : ByteArray) (lo a b at_ c me x0 x1 y0 y1 z0 z1 : Int) (q : Bool) (w : World) (l0 : 0 ≤ lo) (l1 : lo ≤ 255) (a0 : 0 ≤ a) (a1 : a ≤ 255) (b0 : 0 ≤ b) (b1 : b ≤ 255) (t0 : 0 ≤ at_) (t1 : at_ ≤ 255) (c0 : 0 ≤ c) (c1 : c ≤ 255)
    (ha : a < 128) (hb : 128 ≤ b)
    (m1 : fact_Merge.f 20 key true (⟨#[118]⟩ : ByteArray) lo (lo + 1 + a % 16) key true (⟨#[118]⟩ : ByteArray) lo (4611686018427387904) at_ = some (key, true, ⟨#[118]⟩, lo, me, true)) (m2 : fact_Merge.f 20 key true (⟨#[118]⟩ : ByteArray) lo (4611686018427387904) key true (⟨#[118]⟩ : ByteArray) lo (lo + 1 + a % 16) at_ = some (key, true, ⟨#[118]⟩, lo, me, true))
    (k1 : fact_Known.f key true (⟨#[118]⟩ : ByteArray) lo (lo + 1 + a % 16) at_ = some (x0, x1)) (k2 : fact_Known.f key true (⟨#[118]⟩ : ByteArray) lo (4611686018427387904) at_ = some (y0, y1)) (k3 : fact_Known.f key true (⟨#[118]⟩ : ByteArray) lo (me) at_ = some (z0, z1))
    (h1 : span_Span_int64_Has.f x0 x1 c = some false) (h2 : span_Span_int64_Has.f y0 y1 c = some q) (h3 : span_Span_int64_Has.f z0 z1 c = some q) :
    Calls Try.prog 9 #[.string key, .int .u8 lo, .int .u8 a, .int .u8 b, .int .u8 at_, .int .u8 c] w fun e w' => e = .returned (.bool true) ∧ Below w.heap.size w w' := by
  have C1 := Aside0.mk m1
  have C2 := Aside0.mk m2
  have C3 := Aside0.mk k1
  have C4 := Aside0.mk k2
  have C5 := Aside0.mk k3
  have C6 := Aside0.mk h1
  have C7 := Aside0.mk h2
  have C8 := Aside0.mk h3
  clear m1 m2 k1 k2 k3 h1 h2 h3
  go_enter Try.func9, Try.ntmps9
  have HB := Below.refl w.heap.size w
  go_wp2_with fail
  (with_reducible refine (vouchlaw09_fixed.calls 20 true _ fixed20).mono ?_)
  rintro e wA ⟨rfl, hbwA⟩
  have nHB := bt (HB) hbwA
  clear HB hbwA
  have HB := nHB
  clear nHB
  go_wp2_with fail
  (with_reducible refine (vouchlaw09_text.calls (⟨#[118]⟩ : ByteArray) true (⟨#[118]⟩ : ByteArray) _ rfl).mono ?_)
  rintro e wB ⟨rfl, hbwB⟩
  have nHB := bt (HB) hbwB
  clear HB hbwB
  have HB := nHB
  clear nHB
  go_wp2_with fail
  (with_reducible refine (vouchlaw09_text.calls (⟨#[118]⟩ : ByteArray) true (⟨#[118]⟩ : ByteArray) _ rfl).mono ?_)
  rintro e wC ⟨rfl, hbwC⟩
  have nB13 := blk_below (g := wB.heap.size) (o := .cells #[.string key, .bool true, .string (⟨#[118]⟩ : ByteArray), .int .i64 lo, .int .i64 (lo + 1 + a % 16)] 38 (0, 0)) (blk_new _ _) hbwC
  have nHB := bt (below_alloc HB _) hbwC
  clear HB hbwC
  have HB := nHB
  clear nHB
  try clear B13
  have B13 := nB13
  clear nB13
  have ne : wB.heap.size ≠ wC.heap.size := by have := blk_lt B13; omega
  have ne' : wC.heap.size ≠ wB.heap.size := fun h => ne h.symm
  have cB130 : wC.cell? ⟨wB.heap.size, 0, none⟩ = some (.string key) := (blk_cell B13 0).trans rfl
  have cB131 : wC.cell? ⟨wB.heap.size, 1, none⟩ = some (.bool true) := (blk_cell B13 1).trans rfl
  have cB132 : wC.cell? ⟨wB.heap.size, 2, none⟩ = some (.string (⟨#[118]⟩ : ByteArray)) := (blk_cell B13 2).trans rfl
  have cB133 : wC.cell? ⟨wB.heap.size, 3, none⟩ = some (.int .i64 lo) := (blk_cell B13 3).trans rfl
  have cB134 : wC.cell? ⟨wB.heap.size, 4, none⟩ = some (.int .i64 (lo + 1 + a % 16)) := (blk_cell B13 4).trans rfl
  have cB13f0 := blk_frozen B13 0
  have cB13f1 := blk_frozen B13 1
  have cB13f2 := blk_frozen B13 2
  have cB13f3 := blk_frozen B13 3
  have cB13f4 := blk_frozen B13 4
  have cB13lt : wB.heap.size < wC.heap.size := blk_lt B13
  have geC : w.heap.size ≤ wC.heap.size := HB.size
  go_wp2_with fail
  clear cB130 cB13f0 cB131 cB13f1 cB132 cB13f2 cB133 cB13f3 cB134 cB13f4 cB13lt
  (with_reducible refine (fact_Merge.calls 20 _ _ _ _ _ _ _ _ _ _ _ _ _ _ _ _ _ _ C1.out).mono ?_)
  rintro e wD ⟨rfl, hbwD⟩
  have nB13 := blk_below (g := wB.heap.size) (o := .cells #[.string key, .bool true, .string (⟨#[118]⟩ : ByteArray), .int .i64 lo, .int .i64 (lo + 1 + a % 16)] 38 (0, 0)) (blk_alloc B13 _) hbwD
  have nB14 := blk_below (g := wC.heap.size) (o := .cells #[.string key, .bool true, .string (⟨#[118]⟩ : ByteArray), .int .i64 lo, .int .i64 (4611686018427387904)] 38 (0, 0)) (blk_new _ _) hbwD
  have nHB := bt (below_alloc HB _) hbwD
  clear HB hbwD B13
  have HB := nHB
  have B13 := nB13
  have B14 := nB14
  clear nHB nB13 nB14
  have cB130 : wD.cell? ⟨wB.heap.size, 0, none⟩ = some (.string key) := (blk_cell B13 0).trans rfl
  have cB131 : wD.cell? ⟨wB.heap.size, 1, none⟩ = some (.bool true) := (blk_cell B13 1).trans rfl
  have cB132 : wD.cell? ⟨wB.heap.size, 2, none⟩ = some (.string (⟨#[118]⟩ : ByteArray)) := (blk_cell B13 2).trans rfl
  have cB133 : wD.cell? ⟨wB.heap.size, 3, none⟩ = some (.int .i64 lo) := (blk_cell B13 3).trans rfl
  have cB134 : wD.cell? ⟨wB.heap.size, 4, none⟩ = some (.int .i64 (lo + 1 + a % 16)) := (blk_cell B13 4).trans rfl
  have cB13f0 := blk_frozen B13 0
  have cB13f1 := blk_frozen B13 1
  have cB13f2 := blk_frozen B13 2
  have cB13f3 := blk_frozen B13 3
  have cB13f4 := blk_frozen B13 4
  have cB13lt : wB.heap.size < wD.heap.size := blk_lt B13
  have cB140 : wD.cell? ⟨wC.heap.size, 0, none⟩ = some (.string key) := (blk_cell B14 0).trans rfl
  have cB141 : wD.cell? ⟨wC.heap.size, 1, none⟩ = some (.bool true) := (blk_cell B14 1).trans rfl
  have cB142 : wD.cell? ⟨wC.heap.size, 2, none⟩ = some (.string (⟨#[118]⟩ : ByteArray)) := (blk_cell B14 2).trans rfl
  have cB143 : wD.cell? ⟨wC.heap.size, 3, none⟩ = some (.int .i64 lo) := (blk_cell B14 3).trans rfl
  have cB144 : wD.cell? ⟨wC.heap.size, 4, none⟩ = some (.int .i64 (4611686018427387904)) := (blk_cell B14 4).trans rfl
  have cB14f0 := blk_frozen B14 0
  have cB14f1 := blk_frozen B14 1
  have cB14f2 := blk_frozen B14 2
  have cB14f3 := blk_frozen B14 3
  have cB14f4 := blk_frozen B14 4
  have cB14lt : wC.heap.size < wD.heap.size := blk_lt B14
  go_wp2_with fail
  clear cB130 cB13f0 cB131 cB13f1 cB132 cB13f2 cB133 cB13f3 cB134 cB13f4 cB13lt
  clear cB140 cB14f0 cB141 cB14f1 cB142 cB14f2 cB143 cB14f3 cB144 cB14f4 cB14lt
  (with_reducible refine (fact_Merge.calls 20 _ _ _ _ _ _ _ _ _ _ _ _ _ _ _ _ _ _ C2.out).mono ?_)
  rintro e wE ⟨rfl, hbwE⟩
  have nB13 := blk_below (g := wB.heap.size) (o := .cells #[.string key, .bool true, .string (⟨#[118]⟩ : ByteArray), .int .i64 lo, .int .i64 (lo + 1 + a % 16)] 38 (0, 0)) (blk_alloc B13 _) hbwE
  have nB14 := blk_below (g := wC.heap.size) (o := .cells #[.string key, .bool true, .string (⟨#[118]⟩ : ByteArray), .int .i64 lo, .int .i64 (4611686018427387904)] 38 (0, 0)) (blk_alloc B14 _) hbwE
  have nB15 := blk_below (g := wD.heap.size) (o := .cells #[.string key, .bool true, .string (⟨#[118]⟩ : ByteArray), .int .i64 lo, .int .i64 (me)] 38 (0, 0)) (blk_new _ _) hbwE
  have nHB := bt (below_alloc HB _) hbwE
  clear HB hbwE
  have HB := nHB
  clear nHB
  try clear B13
  have B13 := nB13
  clear nB13
  try clear B14
  have B14 := nB14
  clear nB14
  try clear B15
  have B15 := nB15
  clear nB15
  have cB130 : wE.cell? ⟨wB.heap.size, 0, none⟩ = some (.string key) := (blk_cell B13 0).trans rfl
  have cB131 : wE.cell? ⟨wB.heap.size, 1, none⟩ = some (.bool true) := (blk_cell B13 1).trans rfl
  have cB132 : wE.cell? ⟨wB.heap.size, 2, none⟩ = some (.string (⟨#[118]⟩ : ByteArray)) := (blk_cell B13 2).trans rfl
  have cB133 : wE.cell? ⟨wB.heap.size, 3, none⟩ = some (.int .i64 lo) := (blk_cell B13 3).trans rfl
  have cB134 : wE.cell? ⟨wB.heap.size, 4, none⟩ = some (.int .i64 (lo + 1 + a % 16)) := (blk_cell B13 4).trans rfl
  have cB13f0 := blk_frozen B13 0
  have cB13f1 := blk_frozen B13 1
  have cB13f2 := blk_frozen B13 2
  have cB13f3 := blk_frozen B13 3
  have cB13f4 := blk_frozen B13 4
  have cB13lt : wB.heap.size < wE.heap.size := blk_lt B13
  have cB140 : wE.cell? ⟨wC.heap.size, 0, none⟩ = some (.string key) := (blk_cell B14 0).trans rfl
  have cB141 : wE.cell? ⟨wC.heap.size, 1, none⟩ = some (.bool true) := (blk_cell B14 1).trans rfl
  have cB142 : wE.cell? ⟨wC.heap.size, 2, none⟩ = some (.string (⟨#[118]⟩ : ByteArray)) := (blk_cell B14 2).trans rfl
  have cB143 : wE.cell? ⟨wC.heap.size, 3, none⟩ = some (.int .i64 lo) := (blk_cell B14 3).trans rfl
  have cB144 : wE.cell? ⟨wC.heap.size, 4, none⟩ = some (.int .i64 (4611686018427387904)) := (blk_cell B14 4).trans rfl
  have cB14f0 := blk_frozen B14 0
  have cB14f1 := blk_frozen B14 1
  have cB14f2 := blk_frozen B14 2
  have cB14f3 := blk_frozen B14 3
  have cB14f4 := blk_frozen B14 4
  have cB14lt : wC.heap.size < wE.heap.size := blk_lt B14
  have cB150 : wE.cell? ⟨wD.heap.size, 0, none⟩ = some (.string key) := (blk_cell B15 0).trans rfl
  have cB151 : wE.cell? ⟨wD.heap.size, 1, none⟩ = some (.bool true) := (blk_cell B15 1).trans rfl
  have cB152 : wE.cell? ⟨wD.heap.size, 2, none⟩ = some (.string (⟨#[118]⟩ : ByteArray)) := (blk_cell B15 2).trans rfl
  have cB153 : wE.cell? ⟨wD.heap.size, 3, none⟩ = some (.int .i64 lo) := (blk_cell B15 3).trans rfl
  have cB154 : wE.cell? ⟨wD.heap.size, 4, none⟩ = some (.int .i64 (me)) := (blk_cell B15 4).trans rfl
  have cB15f0 := blk_frozen B15 0
  have cB15f1 := blk_frozen B15 1
  have cB15f2 := blk_frozen B15 2
  have cB15f3 := blk_frozen B15 3
  have cB15f4 := blk_frozen B15 4
  have cB15lt : wD.heap.size < wE.heap.size := blk_lt B15
  go_wp2_with fail
  clear cB130 cB13f0 cB131 cB13f1 cB132 cB13f2 cB133 cB13f3 cB134 cB13f4 cB13lt
  clear cB140 cB14f0 cB141 cB14f1 cB142 cB14f2 cB143 cB14f3 cB144 cB14f4 cB14lt
  clear cB150 cB15f0 cB151 cB15f1 cB152 cB15f2 cB153 cB15f3 cB154 cB15f4 cB15lt
  (with_reducible refine (fact_Known.calls _ _ _ _ _ _ _ _ _ C3.out).mono ?_)
  rintro e wF ⟨rfl, hbwF⟩
  have nB13 := blk_below (g := wB.heap.size) (o := .cells #[.string key, .bool true, .string (⟨#[118]⟩ : ByteArray), .int .i64 lo, .int .i64 (lo + 1 + a % 16)] 38 (0, 0)) (blk_alloc B13 _) hbwF
  have nB14 := blk_below (g := wC.heap.size) (o := .cells #[.string key, .bool true, .string (⟨#[118]⟩ : ByteArray), .int .i64 lo, .int .i64 (4611686018427387904)] 38 (0, 0)) (blk_alloc B14 _) hbwF
  have nB15 := blk_below (g := wD.heap.size) (o := .cells #[.string key, .bool true, .string (⟨#[118]⟩ : ByteArray), .int .i64 lo, .int .i64 (me)] 38 (0, 0)) (blk_alloc B15 _) hbwF
  have nB17 := blk_below (g := wE.heap.size) (o := .cells #[.string key, .bool true, .string (⟨#[118]⟩ : ByteArray), .int .i64 lo, .int .i64 (me)] 38 (0, 0)) (blk_new _ _) hbwF
  have nHB := bt (below_alloc HB _) hbwF
  clear HB hbwF
  have HB := nHB
  clear nHB
  try clear B13
  have B13 := nB13
  clear nB13
  try clear B14
  have B14 := nB14
  clear nB14
  try clear B15
  have B15 := nB15
  clear nB15
  try clear B17
  have B17 := nB17
  clear nB17
  have cB130 : wF.cell? ⟨wB.heap.size, 0, none⟩ = some (.string key) := (blk_cell B13 0).trans rfl
  have cB131 : wF.cell? ⟨wB.heap.size, 1, none⟩ = some (.bool true) := (blk_cell B13 1).trans rfl
  have cB132 : wF.cell? ⟨wB.heap.size, 2, none⟩ = some (.string (⟨#[118]⟩ : ByteArray)) := (blk_cell B13 2).trans rfl
  have cB133 : wF.cell? ⟨wB.heap.size, 3, none⟩ = some (.int .i64 lo) := (blk_cell B13 3).trans rfl
  have cB134 : wF.cell? ⟨wB.heap.size, 4, none⟩ = some (.int .i64 (lo + 1 + a % 16)) := (blk_cell B13 4).trans rfl
  have cB13f0 := blk_frozen B13 0
  have cB13f1 := blk_frozen B13 1
  have cB13f2 := blk_frozen B13 2
  have cB13f3 := blk_frozen B13 3
  have cB13f4 := blk_frozen B13 4
  have cB13lt : wB.heap.size < wF.heap.size := blk_lt B13
  have cB140 : wF.cell? ⟨wC.heap.size, 0, none⟩ = some (.string key) := (blk_cell B14 0).trans rfl
  have cB141 : wF.cell? ⟨wC.heap.size, 1, none⟩ = some (.bool true) := (blk_cell B14 1).trans rfl
  have cB142 : wF.cell? ⟨wC.heap.size, 2, none⟩ = some (.string (⟨#[118]⟩ : ByteArray)) := (blk_cell B14 2).trans rfl
  have cB143 : wF.cell? ⟨wC.heap.size, 3, none⟩ = some (.int .i64 lo) := (blk_cell B14 3).trans rfl
  have cB144 : wF.cell? ⟨wC.heap.size, 4, none⟩ = some (.int .i64 (4611686018427387904)) := (blk_cell B14 4).trans rfl
  have cB14f0 := blk_frozen B14 0
  have cB14f1 := blk_frozen B14 1
  have cB14f2 := blk_frozen B14 2
  have cB14f3 := blk_frozen B14 3
  have cB14f4 := blk_frozen B14 4
  have cB14lt : wC.heap.size < wF.heap.size := blk_lt B14
  have cB150 : wF.cell? ⟨wD.heap.size, 0, none⟩ = some (.string key) := (blk_cell B15 0).trans rfl
  have cB151 : wF.cell? ⟨wD.heap.size, 1, none⟩ = some (.bool true) := (blk_cell B15 1).trans rfl
  have cB152 : wF.cell? ⟨wD.heap.size, 2, none⟩ = some (.string (⟨#[118]⟩ : ByteArray)) := (blk_cell B15 2).trans rfl
  have cB153 : wF.cell? ⟨wD.heap.size, 3, none⟩ = some (.int .i64 lo) := (blk_cell B15 3).trans rfl
  have cB154 : wF.cell? ⟨wD.heap.size, 4, none⟩ = some (.int .i64 (me)) := (blk_cell B15 4).trans rfl
  have cB15f0 := blk_frozen B15 0
  have cB15f1 := blk_frozen B15 1
  have cB15f2 := blk_frozen B15 2
  have cB15f3 := blk_frozen B15 3
  have cB15f4 := blk_frozen B15 4
  have cB15lt : wD.heap.size < wF.heap.size := blk_lt B15
  have cB170 : wF.cell? ⟨wE.heap.size, 0, none⟩ = some (.string key) := (blk_cell B17 0).trans rfl
  have cB171 : wF.cell? ⟨wE.heap.size, 1, none⟩ = some (.bool true) := (blk_cell B17 1).trans rfl
  have cB172 : wF.cell? ⟨wE.heap.size, 2, none⟩ = some (.string (⟨#[118]⟩ : ByteArray)) := (blk_cell B17 2).trans rfl
  have cB173 : wF.cell? ⟨wE.heap.size, 3, none⟩ = some (.int .i64 lo) := (blk_cell B17 3).trans rfl
  have cB174 : wF.cell? ⟨wE.heap.size, 4, none⟩ = some (.int .i64 (me)) := (blk_cell B17 4).trans rfl
  have cB17f0 := blk_frozen B17 0
  have cB17f1 := blk_frozen B17 1
  have cB17f2 := blk_frozen B17 2
  have cB17f3 := blk_frozen B17 3
  have cB17f4 := blk_frozen B17 4
  have cB17lt : wE.heap.size < wF.heap.size := blk_lt B17
  go_wp2_with fail
  clear cB130 cB13f0 cB131 cB13f1 cB132 cB13f2 cB133 cB13f3 cB134 cB13f4 cB13lt
  clear cB140 cB14f0 cB141 cB14f1 cB142 cB14f2 cB143 cB14f3 cB144 cB14f4 cB14lt
  clear cB150 cB15f0 cB151 cB15f1 cB152 cB15f2 cB153 cB15f3 cB154 cB15f4 cB15lt
  clear cB170 cB17f0 cB171 cB17f1 cB172 cB17f2 cB173 cB17f3 cB174 cB17f4 cB17lt
  (with_reducible refine (span_Span_int64_Has.calls _ _ _ _ _ C6.out).mono ?_)
  rintro e wG ⟨rfl, hbwG⟩
  have nB13 := blk_below (g := wB.heap.size) (o := .cells #[.string key, .bool true, .string (⟨#[118]⟩ : ByteArray), .int .i64 lo, .int .i64 (lo + 1 + a % 16)] 38 (0, 0)) (B13) hbwG
  have nB14 := blk_below (g := wC.heap.size) (o := .cells #[.string key, .bool true, .string (⟨#[118]⟩ : ByteArray), .int .i64 lo, .int .i64 (4611686018427387904)] 38 (0, 0)) (B14) hbwG
  have nB15 := blk_below (g := wD.heap.size) (o := .cells #[.string key, .bool true, .string (⟨#[118]⟩ : ByteArray), .int .i64 lo, .int .i64 (me)] 38 (0, 0)) (B15) hbwG
  have nB17 := blk_below (g := wE.heap.size) (o := .cells #[.string key, .bool true, .string (⟨#[118]⟩ : ByteArray), .int .i64 lo, .int .i64 (me)] 38 (0, 0)) (B17) hbwG
  have nHB := bt (HB) hbwG
  clear HB hbwG
  have HB := nHB
  clear nHB
  try clear B13
  have B13 := nB13
  clear nB13
  try clear B14
  have B14 := nB14
  clear nB14
  try clear B15
  have B15 := nB15
  clear nB15
  try clear B17
  have B17 := nB17
  clear nB17
  have cB130 : wG.cell? ⟨wB.heap.size, 0, none⟩ = some (.string key) := (blk_cell B13 0).trans rfl
  have cB131 : wG.cell? ⟨wB.heap.size, 1, none⟩ = some (.bool true) := (blk_cell B13 1).trans rfl
  have cB132 : wG.cell? ⟨wB.heap.size, 2, none⟩ = some (.string (⟨#[118]⟩ : ByteArray)) := (blk_cell B13 2).trans rfl
  have cB133 : wG.cell? ⟨wB.heap.size, 3, none⟩ = some (.int .i64 lo) := (blk_cell B13 3).trans rfl
  have cB134 : wG.cell? ⟨wB.heap.size, 4, none⟩ = some (.int .i64 (lo + 1 + a % 16)) := (blk_cell B13 4).trans rfl
  have cB13f0 := blk_frozen B13 0
  have cB13f1 := blk_frozen B13 1
  have cB13f2 := blk_frozen B13 2
  have cB13f3 := blk_frozen B13 3
  have cB13f4 := blk_frozen B13 4
  have cB13lt : wB.heap.size < wG.heap.size := blk_lt B13
  have cB140 : wG.cell? ⟨wC.heap.size, 0, none⟩ = some (.string key) := (blk_cell B14 0).trans rfl
  have cB141 : wG.cell? ⟨wC.heap.size, 1, none⟩ = some (.bool true) := (blk_cell B14 1).trans rfl
  have cB142 : wG.cell? ⟨wC.heap.size, 2, none⟩ = some (.string (⟨#[118]⟩ : ByteArray)) := (blk_cell B14 2).trans rfl
  have cB143 : wG.cell? ⟨wC.heap.size, 3, none⟩ = some (.int .i64 lo) := (blk_cell B14 3).trans rfl
  have cB144 : wG.cell? ⟨wC.heap.size, 4, none⟩ = some (.int .i64 (4611686018427387904)) := (blk_cell B14 4).trans rfl
  have cB14f0 := blk_frozen B14 0
  have cB14f1 := blk_frozen B14 1
  have cB14f2 := blk_frozen B14 2
  have cB14f3 := blk_frozen B14 3
  have cB14f4 := blk_frozen B14 4
  have cB14lt : wC.heap.size < wG.heap.size := blk_lt B14
  have cB150 : wG.cell? ⟨wD.heap.size, 0, none⟩ = some (.string key) := (blk_cell B15 0).trans rfl
  have cB151 : wG.cell? ⟨wD.heap.size, 1, none⟩ = some (.bool true) := (blk_cell B15 1).trans rfl
  have cB152 : wG.cell? ⟨wD.heap.size, 2, none⟩ = some (.string (⟨#[118]⟩ : ByteArray)) := (blk_cell B15 2).trans rfl
  have cB153 : wG.cell? ⟨wD.heap.size, 3, none⟩ = some (.int .i64 lo) := (blk_cell B15 3).trans rfl
  have cB154 : wG.cell? ⟨wD.heap.size, 4, none⟩ = some (.int .i64 (me)) := (blk_cell B15 4).trans rfl
  have cB15f0 := blk_frozen B15 0
  have cB15f1 := blk_frozen B15 1
  have cB15f2 := blk_frozen B15 2
  have cB15f3 := blk_frozen B15 3
  have cB15f4 := blk_frozen B15 4
  have cB15lt : wD.heap.size < wG.heap.size := blk_lt B15
  have cB170 : wG.cell? ⟨wE.heap.size, 0, none⟩ = some (.string key) := (blk_cell B17 0).trans rfl
  have cB171 : wG.cell? ⟨wE.heap.size, 1, none⟩ = some (.bool true) := (blk_cell B17 1).trans rfl
  have cB172 : wG.cell? ⟨wE.heap.size, 2, none⟩ = some (.string (⟨#[118]⟩ : ByteArray)) := (blk_cell B17 2).trans rfl
  have cB173 : wG.cell? ⟨wE.heap.size, 3, none⟩ = some (.int .i64 lo) := (blk_cell B17 3).trans rfl
  have cB174 : wG.cell? ⟨wE.heap.size, 4, none⟩ = some (.int .i64 (me)) := (blk_cell B17 4).trans rfl
  have cB17f0 := blk_frozen B17 0
  have cB17f1 := blk_frozen B17 1
  have cB17f2 := blk_frozen B17 2
  have cB17f3 := blk_frozen B17 3
  have cB17f4 := blk_frozen B17 4
  have cB17lt : wE.heap.size < wG.heap.size := blk_lt B17
  go_wp2_with fail
  clear cB130 cB13f0 cB131 cB13f1 cB132 cB13f2 cB133 cB13f3 cB134 cB13f4 cB13lt
  clear cB140 cB14f0 cB141 cB14f1 cB142 cB14f2 cB143 cB14f3 cB144 cB14f4 cB14lt
  clear cB150 cB15f0 cB151 cB15f1 cB152 cB15f2 cB153 cB15f3 cB154 cB15f4 cB15lt
  clear cB170 cB17f0 cB171 cB17f1 cB172 cB17f2 cB173 cB17f3 cB174 cB17f4 cB17lt
  (with_reducible refine (fact_Known.calls _ _ _ _ _ _ _ _ _ C4.out).mono ?_)
  rintro e wH ⟨rfl, hbwH⟩
  have nB13 := blk_below (g := wB.heap.size) (o := .cells #[.string key, .bool true, .string (⟨#[118]⟩ : ByteArray), .int .i64 lo, .int .i64 (lo + 1 + a % 16)] 38 (0, 0)) (B13) hbwH
  have nB14 := blk_below (g := wC.heap.size) (o := .cells #[.string key, .bool true, .string (⟨#[118]⟩ : ByteArray), .int .i64 lo, .int .i64 (4611686018427387904)] 38 (0, 0)) (B14) hbwH
  have nB15 := blk_below (g := wD.heap.size) (o := .cells #[.string key, .bool true, .string (⟨#[118]⟩ : ByteArray), .int .i64 lo, .int .i64 (me)] 38 (0, 0)) (B15) hbwH
  have nB17 := blk_below (g := wE.heap.size) (o := .cells #[.string key, .bool true, .string (⟨#[118]⟩ : ByteArray), .int .i64 lo, .int .i64 (me)] 38 (0, 0)) (B17) hbwH
  have nHB := bt (HB) hbwH
  clear HB hbwH
  have HB := nHB
  clear nHB
  try clear B13
  have B13 := nB13
  clear nB13
  try clear B14
  have B14 := nB14
  clear nB14
  try clear B15
  have B15 := nB15
  clear nB15
  try clear B17
  have B17 := nB17
  clear nB17
  have cB130 : wH.cell? ⟨wB.heap.size, 0, none⟩ = some (.string key) := (blk_cell B13 0).trans rfl
  have cB131 : wH.cell? ⟨wB.heap.size, 1, none⟩ = some (.bool true) := (blk_cell B13 1).trans rfl
  have cB132 : wH.cell? ⟨wB.heap.size, 2, none⟩ = some (.string (⟨#[118]⟩ : ByteArray)) := (blk_cell B13 2).trans rfl
  have cB133 : wH.cell? ⟨wB.heap.size, 3, none⟩ = some (.int .i64 lo) := (blk_cell B13 3).trans rfl
  have cB134 : wH.cell? ⟨wB.heap.size, 4, none⟩ = some (.int .i64 (lo + 1 + a % 16)) := (blk_cell B13 4).trans rfl
  have cB13f0 := blk_frozen B13 0
  have cB13f1 := blk_frozen B13 1
  have cB13f2 := blk_frozen B13 2
  have cB13f3 := blk_frozen B13 3
  have cB13f4 := blk_frozen B13 4
  have cB13lt : wB.heap.size < wH.heap.size := blk_lt B13
  have cB140 : wH.cell? ⟨wC.heap.size, 0, none⟩ = some (.string key) := (blk_cell B14 0).trans rfl
  have cB141 : wH.cell? ⟨wC.heap.size, 1, none⟩ = some (.bool true) := (blk_cell B14 1).trans rfl
  have cB142 : wH.cell? ⟨wC.heap.size, 2, none⟩ = some (.string (⟨#[118]⟩ : ByteArray)) := (blk_cell B14 2).trans rfl
  have cB143 : wH.cell? ⟨wC.heap.size, 3, none⟩ = some (.int .i64 lo) := (blk_cell B14 3).trans rfl
  have cB144 : wH.cell? ⟨wC.heap.size, 4, none⟩ = some (.int .i64 (4611686018427387904)) := (blk_cell B14 4).trans rfl
  have cB14f0 := blk_frozen B14 0
  have cB14f1 := blk_frozen B14 1
  have cB14f2 := blk_frozen B14 2
  have cB14f3 := blk_frozen B14 3
  have cB14f4 := blk_frozen B14 4
  have cB14lt : wC.heap.size < wH.heap.size := blk_lt B14
  have cB150 : wH.cell? ⟨wD.heap.size, 0, none⟩ = some (.string key) := (blk_cell B15 0).trans rfl
  have cB151 : wH.cell? ⟨wD.heap.size, 1, none⟩ = some (.bool true) := (blk_cell B15 1).trans rfl
  have cB152 : wH.cell? ⟨wD.heap.size, 2, none⟩ = some (.string (⟨#[118]⟩ : ByteArray)) := (blk_cell B15 2).trans rfl
  have cB153 : wH.cell? ⟨wD.heap.size, 3, none⟩ = some (.int .i64 lo) := (blk_cell B15 3).trans rfl
  have cB154 : wH.cell? ⟨wD.heap.size, 4, none⟩ = some (.int .i64 (me)) := (blk_cell B15 4).trans rfl
  have cB15f0 := blk_frozen B15 0
  have cB15f1 := blk_frozen B15 1
  have cB15f2 := blk_frozen B15 2
  have cB15f3 := blk_frozen B15 3
  have cB15f4 := blk_frozen B15 4
  have cB15lt : wD.heap.size < wH.heap.size := blk_lt B15
  have cB170 : wH.cell? ⟨wE.heap.size, 0, none⟩ = some (.string key) := (blk_cell B17 0).trans rfl
  have cB171 : wH.cell? ⟨wE.heap.size, 1, none⟩ = some (.bool true) := (blk_cell B17 1).trans rfl
  have cB172 : wH.cell? ⟨wE.heap.size, 2, none⟩ = some (.string (⟨#[118]⟩ : ByteArray)) := (blk_cell B17 2).trans rfl
  have cB173 : wH.cell? ⟨wE.heap.size, 3, none⟩ = some (.int .i64 lo) := (blk_cell B17 3).trans rfl
  have cB174 : wH.cell? ⟨wE.heap.size, 4, none⟩ = some (.int .i64 (me)) := (blk_cell B17 4).trans rfl
  have cB17f0 := blk_frozen B17 0
  have cB17f1 := blk_frozen B17 1
  have cB17f2 := blk_frozen B17 2
  have cB17f3 := blk_frozen B17 3
  have cB17f4 := blk_frozen B17 4
  have cB17lt : wE.heap.size < wH.heap.size := blk_lt B17
  go_wp2_with fail
  clear cB130 cB13f0 cB131 cB13f1 cB132 cB13f2 cB133 cB13f3 cB134 cB13f4 cB13lt
  clear cB140 cB14f0 cB141 cB14f1 cB142 cB14f2 cB143 cB14f3 cB144 cB14f4 cB14lt
  clear cB150 cB15f0 cB151 cB15f1 cB152 cB15f2 cB153 cB15f3 cB154 cB15f4 cB15lt
  clear cB170 cB17f0 cB171 cB17f1 cB172 cB17f2 cB173 cB17f3 cB174 cB17f4 cB17lt
  (with_reducible refine (span_Span_int64_Has.calls _ _ _ _ _ C7.out).mono ?_)
  rintro e wI ⟨rfl, hbwI⟩
  have nB13 := blk_below (g := wB.heap.size) (o := .cells #[.string key, .bool true, .string (⟨#[118]⟩ : ByteArray), .int .i64 lo, .int .i64 (lo + 1 + a % 16)] 38 (0, 0)) (B13) hbwI
  have nB14 := blk_below (g := wC.heap.size) (o := .cells #[.string key, .bool true, .string (⟨#[118]⟩ : ByteArray), .int .i64 lo, .int .i64 (4611686018427387904)] 38 (0, 0)) (B14) hbwI
  have nB15 := blk_below (g := wD.heap.size) (o := .cells #[.string key, .bool true, .string (⟨#[118]⟩ : ByteArray), .int .i64 lo, .int .i64 (me)] 38 (0, 0)) (B15) hbwI
  have nB17 := blk_below (g := wE.heap.size) (o := .cells #[.string key, .bool true, .string (⟨#[118]⟩ : ByteArray), .int .i64 lo, .int .i64 (me)] 38 (0, 0)) (B17) hbwI
  have nHB := bt (HB) hbwI
  clear HB hbwI
  have HB := nHB
  clear nHB
  try clear B13
  have B13 := nB13
  clear nB13
  try clear B14
  have B14 := nB14
  clear nB14
  try clear B15
  have B15 := nB15
  clear nB15
  try clear B17
  have B17 := nB17
  clear nB17
  have cB130 : wI.cell? ⟨wB.heap.size, 0, none⟩ = some (.string key) := (blk_cell B13 0).trans rfl
  have cB131 : wI.cell? ⟨wB.heap.size, 1, none⟩ = some (.bool true) := (blk_cell B13 1).trans rfl
  have cB132 : wI.cell? ⟨wB.heap.size, 2, none⟩ = some (.string (⟨#[118]⟩ : ByteArray)) := (blk_cell B13 2).trans rfl
  have cB133 : wI.cell? ⟨wB.heap.size, 3, none⟩ = some (.int .i64 lo) := (blk_cell B13 3).trans rfl
  have cB134 : wI.cell? ⟨wB.heap.size, 4, none⟩ = some (.int .i64 (lo + 1 + a % 16)) := (blk_cell B13 4).trans rfl
  have cB13f0 := blk_frozen B13 0
  have cB13f1 := blk_frozen B13 1
  have cB13f2 := blk_frozen B13 2
  have cB13f3 := blk_frozen B13 3
  have cB13f4 := blk_frozen B13 4
  have cB13lt : wB.heap.size < wI.heap.size := blk_lt B13
  have cB140 : wI.cell? ⟨wC.heap.size, 0, none⟩ = some (.string key) := (blk_cell B14 0).trans rfl
  have cB141 : wI.cell? ⟨wC.heap.size, 1, none⟩ = some (.bool true) := (blk_cell B14 1).trans rfl
  have cB142 : wI.cell? ⟨wC.heap.size, 2, none⟩ = some (.string (⟨#[118]⟩ : ByteArray)) := (blk_cell B14 2).trans rfl
  have cB143 : wI.cell? ⟨wC.heap.size, 3, none⟩ = some (.int .i64 lo) := (blk_cell B14 3).trans rfl
  have cB144 : wI.cell? ⟨wC.heap.size, 4, none⟩ = some (.int .i64 (4611686018427387904)) := (blk_cell B14 4).trans rfl
  have cB14f0 := blk_frozen B14 0
  have cB14f1 := blk_frozen B14 1
  have cB14f2 := blk_frozen B14 2
  have cB14f3 := blk_frozen B14 3
  have cB14f4 := blk_frozen B14 4
  have cB14lt : wC.heap.size < wI.heap.size := blk_lt B14
  have cB150 : wI.cell? ⟨wD.heap.size, 0, none⟩ = some (.string key) := (blk_cell B15 0).trans rfl
  have cB151 : wI.cell? ⟨wD.heap.size, 1, none⟩ = some (.bool true) := (blk_cell B15 1).trans rfl
  have cB152 : wI.cell? ⟨wD.heap.size, 2, none⟩ = some (.string (⟨#[118]⟩ : ByteArray)) := (blk_cell B15 2).trans rfl
  have cB153 : wI.cell? ⟨wD.heap.size, 3, none⟩ = some (.int .i64 lo) := (blk_cell B15 3).trans rfl
  have cB154 : wI.cell? ⟨wD.heap.size, 4, none⟩ = some (.int .i64 (me)) := (blk_cell B15 4).trans rfl
  have cB15f0 := blk_frozen B15 0
  have cB15f1 := blk_frozen B15 1
  have cB15f2 := blk_frozen B15 2
  have cB15f3 := blk_frozen B15 3
  have cB15f4 := blk_frozen B15 4
  have cB15lt : wD.heap.size < wI.heap.size := blk_lt B15
  have cB170 : wI.cell? ⟨wE.heap.size, 0, none⟩ = some (.string key) := (blk_cell B17 0).trans rfl
  have cB171 : wI.cell? ⟨wE.heap.size, 1, none⟩ = some (.bool true) := (blk_cell B17 1).trans rfl
  have cB172 : wI.cell? ⟨wE.heap.size, 2, none⟩ = some (.string (⟨#[118]⟩ : ByteArray)) := (blk_cell B17 2).trans rfl
  have cB173 : wI.cell? ⟨wE.heap.size, 3, none⟩ = some (.int .i64 lo) := (blk_cell B17 3).trans rfl
  have cB174 : wI.cell? ⟨wE.heap.size, 4, none⟩ = some (.int .i64 (me)) := (blk_cell B17 4).trans rfl
  have cB17f0 := blk_frozen B17 0
  have cB17f1 := blk_frozen B17 1
  have cB17f2 := blk_frozen B17 2
  have cB17f3 := blk_frozen B17 3
  have cB17f4 := blk_frozen B17 4
  have cB17lt : wE.heap.size < wI.heap.size := blk_lt B17
  go_wp2_with fail
  clear cB130 cB13f0 cB131 cB13f1 cB132 cB13f2 cB133 cB13f3 cB134 cB13f4 cB13lt
  clear cB140 cB14f0 cB141 cB14f1 cB142 cB14f2 cB143 cB14f3 cB144 cB14f4 cB14lt
  clear cB150 cB15f0 cB151 cB15f1 cB152 cB15f2 cB153 cB15f3 cB154 cB15f4 cB15lt
  clear cB170 cB17f0 cB171 cB17f1 cB172 cB17f2 cB173 cB17f3 cB174 cB17f4 cB17lt
  (with_reducible refine (fact_Known.calls _ _ _ _ _ _ _ _ _ C5.out).mono ?_)
  rintro e wJ ⟨rfl, hbwJ⟩
  have nB13 := blk_below (g := wB.heap.size) (o := .cells #[.string key, .bool true, .string (⟨#[118]⟩ : ByteArray), .int .i64 lo, .int .i64 (lo + 1 + a % 16)] 38 (0, 0)) (B13) hbwJ
  have nB14 := blk_below (g := wC.heap.size) (o := .cells #[.string key, .bool true, .string (⟨#[118]⟩ : ByteArray), .int .i64 lo, .int .i64 (4611686018427387904)] 38 (0, 0)) (B14) hbwJ
  have nB15 := blk_below (g := wD.heap.size) (o := .cells #[.string key, .bool true, .string (⟨#[118]⟩ : ByteArray), .int .i64 lo, .int .i64 (me)] 38 (0, 0)) (B15) hbwJ
  have nB17 := blk_below (g := wE.heap.size) (o := .cells #[.string key, .bool true, .string (⟨#[118]⟩ : ByteArray), .int .i64 lo, .int .i64 (me)] 38 (0, 0)) (B17) hbwJ
  have nHB := bt (HB) hbwJ
  clear HB hbwJ
  have HB := nHB
  clear nHB
  try clear B13
  have B13 := nB13
  clear nB13
  try clear B14
  have B14 := nB14
  clear nB14
  try clear B15
  have B15 := nB15
  clear nB15
  try clear B17
  have B17 := nB17
  clear nB17
  have cB130 : wJ.cell? ⟨wB.heap.size, 0, none⟩ = some (.string key) := (blk_cell B13 0).trans rfl
  have cB131 : wJ.cell? ⟨wB.heap.size, 1, none⟩ = some (.bool true) := (blk_cell B13 1).trans rfl
  have cB132 : wJ.cell? ⟨wB.heap.size, 2, none⟩ = some (.string (⟨#[118]⟩ : ByteArray)) := (blk_cell B13 2).trans rfl
  have cB133 : wJ.cell? ⟨wB.heap.size, 3, none⟩ = some (.int .i64 lo) := (blk_cell B13 3).trans rfl
  have cB134 : wJ.cell? ⟨wB.heap.size, 4, none⟩ = some (.int .i64 (lo + 1 + a % 16)) := (blk_cell B13 4).trans rfl
  have cB13f0 := blk_frozen B13 0
  have cB13f1 := blk_frozen B13 1
  have cB13f2 := blk_frozen B13 2
  have cB13f3 := blk_frozen B13 3
  have cB13f4 := blk_frozen B13 4
  have cB13lt : wB.heap.size < wJ.heap.size := blk_lt B13
  have cB140 : wJ.cell? ⟨wC.heap.size, 0, none⟩ = some (.string key) := (blk_cell B14 0).trans rfl
  have cB141 : wJ.cell? ⟨wC.heap.size, 1, none⟩ = some (.bool true) := (blk_cell B14 1).trans rfl
  have cB142 : wJ.cell? ⟨wC.heap.size, 2, none⟩ = some (.string (⟨#[118]⟩ : ByteArray)) := (blk_cell B14 2).trans rfl
  have cB143 : wJ.cell? ⟨wC.heap.size, 3, none⟩ = some (.int .i64 lo) := (blk_cell B14 3).trans rfl
  have cB144 : wJ.cell? ⟨wC.heap.size, 4, none⟩ = some (.int .i64 (4611686018427387904)) := (blk_cell B14 4).trans rfl
  have cB14f0 := blk_frozen B14 0
  have cB14f1 := blk_frozen B14 1
  have cB14f2 := blk_frozen B14 2
  have cB14f3 := blk_frozen B14 3
  have cB14f4 := blk_frozen B14 4
  have cB14lt : wC.heap.size < wJ.heap.size := blk_lt B14
  have cB150 : wJ.cell? ⟨wD.heap.size, 0, none⟩ = some (.string key) := (blk_cell B15 0).trans rfl
  have cB151 : wJ.cell? ⟨wD.heap.size, 1, none⟩ = some (.bool true) := (blk_cell B15 1).trans rfl
  have cB152 : wJ.cell? ⟨wD.heap.size, 2, none⟩ = some (.string (⟨#[118]⟩ : ByteArray)) := (blk_cell B15 2).trans rfl
  have cB153 : wJ.cell? ⟨wD.heap.size, 3, none⟩ = some (.int .i64 lo) := (blk_cell B15 3).trans rfl
  have cB154 : wJ.cell? ⟨wD.heap.size, 4, none⟩ = some (.int .i64 (me)) := (blk_cell B15 4).trans rfl
  have cB15f0 := blk_frozen B15 0
  have cB15f1 := blk_frozen B15 1
  have cB15f2 := blk_frozen B15 2
  have cB15f3 := blk_frozen B15 3
  have cB15f4 := blk_frozen B15 4
  have cB15lt : wD.heap.size < wJ.heap.size := blk_lt B15
  have cB170 : wJ.cell? ⟨wE.heap.size, 0, none⟩ = some (.string key) := (blk_cell B17 0).trans rfl
  have cB171 : wJ.cell? ⟨wE.heap.size, 1, none⟩ = some (.bool true) := (blk_cell B17 1).trans rfl
  have cB172 : wJ.cell? ⟨wE.heap.size, 2, none⟩ = some (.string (⟨#[118]⟩ : ByteArray)) := (blk_cell B17 2).trans rfl
  have cB173 : wJ.cell? ⟨wE.heap.size, 3, none⟩ = some (.int .i64 lo) := (blk_cell B17 3).trans rfl
  have cB174 : wJ.cell? ⟨wE.heap.size, 4, none⟩ = some (.int .i64 (me)) := (blk_cell B17 4).trans rfl
  have cB17f0 := blk_frozen B17 0
  have cB17f1 := blk_frozen B17 1
  have cB17f2 := blk_frozen B17 2
  have cB17f3 := blk_frozen B17 3
  have cB17f4 := blk_frozen B17 4
  have cB17lt : wE.heap.size < wJ.heap.size := blk_lt B17
  go_wp2_with fail
  clear cB130 cB13f0 cB131 cB13f1 cB132 cB13f2 cB133 cB13f3 cB134 cB13f4 cB13lt
  clear cB140 cB14f0 cB141 cB14f1 cB142 cB14f2 cB143 cB14f3 cB144 cB14f4 cB14lt
  clear cB150 cB15f0 cB151 cB15f1 cB152 cB15f2 cB153 cB15f3 cB154 cB15f4 cB15lt
  clear cB170 cB17f0 cB171 cB17f1 cB172 cB17f2 cB173 cB17f3 cB174 cB17f4 cB17lt
  (with_reducible refine (span_Span_int64_Has.calls _ _ _ _ _ C8.out).mono ?_)
  rintro e wK ⟨rfl, hbwK⟩
  have nB13 := blk_below (g := wB.heap.size) (o := .cells #[.string key, .bool true, .string (⟨#[118]⟩ : ByteArray), .int .i64 lo, .int .i64 (lo + 1 + a % 16)] 38 (0, 0)) (B13) hbwK
  have nB14 := blk_below (g := wC.heap.size) (o := .cells #[.string key, .bool true, .string (⟨#[118]⟩ : ByteArray), .int .i64 lo, .int .i64 (4611686018427387904)] 38 (0, 0)) (B14) hbwK
  have nB15 := blk_below (g := wD.heap.size) (o := .cells #[.string key, .bool true, .string (⟨#[118]⟩ : ByteArray), .int .i64 lo, .int .i64 (me)] 38 (0, 0)) (B15) hbwK
  have nB17 := blk_below (g := wE.heap.size) (o := .cells #[.string key, .bool true, .string (⟨#[118]⟩ : ByteArray), .int .i64 lo, .int .i64 (me)] 38 (0, 0)) (B17) hbwK
  have nHB := bt (HB) hbwK
  clear HB hbwK
  have HB := nHB
  clear nHB
  try clear B13
  have B13 := nB13
  clear nB13
  try clear B14
  have B14 := nB14
  clear nB14
  try clear B15
  have B15 := nB15
  clear nB15
  try clear B17
  have B17 := nB17
  clear nB17
  go_wp2_with fail
  go_ret
  exact ⟨by simp, HB⟩
set_option maxHeartbeats 2000000 in
set_option maxRecDepth 100000 in
theorem walk_011 (key : ByteArray) (lo a b at_ c me x0 x1 y0 y1 z0 z1 : Int) (q : Bool) (w : World) (l0 : 0 ≤ lo) (l1 : lo ≤ 255) (a0 : 0 ≤ a) (a1 : a ≤ 255) (b0 : 0 ≤ b) (b1 : b ≤ 255) (t0 : 0 ≤ at_) (t1 : at_ ≤ 255) (c0 : 0 ≤ c) (c1 : c ≤ 255)
    (ha : a < 128) (hb : 128 ≤ b)
    (m1 : fact_Merge.f 20 key true (⟨#[118]⟩ : ByteArray) lo (lo + 1 + a % 16) key true (⟨#[118]⟩ : ByteArray) lo (4611686018427387904) at_ = some (key, true, ⟨#[118]⟩, lo, me, true)) (m2 : fact_Merge.f 20 key true (⟨#[118]⟩ : ByteArray) lo (4611686018427387904) key true (⟨#[118]⟩ : ByteArray) lo (lo + 1 + a % 16) at_ = some (key, true, ⟨#[118]⟩, lo, me, true))
    (k1 : fact_Known.f key true (⟨#[118]⟩ : ByteArray) lo (lo + 1 + a % 16) at_ = some (x0, x1)) (k2 : fact_Known.f key true (⟨#[118]⟩ : ByteArray) lo (4611686018427387904) at_ = some (y0, y1)) (k3 : fact_Known.f key true (⟨#[118]⟩ : ByteArray) lo (me) at_ = some (z0, z1))
    (h1 : span_Span_int64_Has.f x0 x1 c = some true) (h2 : span_Span_int64_Has.f y0 y1 c = some q) (h3 : span_Span_int64_Has.f z0 z1 c = some true) :
    Calls Try.prog 9 #[.string key, .int .u8 lo, .int .u8 a, .int .u8 b, .int .u8 at_, .int .u8 c] w fun e w' => e = .returned (.bool true) ∧ Below w.heap.size w w' := by
  have C1 := Aside0.mk m1
  have C2 := Aside0.mk m2
  have C3 := Aside0.mk k1
  have C4 := Aside0.mk k2
  have C5 := Aside0.mk k3
  have C6 := Aside0.mk h1
  have C7 := Aside0.mk h2
  have C8 := Aside0.mk h3
  clear m1 m2 k1 k2 k3 h1 h2 h3
  go_enter Try.func9, Try.ntmps9
  have HB := Below.refl w.heap.size w
  go_wp2_with fail
  (with_reducible refine (vouchlaw09_fixed.calls 20 true _ fixed20).mono ?_)
  rintro e wA ⟨rfl, hbwA⟩
  have nHB := bt (HB) hbwA
  clear HB hbwA
  have HB := nHB
  clear nHB
  go_wp2_with fail
  (with_reducible refine (vouchlaw09_text.calls (⟨#[118]⟩ : ByteArray) true (⟨#[118]⟩ : ByteArray) _ rfl).mono ?_)
  rintro e wB ⟨rfl, hbwB⟩
  have nHB := bt (HB) hbwB
  clear HB hbwB
  have HB := nHB
  clear nHB
  go_wp2_with fail
  (with_reducible refine (vouchlaw09_text.calls (⟨#[118]⟩ : ByteArray) true (⟨#[118]⟩ : ByteArray) _ rfl).mono ?_)
  rintro e wC ⟨rfl, hbwC⟩
  have nB13 := blk_below (g := wB.heap.size) (o := .cells #[.string key, .bool true, .string (⟨#[118]⟩ : ByteArray), .int .i64 lo, .int .i64 (lo + 1 + a % 16)] 38 (0, 0)) (blk_new _ _) hbwC
  have nHB := bt (below_alloc HB _) hbwC
  clear HB hbwC
  have HB := nHB
  clear nHB
  try clear B13
  have B13 := nB13
  clear nB13
  have ne : wB.heap.size ≠ wC.heap.size := by have := blk_lt B13; omega
  have ne' : wC.heap.size ≠ wB.heap.size := fun h => ne h.symm
  have cB130 : wC.cell? ⟨wB.heap.size, 0, none⟩ = some (.string key) := (blk_cell B13 0).trans rfl
  have cB131 : wC.cell? ⟨wB.heap.size, 1, none⟩ = some (.bool true) := (blk_cell B13 1).trans rfl
  have cB132 : wC.cell? ⟨wB.heap.size, 2, none⟩ = some (.string (⟨#[118]⟩ : ByteArray)) := (blk_cell B13 2).trans rfl
  have cB133 : wC.cell? ⟨wB.heap.size, 3, none⟩ = some (.int .i64 lo) := (blk_cell B13 3).trans rfl
  have cB134 : wC.cell? ⟨wB.heap.size, 4, none⟩ = some (.int .i64 (lo + 1 + a % 16)) := (blk_cell B13 4).trans rfl
  have cB13f0 := blk_frozen B13 0
  have cB13f1 := blk_frozen B13 1
  have cB13f2 := blk_frozen B13 2
  have cB13f3 := blk_frozen B13 3
  have cB13f4 := blk_frozen B13 4
  have cB13lt : wB.heap.size < wC.heap.size := blk_lt B13
  have geC : w.heap.size ≤ wC.heap.size := HB.size
  go_wp2_with fail
  clear cB130 cB13f0 cB131 cB13f1 cB132 cB13f2 cB133 cB13f3 cB134 cB13f4 cB13lt
  (with_reducible refine (fact_Merge.calls 20 _ _ _ _ _ _ _ _ _ _ _ _ _ _ _ _ _ _ C1.out).mono ?_)
  rintro e wD ⟨rfl, hbwD⟩
  have nB13 := blk_below (g := wB.heap.size) (o := .cells #[.string key, .bool true, .string (⟨#[118]⟩ : ByteArray), .int .i64 lo, .int .i64 (lo + 1 + a % 16)] 38 (0, 0)) (blk_alloc B13 _) hbwD
  have nB14 := blk_below (g := wC.heap.size) (o := .cells #[.string key, .bool true, .string (⟨#[118]⟩ : ByteArray), .int .i64 lo, .int .i64 (4611686018427387904)] 38 (0, 0)) (blk_new _ _) hbwD
  have nHB := bt (below_alloc HB _) hbwD
  clear HB hbwD B13
  have HB := nHB
  have B13 := nB13
  have B14 := nB14
  clear nHB nB13 nB14
  have cB130 : wD.cell? ⟨wB.heap.size, 0, none⟩ = some (.string key) := (blk_cell B13 0).trans rfl
  have cB131 : wD.cell? ⟨wB.heap.size, 1, none⟩ = some (.bool true) := (blk_cell B13 1).trans rfl
  have cB132 : wD.cell? ⟨wB.heap.size, 2, none⟩ = some (.string (⟨#[118]⟩ : ByteArray)) := (blk_cell B13 2).trans rfl
  have cB133 : wD.cell? ⟨wB.heap.size, 3, none⟩ = some (.int .i64 lo) := (blk_cell B13 3).trans rfl
  have cB134 : wD.cell? ⟨wB.heap.size, 4, none⟩ = some (.int .i64 (lo + 1 + a % 16)) := (blk_cell B13 4).trans rfl
  have cB13f0 := blk_frozen B13 0
  have cB13f1 := blk_frozen B13 1
  have cB13f2 := blk_frozen B13 2
  have cB13f3 := blk_frozen B13 3
  have cB13f4 := blk_frozen B13 4
  have cB13lt : wB.heap.size < wD.heap.size := blk_lt B13
  have cB140 : wD.cell? ⟨wC.heap.size, 0, none⟩ = some (.string key) := (blk_cell B14 0).trans rfl
  have cB141 : wD.cell? ⟨wC.heap.size, 1, none⟩ = some (.bool true) := (blk_cell B14 1).trans rfl
  have cB142 : wD.cell? ⟨wC.heap.size, 2, none⟩ = some (.string (⟨#[118]⟩ : ByteArray)) := (blk_cell B14 2).trans rfl
  have cB143 : wD.cell? ⟨wC.heap.size, 3, none⟩ = some (.int .i64 lo) := (blk_cell B14 3).trans rfl
  have cB144 : wD.cell? ⟨wC.heap.size, 4, none⟩ = some (.int .i64 (4611686018427387904)) := (blk_cell B14 4).trans rfl
  have cB14f0 := blk_frozen B14 0
  have cB14f1 := blk_frozen B14 1
  have cB14f2 := blk_frozen B14 2
  have cB14f3 := blk_frozen B14 3
  have cB14f4 := blk_frozen B14 4
  have cB14lt : wC.heap.size < wD.heap.size := blk_lt B14
  go_wp2_with fail
  clear cB130 cB13f0 cB131 cB13f1 cB132 cB13f2 cB133 cB13f3 cB134 cB13f4 cB13lt
  clear cB140 cB14f0 cB141 cB14f1 cB142 cB14f2 cB143 cB14f3 cB144 cB14f4 cB14lt
  (with_reducible refine (fact_Merge.calls 20 _ _ _ _ _ _ _ _ _ _ _ _ _ _ _ _ _ _ C2.out).mono ?_)
  rintro e wE ⟨rfl, hbwE⟩
  have nB13 := blk_below (g := wB.heap.size) (o := .cells #[.string key, .bool true, .string (⟨#[118]⟩ : ByteArray), .int .i64 lo, .int .i64 (lo + 1 + a % 16)] 38 (0, 0)) (blk_alloc B13 _) hbwE
  have nB14 := blk_below (g := wC.heap.size) (o := .cells #[.string key, .bool true, .string (⟨#[118]⟩ : ByteArray), .int .i64 lo, .int .i64 (4611686018427387904)] 38 (0, 0)) (blk_alloc B14 _) hbwE
  have nB15 := blk_below (g := wD.heap.size) (o := .cells #[.string key, .bool true, .string (⟨#[118]⟩ : ByteArray), .int .i64 lo, .int .i64 (me)] 38 (0, 0)) (blk_new _ _) hbwE
  have nHB := bt (below_alloc HB _) hbwE
  clear HB hbwE
  have HB := nHB
  clear nHB
  try clear B13
  have B13 := nB13
  clear nB13
  try clear B14
  have B14 := nB14
  clear nB14
  try clear B15
  have B15 := nB15
  clear nB15
  have cB130 : wE.cell? ⟨wB.heap.size, 0, none⟩ = some (.string key) := (blk_cell B13 0).trans rfl
  have cB131 : wE.cell? ⟨wB.heap.size, 1, none⟩ = some (.bool true) := (blk_cell B13 1).trans rfl
  have cB132 : wE.cell? ⟨wB.heap.size, 2, none⟩ = some (.string (⟨#[118]⟩ : ByteArray)) := (blk_cell B13 2).trans rfl
  have cB133 : wE.cell? ⟨wB.heap.size, 3, none⟩ = some (.int .i64 lo) := (blk_cell B13 3).trans rfl
  have cB134 : wE.cell? ⟨wB.heap.size, 4, none⟩ = some (.int .i64 (lo + 1 + a % 16)) := (blk_cell B13 4).trans rfl
  have cB13f0 := blk_frozen B13 0
  have cB13f1 := blk_frozen B13 1
  have cB13f2 := blk_frozen B13 2
  have cB13f3 := blk_frozen B13 3
  have cB13f4 := blk_frozen B13 4
  have cB13lt : wB.heap.size < wE.heap.size := blk_lt B13
  have cB140 : wE.cell? ⟨wC.heap.size, 0, none⟩ = some (.string key) := (blk_cell B14 0).trans rfl
  have cB141 : wE.cell? ⟨wC.heap.size, 1, none⟩ = some (.bool true) := (blk_cell B14 1).trans rfl
  have cB142 : wE.cell? ⟨wC.heap.size, 2, none⟩ = some (.string (⟨#[118]⟩ : ByteArray)) := (blk_cell B14 2).trans rfl
  have cB143 : wE.cell? ⟨wC.heap.size, 3, none⟩ = some (.int .i64 lo) := (blk_cell B14 3).trans rfl
  have cB144 : wE.cell? ⟨wC.heap.size, 4, none⟩ = some (.int .i64 (4611686018427387904)) := (blk_cell B14 4).trans rfl
  have cB14f0 := blk_frozen B14 0
  have cB14f1 := blk_frozen B14 1
  have cB14f2 := blk_frozen B14 2
  have cB14f3 := blk_frozen B14 3
  have cB14f4 := blk_frozen B14 4
  have cB14lt : wC.heap.size < wE.heap.size := blk_lt B14
  have cB150 : wE.cell? ⟨wD.heap.size, 0, none⟩ = some (.string key) := (blk_cell B15 0).trans rfl
  have cB151 : wE.cell? ⟨wD.heap.size, 1, none⟩ = some (.bool true) := (blk_cell B15 1).trans rfl
  have cB152 : wE.cell? ⟨wD.heap.size, 2, none⟩ = some (.string (⟨#[118]⟩ : ByteArray)) := (blk_cell B15 2).trans rfl
  have cB153 : wE.cell? ⟨wD.heap.size, 3, none⟩ = some (.int .i64 lo) := (blk_cell B15 3).trans rfl
  have cB154 : wE.cell? ⟨wD.heap.size, 4, none⟩ = some (.int .i64 (me)) := (blk_cell B15 4).trans rfl
  have cB15f0 := blk_frozen B15 0
  have cB15f1 := blk_frozen B15 1
  have cB15f2 := blk_frozen B15 2
  have cB15f3 := blk_frozen B15 3
  have cB15f4 := blk_frozen B15 4
  have cB15lt : wD.heap.size < wE.heap.size := blk_lt B15
  go_wp2_with fail
  clear cB130 cB13f0 cB131 cB13f1 cB132 cB13f2 cB133 cB13f3 cB134 cB13f4 cB13lt
  clear cB140 cB14f0 cB141 cB14f1 cB142 cB14f2 cB143 cB14f3 cB144 cB14f4 cB14lt
  clear cB150 cB15f0 cB151 cB15f1 cB152 cB15f2 cB153 cB15f3 cB154 cB15f4 cB15lt
  (with_reducible refine (fact_Known.calls _ _ _ _ _ _ _ _ _ C3.out).mono ?_)
  rintro e wF ⟨rfl, hbwF⟩
  have nB13 := blk_below (g := wB.heap.size) (o := .cells #[.string key, .bool true, .string (⟨#[118]⟩ : ByteArray), .int .i64 lo, .int .i64 (lo + 1 + a % 16)] 38 (0, 0)) (blk_alloc B13 _) hbwF
  have nB14 := blk_below (g := wC.heap.size) (o := .cells #[.string key, .bool true, .string (⟨#[118]⟩ : ByteArray), .int .i64 lo, .int .i64 (4611686018427387904)] 38 (0, 0)) (blk_alloc B14 _) hbwF
  have nB15 := blk_below (g := wD.heap.size) (o := .cells #[.string key, .bool true, .string (⟨#[118]⟩ : ByteArray), .int .i64 lo, .int .i64 (me)] 38 (0, 0)) (blk_alloc B15 _) hbwF
  have nB17 := blk_below (g := wE.heap.size) (o := .cells #[.string key, .bool true, .string (⟨#[118]⟩ : ByteArray), .int .i64 lo, .int .i64 (me)] 38 (0, 0)) (blk_new _ _) hbwF
  have nHB := bt (below_alloc HB _) hbwF
  clear HB hbwF
  have HB := nHB
  clear nHB
  try clear B13
  have B13 := nB13
  clear nB13
  try clear B14
  have B14 := nB14
  clear nB14
  try clear B15
  have B15 := nB15
  clear nB15
  try clear B17
  have B17 := nB17
  clear nB17
  have cB130 : wF.cell? ⟨wB.heap.size, 0, none⟩ = some (.string key) := (blk_cell B13 0).trans rfl
  have cB131 : wF.cell? ⟨wB.heap.size, 1, none⟩ = some (.bool true) := (blk_cell B13 1).trans rfl
  have cB132 : wF.cell? ⟨wB.heap.size, 2, none⟩ = some (.string (⟨#[118]⟩ : ByteArray)) := (blk_cell B13 2).trans rfl
  have cB133 : wF.cell? ⟨wB.heap.size, 3, none⟩ = some (.int .i64 lo) := (blk_cell B13 3).trans rfl
  have cB134 : wF.cell? ⟨wB.heap.size, 4, none⟩ = some (.int .i64 (lo + 1 + a % 16)) := (blk_cell B13 4).trans rfl
  have cB13f0 := blk_frozen B13 0
  have cB13f1 := blk_frozen B13 1
  have cB13f2 := blk_frozen B13 2
  have cB13f3 := blk_frozen B13 3
  have cB13f4 := blk_frozen B13 4
  have cB13lt : wB.heap.size < wF.heap.size := blk_lt B13
  have cB140 : wF.cell? ⟨wC.heap.size, 0, none⟩ = some (.string key) := (blk_cell B14 0).trans rfl
  have cB141 : wF.cell? ⟨wC.heap.size, 1, none⟩ = some (.bool true) := (blk_cell B14 1).trans rfl
  have cB142 : wF.cell? ⟨wC.heap.size, 2, none⟩ = some (.string (⟨#[118]⟩ : ByteArray)) := (blk_cell B14 2).trans rfl
  have cB143 : wF.cell? ⟨wC.heap.size, 3, none⟩ = some (.int .i64 lo) := (blk_cell B14 3).trans rfl
  have cB144 : wF.cell? ⟨wC.heap.size, 4, none⟩ = some (.int .i64 (4611686018427387904)) := (blk_cell B14 4).trans rfl
  have cB14f0 := blk_frozen B14 0
  have cB14f1 := blk_frozen B14 1
  have cB14f2 := blk_frozen B14 2
  have cB14f3 := blk_frozen B14 3
  have cB14f4 := blk_frozen B14 4
  have cB14lt : wC.heap.size < wF.heap.size := blk_lt B14
  have cB150 : wF.cell? ⟨wD.heap.size, 0, none⟩ = some (.string key) := (blk_cell B15 0).trans rfl
  have cB151 : wF.cell? ⟨wD.heap.size, 1, none⟩ = some (.bool true) := (blk_cell B15 1).trans rfl
  have cB152 : wF.cell? ⟨wD.heap.size, 2, none⟩ = some (.string (⟨#[118]⟩ : ByteArray)) := (blk_cell B15 2).trans rfl
  have cB153 : wF.cell? ⟨wD.heap.size, 3, none⟩ = some (.int .i64 lo) := (blk_cell B15 3).trans rfl
  have cB154 : wF.cell? ⟨wD.heap.size, 4, none⟩ = some (.int .i64 (me)) := (blk_cell B15 4).trans rfl
  have cB15f0 := blk_frozen B15 0
  have cB15f1 := blk_frozen B15 1
  have cB15f2 := blk_frozen B15 2
  have cB15f3 := blk_frozen B15 3
  have cB15f4 := blk_frozen B15 4
  have cB15lt : wD.heap.size < wF.heap.size := blk_lt B15
  have cB170 : wF.cell? ⟨wE.heap.size, 0, none⟩ = some (.string key) := (blk_cell B17 0).trans rfl
  have cB171 : wF.cell? ⟨wE.heap.size, 1, none⟩ = some (.bool true) := (blk_cell B17 1).trans rfl
  have cB172 : wF.cell? ⟨wE.heap.size, 2, none⟩ = some (.string (⟨#[118]⟩ : ByteArray)) := (blk_cell B17 2).trans rfl
  have cB173 : wF.cell? ⟨wE.heap.size, 3, none⟩ = some (.int .i64 lo) := (blk_cell B17 3).trans rfl
  have cB174 : wF.cell? ⟨wE.heap.size, 4, none⟩ = some (.int .i64 (me)) := (blk_cell B17 4).trans rfl
  have cB17f0 := blk_frozen B17 0
  have cB17f1 := blk_frozen B17 1
  have cB17f2 := blk_frozen B17 2
  have cB17f3 := blk_frozen B17 3
  have cB17f4 := blk_frozen B17 4
  have cB17lt : wE.heap.size < wF.heap.size := blk_lt B17
  go_wp2_with fail
  clear cB130 cB13f0 cB131 cB13f1 cB132 cB13f2 cB133 cB13f3 cB134 cB13f4 cB13lt
  clear cB140 cB14f0 cB141 cB14f1 cB142 cB14f2 cB143 cB14f3 cB144 cB14f4 cB14lt
  clear cB150 cB15f0 cB151 cB15f1 cB152 cB15f2 cB153 cB15f3 cB154 cB15f4 cB15lt
  clear cB170 cB17f0 cB171 cB17f1 cB172 cB17f2 cB173 cB17f3 cB174 cB17f4 cB17lt
  (with_reducible refine (span_Span_int64_Has.calls _ _ _ _ _ C6.out).mono ?_)
  rintro e wG ⟨rfl, hbwG⟩
  have nB13 := blk_below (g := wB.heap.size) (o := .cells #[.string key, .bool true, .string (⟨#[118]⟩ : ByteArray), .int .i64 lo, .int .i64 (lo + 1 + a % 16)] 38 (0, 0)) (B13) hbwG
  have nB14 := blk_below (g := wC.heap.size) (o := .cells #[.string key, .bool true, .string (⟨#[118]⟩ : ByteArray), .int .i64 lo, .int .i64 (4611686018427387904)] 38 (0, 0)) (B14) hbwG
  have nB15 := blk_below (g := wD.heap.size) (o := .cells #[.string key, .bool true, .string (⟨#[118]⟩ : ByteArray), .int .i64 lo, .int .i64 (me)] 38 (0, 0)) (B15) hbwG
  have nB17 := blk_below (g := wE.heap.size) (o := .cells #[.string key, .bool true, .string (⟨#[118]⟩ : ByteArray), .int .i64 lo, .int .i64 (me)] 38 (0, 0)) (B17) hbwG
  have nHB := bt (HB) hbwG
  clear HB hbwG
  have HB := nHB
  clear nHB
  try clear B13
  have B13 := nB13
  clear nB13
  try clear B14
  have B14 := nB14
  clear nB14
  try clear B15
  have B15 := nB15
  clear nB15
  try clear B17
  have B17 := nB17
  clear nB17
  have cB130 : wG.cell? ⟨wB.heap.size, 0, none⟩ = some (.string key) := (blk_cell B13 0).trans rfl
  have cB131 : wG.cell? ⟨wB.heap.size, 1, none⟩ = some (.bool true) := (blk_cell B13 1).trans rfl
  have cB132 : wG.cell? ⟨wB.heap.size, 2, none⟩ = some (.string (⟨#[118]⟩ : ByteArray)) := (blk_cell B13 2).trans rfl
  have cB133 : wG.cell? ⟨wB.heap.size, 3, none⟩ = some (.int .i64 lo) := (blk_cell B13 3).trans rfl
  have cB134 : wG.cell? ⟨wB.heap.size, 4, none⟩ = some (.int .i64 (lo + 1 + a % 16)) := (blk_cell B13 4).trans rfl
  have cB13f0 := blk_frozen B13 0
  have cB13f1 := blk_frozen B13 1
  have cB13f2 := blk_frozen B13 2
  have cB13f3 := blk_frozen B13 3
  have cB13f4 := blk_frozen B13 4
  have cB13lt : wB.heap.size < wG.heap.size := blk_lt B13
  have cB140 : wG.cell? ⟨wC.heap.size, 0, none⟩ = some (.string key) := (blk_cell B14 0).trans rfl
  have cB141 : wG.cell? ⟨wC.heap.size, 1, none⟩ = some (.bool true) := (blk_cell B14 1).trans rfl
  have cB142 : wG.cell? ⟨wC.heap.size, 2, none⟩ = some (.string (⟨#[118]⟩ : ByteArray)) := (blk_cell B14 2).trans rfl
  have cB143 : wG.cell? ⟨wC.heap.size, 3, none⟩ = some (.int .i64 lo) := (blk_cell B14 3).trans rfl
  have cB144 : wG.cell? ⟨wC.heap.size, 4, none⟩ = some (.int .i64 (4611686018427387904)) := (blk_cell B14 4).trans rfl
  have cB14f0 := blk_frozen B14 0
  have cB14f1 := blk_frozen B14 1
  have cB14f2 := blk_frozen B14 2
  have cB14f3 := blk_frozen B14 3
  have cB14f4 := blk_frozen B14 4
  have cB14lt : wC.heap.size < wG.heap.size := blk_lt B14
  have cB150 : wG.cell? ⟨wD.heap.size, 0, none⟩ = some (.string key) := (blk_cell B15 0).trans rfl
  have cB151 : wG.cell? ⟨wD.heap.size, 1, none⟩ = some (.bool true) := (blk_cell B15 1).trans rfl
  have cB152 : wG.cell? ⟨wD.heap.size, 2, none⟩ = some (.string (⟨#[118]⟩ : ByteArray)) := (blk_cell B15 2).trans rfl
  have cB153 : wG.cell? ⟨wD.heap.size, 3, none⟩ = some (.int .i64 lo) := (blk_cell B15 3).trans rfl
  have cB154 : wG.cell? ⟨wD.heap.size, 4, none⟩ = some (.int .i64 (me)) := (blk_cell B15 4).trans rfl
  have cB15f0 := blk_frozen B15 0
  have cB15f1 := blk_frozen B15 1
  have cB15f2 := blk_frozen B15 2
  have cB15f3 := blk_frozen B15 3
  have cB15f4 := blk_frozen B15 4
  have cB15lt : wD.heap.size < wG.heap.size := blk_lt B15
  have cB170 : wG.cell? ⟨wE.heap.size, 0, none⟩ = some (.string key) := (blk_cell B17 0).trans rfl
  have cB171 : wG.cell? ⟨wE.heap.size, 1, none⟩ = some (.bool true) := (blk_cell B17 1).trans rfl
  have cB172 : wG.cell? ⟨wE.heap.size, 2, none⟩ = some (.string (⟨#[118]⟩ : ByteArray)) := (blk_cell B17 2).trans rfl
  have cB173 : wG.cell? ⟨wE.heap.size, 3, none⟩ = some (.int .i64 lo) := (blk_cell B17 3).trans rfl
  have cB174 : wG.cell? ⟨wE.heap.size, 4, none⟩ = some (.int .i64 (me)) := (blk_cell B17 4).trans rfl
  have cB17f0 := blk_frozen B17 0
  have cB17f1 := blk_frozen B17 1
  have cB17f2 := blk_frozen B17 2
  have cB17f3 := blk_frozen B17 3
  have cB17f4 := blk_frozen B17 4
  have cB17lt : wE.heap.size < wG.heap.size := blk_lt B17
  go_wp2_with fail
  clear cB130 cB13f0 cB131 cB13f1 cB132 cB13f2 cB133 cB13f3 cB134 cB13f4 cB13lt
  clear cB140 cB14f0 cB141 cB14f1 cB142 cB14f2 cB143 cB14f3 cB144 cB14f4 cB14lt
  clear cB150 cB15f0 cB151 cB15f1 cB152 cB15f2 cB153 cB15f3 cB154 cB15f4 cB15lt
  clear cB170 cB17f0 cB171 cB17f1 cB172 cB17f2 cB173 cB17f3 cB174 cB17f4 cB17lt
  (with_reducible refine (fact_Known.calls _ _ _ _ _ _ _ _ _ C5.out).mono ?_)
  rintro e wJ ⟨rfl, hbwJ⟩
  have nB13 := blk_below (g := wB.heap.size) (o := .cells #[.string key, .bool true, .string (⟨#[118]⟩ : ByteArray), .int .i64 lo, .int .i64 (lo + 1 + a % 16)] 38 (0, 0)) (B13) hbwJ
  have nB14 := blk_below (g := wC.heap.size) (o := .cells #[.string key, .bool true, .string (⟨#[118]⟩ : ByteArray), .int .i64 lo, .int .i64 (4611686018427387904)] 38 (0, 0)) (B14) hbwJ
  have nB15 := blk_below (g := wD.heap.size) (o := .cells #[.string key, .bool true, .string (⟨#[118]⟩ : ByteArray), .int .i64 lo, .int .i64 (me)] 38 (0, 0)) (B15) hbwJ
  have nB17 := blk_below (g := wE.heap.size) (o := .cells #[.string key, .bool true, .string (⟨#[118]⟩ : ByteArray), .int .i64 lo, .int .i64 (me)] 38 (0, 0)) (B17) hbwJ
  have nHB := bt (HB) hbwJ
  clear HB hbwJ
  have HB := nHB
  clear nHB
  try clear B13
  have B13 := nB13
  clear nB13
  try clear B14
  have B14 := nB14
  clear nB14
  try clear B15
  have B15 := nB15
  clear nB15
  try clear B17
  have B17 := nB17
  clear nB17
  have cB130 : wJ.cell? ⟨wB.heap.size, 0, none⟩ = some (.string key) := (blk_cell B13 0).trans rfl
  have cB131 : wJ.cell? ⟨wB.heap.size, 1, none⟩ = some (.bool true) := (blk_cell B13 1).trans rfl
  have cB132 : wJ.cell? ⟨wB.heap.size, 2, none⟩ = some (.string (⟨#[118]⟩ : ByteArray)) := (blk_cell B13 2).trans rfl
  have cB133 : wJ.cell? ⟨wB.heap.size, 3, none⟩ = some (.int .i64 lo) := (blk_cell B13 3).trans rfl
  have cB134 : wJ.cell? ⟨wB.heap.size, 4, none⟩ = some (.int .i64 (lo + 1 + a % 16)) := (blk_cell B13 4).trans rfl
  have cB13f0 := blk_frozen B13 0
  have cB13f1 := blk_frozen B13 1
  have cB13f2 := blk_frozen B13 2
  have cB13f3 := blk_frozen B13 3
  have cB13f4 := blk_frozen B13 4
  have cB13lt : wB.heap.size < wJ.heap.size := blk_lt B13
  have cB140 : wJ.cell? ⟨wC.heap.size, 0, none⟩ = some (.string key) := (blk_cell B14 0).trans rfl
  have cB141 : wJ.cell? ⟨wC.heap.size, 1, none⟩ = some (.bool true) := (blk_cell B14 1).trans rfl
  have cB142 : wJ.cell? ⟨wC.heap.size, 2, none⟩ = some (.string (⟨#[118]⟩ : ByteArray)) := (blk_cell B14 2).trans rfl
  have cB143 : wJ.cell? ⟨wC.heap.size, 3, none⟩ = some (.int .i64 lo) := (blk_cell B14 3).trans rfl
  have cB144 : wJ.cell? ⟨wC.heap.size, 4, none⟩ = some (.int .i64 (4611686018427387904)) := (blk_cell B14 4).trans rfl
  have cB14f0 := blk_frozen B14 0
  have cB14f1 := blk_frozen B14 1
  have cB14f2 := blk_frozen B14 2
  have cB14f3 := blk_frozen B14 3
  have cB14f4 := blk_frozen B14 4
  have cB14lt : wC.heap.size < wJ.heap.size := blk_lt B14
  have cB150 : wJ.cell? ⟨wD.heap.size, 0, none⟩ = some (.string key) := (blk_cell B15 0).trans rfl
  have cB151 : wJ.cell? ⟨wD.heap.size, 1, none⟩ = some (.bool true) := (blk_cell B15 1).trans rfl
  have cB152 : wJ.cell? ⟨wD.heap.size, 2, none⟩ = some (.string (⟨#[118]⟩ : ByteArray)) := (blk_cell B15 2).trans rfl
  have cB153 : wJ.cell? ⟨wD.heap.size, 3, none⟩ = some (.int .i64 lo) := (blk_cell B15 3).trans rfl
  have cB154 : wJ.cell? ⟨wD.heap.size, 4, none⟩ = some (.int .i64 (me)) := (blk_cell B15 4).trans rfl
  have cB15f0 := blk_frozen B15 0
  have cB15f1 := blk_frozen B15 1
  have cB15f2 := blk_frozen B15 2
  have cB15f3 := blk_frozen B15 3
  have cB15f4 := blk_frozen B15 4
  have cB15lt : wD.heap.size < wJ.heap.size := blk_lt B15
  have cB170 : wJ.cell? ⟨wE.heap.size, 0, none⟩ = some (.string key) := (blk_cell B17 0).trans rfl
  have cB171 : wJ.cell? ⟨wE.heap.size, 1, none⟩ = some (.bool true) := (blk_cell B17 1).trans rfl
  have cB172 : wJ.cell? ⟨wE.heap.size, 2, none⟩ = some (.string (⟨#[118]⟩ : ByteArray)) := (blk_cell B17 2).trans rfl
  have cB173 : wJ.cell? ⟨wE.heap.size, 3, none⟩ = some (.int .i64 lo) := (blk_cell B17 3).trans rfl
  have cB174 : wJ.cell? ⟨wE.heap.size, 4, none⟩ = some (.int .i64 (me)) := (blk_cell B17 4).trans rfl
  have cB17f0 := blk_frozen B17 0
  have cB17f1 := blk_frozen B17 1
  have cB17f2 := blk_frozen B17 2
  have cB17f3 := blk_frozen B17 3
  have cB17f4 := blk_frozen B17 4
  have cB17lt : wE.heap.size < wJ.heap.size := blk_lt B17
  go_wp2_with fail
  clear cB130 cB13f0 cB131 cB13f1 cB132 cB13f2 cB133 cB13f3 cB134 cB13f4 cB13lt
  clear cB140 cB14f0 cB141 cB14f1 cB142 cB14f2 cB143 cB14f3 cB144 cB14f4 cB14lt
  clear cB150 cB15f0 cB151 cB15f1 cB152 cB15f2 cB153 cB15f3 cB154 cB15f4 cB15lt
  clear cB170 cB17f0 cB171 cB17f1 cB172 cB17f2 cB173 cB17f3 cB174 cB17f4 cB17lt
  (with_reducible refine (span_Span_int64_Has.calls _ _ _ _ _ C8.out).mono ?_)
  rintro e wK ⟨rfl, hbwK⟩
  have nB13 := blk_below (g := wB.heap.size) (o := .cells #[.string key, .bool true, .string (⟨#[118]⟩ : ByteArray), .int .i64 lo, .int .i64 (lo + 1 + a % 16)] 38 (0, 0)) (B13) hbwK
  have nB14 := blk_below (g := wC.heap.size) (o := .cells #[.string key, .bool true, .string (⟨#[118]⟩ : ByteArray), .int .i64 lo, .int .i64 (4611686018427387904)] 38 (0, 0)) (B14) hbwK
  have nB15 := blk_below (g := wD.heap.size) (o := .cells #[.string key, .bool true, .string (⟨#[118]⟩ : ByteArray), .int .i64 lo, .int .i64 (me)] 38 (0, 0)) (B15) hbwK
  have nB17 := blk_below (g := wE.heap.size) (o := .cells #[.string key, .bool true, .string (⟨#[118]⟩ : ByteArray), .int .i64 lo, .int .i64 (me)] 38 (0, 0)) (B17) hbwK
  have nHB := bt (HB) hbwK
  clear HB hbwK
  have HB := nHB
  clear nHB
  try clear B13
  have B13 := nB13
  clear nB13
  try clear B14
  have B14 := nB14
  clear nB14
  try clear B15
  have B15 := nB15
  clear nB15
  try clear B17
  have B17 := nB17
  clear nB17
  go_wp2_with fail
  go_ret
  exact ⟨by simp, HB⟩
set_option maxHeartbeats 2000000 in
set_option maxRecDepth 100000 in
theorem walk_100 (key : ByteArray) (lo a b at_ c me x0 x1 y0 y1 z0 z1 : Int) (q : Bool) (w : World) (l0 : 0 ≤ lo) (l1 : lo ≤ 255) (a0 : 0 ≤ a) (a1 : a ≤ 255) (b0 : 0 ≤ b) (b1 : b ≤ 255) (t0 : 0 ≤ at_) (t1 : at_ ≤ 255) (c0 : 0 ≤ c) (c1 : c ≤ 255)
    (ha : 128 ≤ a) (hb : b < 128)
    (m1 : fact_Merge.f 20 key true (⟨#[118]⟩ : ByteArray) lo (4611686018427387904) key true (⟨#[118]⟩ : ByteArray) lo (lo + 1 + b % 16) at_ = some (key, true, ⟨#[118]⟩, lo, me, true)) (m2 : fact_Merge.f 20 key true (⟨#[118]⟩ : ByteArray) lo (lo + 1 + b % 16) key true (⟨#[118]⟩ : ByteArray) lo (4611686018427387904) at_ = some (key, true, ⟨#[118]⟩, lo, me, true))
    (k1 : fact_Known.f key true (⟨#[118]⟩ : ByteArray) lo (4611686018427387904) at_ = some (x0, x1)) (k2 : fact_Known.f key true (⟨#[118]⟩ : ByteArray) lo (lo + 1 + b % 16) at_ = some (y0, y1)) (k3 : fact_Known.f key true (⟨#[118]⟩ : ByteArray) lo (me) at_ = some (z0, z1))
    (h1 : span_Span_int64_Has.f x0 x1 c = some false) (h2 : span_Span_int64_Has.f y0 y1 c = some q) (h3 : span_Span_int64_Has.f z0 z1 c = some q) :
    Calls Try.prog 9 #[.string key, .int .u8 lo, .int .u8 a, .int .u8 b, .int .u8 at_, .int .u8 c] w fun e w' => e = .returned (.bool true) ∧ Below w.heap.size w w' := by
  have C1 := Aside0.mk m1
  have C2 := Aside0.mk m2
  have C3 := Aside0.mk k1
  have C4 := Aside0.mk k2
  have C5 := Aside0.mk k3
  have C6 := Aside0.mk h1
  have C7 := Aside0.mk h2
  have C8 := Aside0.mk h3
  clear m1 m2 k1 k2 k3 h1 h2 h3
  go_enter Try.func9, Try.ntmps9
  have HB := Below.refl w.heap.size w
  go_wp2_with fail
  (with_reducible refine (vouchlaw09_fixed.calls 20 true _ fixed20).mono ?_)
  rintro e wA ⟨rfl, hbwA⟩
  have nHB := bt (HB) hbwA
  clear HB hbwA
  have HB := nHB
  clear nHB
  go_wp2_with fail
  (with_reducible refine (vouchlaw09_text.calls (⟨#[118]⟩ : ByteArray) true (⟨#[118]⟩ : ByteArray) _ rfl).mono ?_)
  rintro e wB ⟨rfl, hbwB⟩
  have nHB := bt (HB) hbwB
  clear HB hbwB
  have HB := nHB
  clear nHB
  have gB : w.heap.size ≤ wB.heap.size := HB.size
  go_wp2_with fail
  (with_reducible refine (vouchlaw09_text.calls (⟨#[118]⟩ : ByteArray) true (⟨#[118]⟩ : ByteArray) _ rfl).mono ?_)
  rintro e wC ⟨rfl, hbwC⟩
  have nB13 := blk_below (g := wB.heap.size) (o := .cells #[.string key, .bool true, .string (⟨#[118]⟩ : ByteArray), .int .i64 lo, .int .i64 (lo + 1 + a % 16)] 38 (0, 0)) (blk_new _ _) hbwC
  have nHB := bt (below_alloc HB _) hbwC
  clear HB hbwC
  have HB := nHB
  clear nHB
  try clear B13
  have B13 := nB13
  clear nB13
  have ne : wB.heap.size ≠ wC.heap.size := by have := blk_lt B13; omega
  have ne' : wC.heap.size ≠ wB.heap.size := fun h => ne h.symm
  have cB130 : wC.cell? ⟨wB.heap.size, 0, none⟩ = some (.string key) := (blk_cell B13 0).trans rfl
  have cB131 : wC.cell? ⟨wB.heap.size, 1, none⟩ = some (.bool true) := (blk_cell B13 1).trans rfl
  have cB132 : wC.cell? ⟨wB.heap.size, 2, none⟩ = some (.string (⟨#[118]⟩ : ByteArray)) := (blk_cell B13 2).trans rfl
  have cB133 : wC.cell? ⟨wB.heap.size, 3, none⟩ = some (.int .i64 lo) := (blk_cell B13 3).trans rfl
  have cB134 : wC.cell? ⟨wB.heap.size, 4, none⟩ = some (.int .i64 (lo + 1 + a % 16)) := (blk_cell B13 4).trans rfl
  have cB13f0 := blk_frozen B13 0
  have cB13f1 := blk_frozen B13 1
  have cB13f2 := blk_frozen B13 2
  have cB13f3 := blk_frozen B13 3
  have cB13f4 := blk_frozen B13 4
  have cB13lt : wB.heap.size < wC.heap.size := blk_lt B13
  have geB : w.heap.size ≤ wB.heap.size := gB
  have geC : w.heap.size ≤ wC.heap.size := HB.size
  go_wp2_with fail
  clear cB130 cB13f0 cB131 cB13f1 cB132 cB13f2 cB133 cB13f3 cB134 cB13f4 cB13lt
  (with_reducible refine (fact_Merge.calls 20 _ _ _ _ _ _ _ _ _ _ _ _ _ _ _ _ _ _ C1.out).mono ?_)
  rintro e wD ⟨rfl, hbwD⟩
  have nB13 := blk_below (g := wB.heap.size) (o := .cells #[.string key, .bool true, .string (⟨#[118]⟩ : ByteArray), .int .i64 lo, .int .i64 (4611686018427387904)] 38 (0, 0)) (blk_alloc (blk_put (cs := #[.string key, .bool true, .string (⟨#[118]⟩ : ByteArray), .int .i64 lo, .int .i64 (lo + 1 + a % 16)]) B13 4 _ rfl) _) hbwD
  have nB14 := blk_below (g := wC.heap.size) (o := .cells #[.string key, .bool true, .string (⟨#[118]⟩ : ByteArray), .int .i64 lo, .int .i64 (lo + 1 + b % 16)] 38 (0, 0)) ((by have h_ := blk_new (wC.setCell ⟨wB.heap.size, 4, none⟩ (.int .i64 4611686018427387904)) (.cells #[.string key, .bool true, .string (⟨#[118]⟩ : ByteArray), .int .i64 lo, .int .i64 (lo + 1 + b % 16)] 38 (0, 0)); simpa using h_)) hbwD
  have nHB := bt (below_alloc (below_set HB geB) _) hbwD
  clear HB hbwD B13
  have HB := nHB
  have B13 := nB13
  have B14 := nB14
  clear nHB nB13 nB14
  have cB130 : wD.cell? ⟨wB.heap.size, 0, none⟩ = some (.string key) := (blk_cell B13 0).trans rfl
  have cB131 : wD.cell? ⟨wB.heap.size, 1, none⟩ = some (.bool true) := (blk_cell B13 1).trans rfl
  have cB132 : wD.cell? ⟨wB.heap.size, 2, none⟩ = some (.string (⟨#[118]⟩ : ByteArray)) := (blk_cell B13 2).trans rfl
  have cB133 : wD.cell? ⟨wB.heap.size, 3, none⟩ = some (.int .i64 lo) := (blk_cell B13 3).trans rfl
  have cB134 : wD.cell? ⟨wB.heap.size, 4, none⟩ = some (.int .i64 (4611686018427387904)) := (blk_cell B13 4).trans rfl
  have cB13f0 := blk_frozen B13 0
  have cB13f1 := blk_frozen B13 1
  have cB13f2 := blk_frozen B13 2
  have cB13f3 := blk_frozen B13 3
  have cB13f4 := blk_frozen B13 4
  have cB13lt : wB.heap.size < wD.heap.size := blk_lt B13
  have cB140 : wD.cell? ⟨wC.heap.size, 0, none⟩ = some (.string key) := (blk_cell B14 0).trans rfl
  have cB141 : wD.cell? ⟨wC.heap.size, 1, none⟩ = some (.bool true) := (blk_cell B14 1).trans rfl
  have cB142 : wD.cell? ⟨wC.heap.size, 2, none⟩ = some (.string (⟨#[118]⟩ : ByteArray)) := (blk_cell B14 2).trans rfl
  have cB143 : wD.cell? ⟨wC.heap.size, 3, none⟩ = some (.int .i64 lo) := (blk_cell B14 3).trans rfl
  have cB144 : wD.cell? ⟨wC.heap.size, 4, none⟩ = some (.int .i64 (lo + 1 + b % 16)) := (blk_cell B14 4).trans rfl
  have cB14f0 := blk_frozen B14 0
  have cB14f1 := blk_frozen B14 1
  have cB14f2 := blk_frozen B14 2
  have cB14f3 := blk_frozen B14 3
  have cB14f4 := blk_frozen B14 4
  have cB14lt : wC.heap.size < wD.heap.size := blk_lt B14
  go_wp2_with fail
  clear cB130 cB13f0 cB131 cB13f1 cB132 cB13f2 cB133 cB13f3 cB134 cB13f4 cB13lt
  clear cB140 cB14f0 cB141 cB14f1 cB142 cB14f2 cB143 cB14f3 cB144 cB14f4 cB14lt
  (with_reducible refine (fact_Merge.calls 20 _ _ _ _ _ _ _ _ _ _ _ _ _ _ _ _ _ _ C2.out).mono ?_)
  rintro e wE ⟨rfl, hbwE⟩
  have nB13 := blk_below (g := wB.heap.size) (o := .cells #[.string key, .bool true, .string (⟨#[118]⟩ : ByteArray), .int .i64 lo, .int .i64 (4611686018427387904)] 38 (0, 0)) (blk_alloc B13 _) hbwE
  have nB14 := blk_below (g := wC.heap.size) (o := .cells #[.string key, .bool true, .string (⟨#[118]⟩ : ByteArray), .int .i64 lo, .int .i64 (lo + 1 + b % 16)] 38 (0, 0)) (blk_alloc B14 _) hbwE
  have nB15 := blk_below (g := wD.heap.size) (o := .cells #[.string key, .bool true, .string (⟨#[118]⟩ : ByteArray), .int .i64 lo, .int .i64 (me)] 38 (0, 0)) (blk_new _ _) hbwE
  have nHB := bt (below_alloc HB _) hbwE
  clear HB hbwE
  have HB := nHB
  clear nHB
  try clear B13
  have B13 := nB13
  clear nB13
  try clear B14
  have B14 := nB14
  clear nB14
  try clear B15
  have B15 := nB15
  clear nB15
  have cB130 : wE.cell? ⟨wB.heap.size, 0, none⟩ = some (.string key) := (blk_cell B13 0).trans rfl
  have cB131 : wE.cell? ⟨wB.heap.size, 1, none⟩ = some (.bool true) := (blk_cell B13 1).trans rfl
  have cB132 : wE.cell? ⟨wB.heap.size, 2, none⟩ = some (.string (⟨#[118]⟩ : ByteArray)) := (blk_cell B13 2).trans rfl
  have cB133 : wE.cell? ⟨wB.heap.size, 3, none⟩ = some (.int .i64 lo) := (blk_cell B13 3).trans rfl
  have cB134 : wE.cell? ⟨wB.heap.size, 4, none⟩ = some (.int .i64 (4611686018427387904)) := (blk_cell B13 4).trans rfl
  have cB13f0 := blk_frozen B13 0
  have cB13f1 := blk_frozen B13 1
  have cB13f2 := blk_frozen B13 2
  have cB13f3 := blk_frozen B13 3
  have cB13f4 := blk_frozen B13 4
  have cB13lt : wB.heap.size < wE.heap.size := blk_lt B13
  have cB140 : wE.cell? ⟨wC.heap.size, 0, none⟩ = some (.string key) := (blk_cell B14 0).trans rfl
  have cB141 : wE.cell? ⟨wC.heap.size, 1, none⟩ = some (.bool true) := (blk_cell B14 1).trans rfl
  have cB142 : wE.cell? ⟨wC.heap.size, 2, none⟩ = some (.string (⟨#[118]⟩ : ByteArray)) := (blk_cell B14 2).trans rfl
  have cB143 : wE.cell? ⟨wC.heap.size, 3, none⟩ = some (.int .i64 lo) := (blk_cell B14 3).trans rfl
  have cB144 : wE.cell? ⟨wC.heap.size, 4, none⟩ = some (.int .i64 (lo + 1 + b % 16)) := (blk_cell B14 4).trans rfl
  have cB14f0 := blk_frozen B14 0
  have cB14f1 := blk_frozen B14 1
  have cB14f2 := blk_frozen B14 2
  have cB14f3 := blk_frozen B14 3
  have cB14f4 := blk_frozen B14 4
  have cB14lt : wC.heap.size < wE.heap.size := blk_lt B14
  have cB150 : wE.cell? ⟨wD.heap.size, 0, none⟩ = some (.string key) := (blk_cell B15 0).trans rfl
  have cB151 : wE.cell? ⟨wD.heap.size, 1, none⟩ = some (.bool true) := (blk_cell B15 1).trans rfl
  have cB152 : wE.cell? ⟨wD.heap.size, 2, none⟩ = some (.string (⟨#[118]⟩ : ByteArray)) := (blk_cell B15 2).trans rfl
  have cB153 : wE.cell? ⟨wD.heap.size, 3, none⟩ = some (.int .i64 lo) := (blk_cell B15 3).trans rfl
  have cB154 : wE.cell? ⟨wD.heap.size, 4, none⟩ = some (.int .i64 (me)) := (blk_cell B15 4).trans rfl
  have cB15f0 := blk_frozen B15 0
  have cB15f1 := blk_frozen B15 1
  have cB15f2 := blk_frozen B15 2
  have cB15f3 := blk_frozen B15 3
  have cB15f4 := blk_frozen B15 4
  have cB15lt : wD.heap.size < wE.heap.size := blk_lt B15
  go_wp2_with fail
  clear cB130 cB13f0 cB131 cB13f1 cB132 cB13f2 cB133 cB13f3 cB134 cB13f4 cB13lt
  clear cB140 cB14f0 cB141 cB14f1 cB142 cB14f2 cB143 cB14f3 cB144 cB14f4 cB14lt
  clear cB150 cB15f0 cB151 cB15f1 cB152 cB15f2 cB153 cB15f3 cB154 cB15f4 cB15lt
  (with_reducible refine (fact_Known.calls _ _ _ _ _ _ _ _ _ C3.out).mono ?_)
  rintro e wF ⟨rfl, hbwF⟩
  have nB13 := blk_below (g := wB.heap.size) (o := .cells #[.string key, .bool true, .string (⟨#[118]⟩ : ByteArray), .int .i64 lo, .int .i64 (4611686018427387904)] 38 (0, 0)) (blk_alloc B13 _) hbwF
  have nB14 := blk_below (g := wC.heap.size) (o := .cells #[.string key, .bool true, .string (⟨#[118]⟩ : ByteArray), .int .i64 lo, .int .i64 (lo + 1 + b % 16)] 38 (0, 0)) (blk_alloc B14 _) hbwF
  have nB15 := blk_below (g := wD.heap.size) (o := .cells #[.string key, .bool true, .string (⟨#[118]⟩ : ByteArray), .int .i64 lo, .int .i64 (me)] 38 (0, 0)) (blk_alloc B15 _) hbwF
  have nB17 := blk_below (g := wE.heap.size) (o := .cells #[.string key, .bool true, .string (⟨#[118]⟩ : ByteArray), .int .i64 lo, .int .i64 (me)] 38 (0, 0)) (blk_new _ _) hbwF
  have nHB := bt (below_alloc HB _) hbwF
  clear HB hbwF
  have HB := nHB
  clear nHB
  try clear B13
  have B13 := nB13
  clear nB13
  try clear B14
  have B14 := nB14
  clear nB14
  try clear B15
  have B15 := nB15
  clear nB15
  try clear B17
  have B17 := nB17
  clear nB17
  have cB130 : wF.cell? ⟨wB.heap.size, 0, none⟩ = some (.string key) := (blk_cell B13 0).trans rfl
  have cB131 : wF.cell? ⟨wB.heap.size, 1, none⟩ = some (.bool true) := (blk_cell B13 1).trans rfl
  have cB132 : wF.cell? ⟨wB.heap.size, 2, none⟩ = some (.string (⟨#[118]⟩ : ByteArray)) := (blk_cell B13 2).trans rfl
  have cB133 : wF.cell? ⟨wB.heap.size, 3, none⟩ = some (.int .i64 lo) := (blk_cell B13 3).trans rfl
  have cB134 : wF.cell? ⟨wB.heap.size, 4, none⟩ = some (.int .i64 (4611686018427387904)) := (blk_cell B13 4).trans rfl
  have cB13f0 := blk_frozen B13 0
  have cB13f1 := blk_frozen B13 1
  have cB13f2 := blk_frozen B13 2
  have cB13f3 := blk_frozen B13 3
  have cB13f4 := blk_frozen B13 4
  have cB13lt : wB.heap.size < wF.heap.size := blk_lt B13
  have cB140 : wF.cell? ⟨wC.heap.size, 0, none⟩ = some (.string key) := (blk_cell B14 0).trans rfl
  have cB141 : wF.cell? ⟨wC.heap.size, 1, none⟩ = some (.bool true) := (blk_cell B14 1).trans rfl
  have cB142 : wF.cell? ⟨wC.heap.size, 2, none⟩ = some (.string (⟨#[118]⟩ : ByteArray)) := (blk_cell B14 2).trans rfl
  have cB143 : wF.cell? ⟨wC.heap.size, 3, none⟩ = some (.int .i64 lo) := (blk_cell B14 3).trans rfl
  have cB144 : wF.cell? ⟨wC.heap.size, 4, none⟩ = some (.int .i64 (lo + 1 + b % 16)) := (blk_cell B14 4).trans rfl
  have cB14f0 := blk_frozen B14 0
  have cB14f1 := blk_frozen B14 1
  have cB14f2 := blk_frozen B14 2
  have cB14f3 := blk_frozen B14 3
  have cB14f4 := blk_frozen B14 4
  have cB14lt : wC.heap.size < wF.heap.size := blk_lt B14
  have cB150 : wF.cell? ⟨wD.heap.size, 0, none⟩ = some (.string key) := (blk_cell B15 0).trans rfl
  have cB151 : wF.cell? ⟨wD.heap.size, 1, none⟩ = some (.bool true) := (blk_cell B15 1).trans rfl
  have cB152 : wF.cell? ⟨wD.heap.size, 2, none⟩ = some (.string (⟨#[118]⟩ : ByteArray)) := (blk_cell B15 2).trans rfl
  have cB153 : wF.cell? ⟨wD.heap.size, 3, none⟩ = some (.int .i64 lo) := (blk_cell B15 3).trans rfl
  have cB154 : wF.cell? ⟨wD.heap.size, 4, none⟩ = some (.int .i64 (me)) := (blk_cell B15 4).trans rfl
  have cB15f0 := blk_frozen B15 0
  have cB15f1 := blk_frozen B15 1
  have cB15f2 := blk_frozen B15 2
  have cB15f3 := blk_frozen B15 3
  have cB15f4 := blk_frozen B15 4
  have cB15lt : wD.heap.size < wF.heap.size := blk_lt B15
  have cB170 : wF.cell? ⟨wE.heap.size, 0, none⟩ = some (.string key) := (blk_cell B17 0).trans rfl
  have cB171 : wF.cell? ⟨wE.heap.size, 1, none⟩ = some (.bool true) := (blk_cell B17 1).trans rfl
  have cB172 : wF.cell? ⟨wE.heap.size, 2, none⟩ = some (.string (⟨#[118]⟩ : ByteArray)) := (blk_cell B17 2).trans rfl
  have cB173 : wF.cell? ⟨wE.heap.size, 3, none⟩ = some (.int .i64 lo) := (blk_cell B17 3).trans rfl
  have cB174 : wF.cell? ⟨wE.heap.size, 4, none⟩ = some (.int .i64 (me)) := (blk_cell B17 4).trans rfl
  have cB17f0 := blk_frozen B17 0
  have cB17f1 := blk_frozen B17 1
  have cB17f2 := blk_frozen B17 2
  have cB17f3 := blk_frozen B17 3
  have cB17f4 := blk_frozen B17 4
  have cB17lt : wE.heap.size < wF.heap.size := blk_lt B17
  go_wp2_with fail
  clear cB130 cB13f0 cB131 cB13f1 cB132 cB13f2 cB133 cB13f3 cB134 cB13f4 cB13lt
  clear cB140 cB14f0 cB141 cB14f1 cB142 cB14f2 cB143 cB14f3 cB144 cB14f4 cB14lt
  clear cB150 cB15f0 cB151 cB15f1 cB152 cB15f2 cB153 cB15f3 cB154 cB15f4 cB15lt
  clear cB170 cB17f0 cB171 cB17f1 cB172 cB17f2 cB173 cB17f3 cB174 cB17f4 cB17lt
  (with_reducible refine (span_Span_int64_Has.calls _ _ _ _ _ C6.out).mono ?_)
  rintro e wG ⟨rfl, hbwG⟩
  have nB13 := blk_below (g := wB.heap.size) (o := .cells #[.string key, .bool true, .string (⟨#[118]⟩ : ByteArray), .int .i64 lo, .int .i64 (4611686018427387904)] 38 (0, 0)) (B13) hbwG
  have nB14 := blk_below (g := wC.heap.size) (o := .cells #[.string key, .bool true, .string (⟨#[118]⟩ : ByteArray), .int .i64 lo, .int .i64 (lo + 1 + b % 16)] 38 (0, 0)) (B14) hbwG
  have nB15 := blk_below (g := wD.heap.size) (o := .cells #[.string key, .bool true, .string (⟨#[118]⟩ : ByteArray), .int .i64 lo, .int .i64 (me)] 38 (0, 0)) (B15) hbwG
  have nB17 := blk_below (g := wE.heap.size) (o := .cells #[.string key, .bool true, .string (⟨#[118]⟩ : ByteArray), .int .i64 lo, .int .i64 (me)] 38 (0, 0)) (B17) hbwG
  have nHB := bt (HB) hbwG
  clear HB hbwG
  have HB := nHB
  clear nHB
  try clear B13
  have B13 := nB13
  clear nB13
  try clear B14
  have B14 := nB14
  clear nB14
  try clear B15
  have B15 := nB15
  clear nB15
  try clear B17
  have B17 := nB17
  clear nB17
  have cB130 : wG.cell? ⟨wB.heap.size, 0, none⟩ = some (.string key) := (blk_cell B13 0).trans rfl
  have cB131 : wG.cell? ⟨wB.heap.size, 1, none⟩ = some (.bool true) := (blk_cell B13 1).trans rfl
  have cB132 : wG.cell? ⟨wB.heap.size, 2, none⟩ = some (.string (⟨#[118]⟩ : ByteArray)) := (blk_cell B13 2).trans rfl
  have cB133 : wG.cell? ⟨wB.heap.size, 3, none⟩ = some (.int .i64 lo) := (blk_cell B13 3).trans rfl
  have cB134 : wG.cell? ⟨wB.heap.size, 4, none⟩ = some (.int .i64 (4611686018427387904)) := (blk_cell B13 4).trans rfl
  have cB13f0 := blk_frozen B13 0
  have cB13f1 := blk_frozen B13 1
  have cB13f2 := blk_frozen B13 2
  have cB13f3 := blk_frozen B13 3
  have cB13f4 := blk_frozen B13 4
  have cB13lt : wB.heap.size < wG.heap.size := blk_lt B13
  have cB140 : wG.cell? ⟨wC.heap.size, 0, none⟩ = some (.string key) := (blk_cell B14 0).trans rfl
  have cB141 : wG.cell? ⟨wC.heap.size, 1, none⟩ = some (.bool true) := (blk_cell B14 1).trans rfl
  have cB142 : wG.cell? ⟨wC.heap.size, 2, none⟩ = some (.string (⟨#[118]⟩ : ByteArray)) := (blk_cell B14 2).trans rfl
  have cB143 : wG.cell? ⟨wC.heap.size, 3, none⟩ = some (.int .i64 lo) := (blk_cell B14 3).trans rfl
  have cB144 : wG.cell? ⟨wC.heap.size, 4, none⟩ = some (.int .i64 (lo + 1 + b % 16)) := (blk_cell B14 4).trans rfl
  have cB14f0 := blk_frozen B14 0
  have cB14f1 := blk_frozen B14 1
  have cB14f2 := blk_frozen B14 2
  have cB14f3 := blk_frozen B14 3
  have cB14f4 := blk_frozen B14 4
  have cB14lt : wC.heap.size < wG.heap.size := blk_lt B14
  have cB150 : wG.cell? ⟨wD.heap.size, 0, none⟩ = some (.string key) := (blk_cell B15 0).trans rfl
  have cB151 : wG.cell? ⟨wD.heap.size, 1, none⟩ = some (.bool true) := (blk_cell B15 1).trans rfl
  have cB152 : wG.cell? ⟨wD.heap.size, 2, none⟩ = some (.string (⟨#[118]⟩ : ByteArray)) := (blk_cell B15 2).trans rfl
  have cB153 : wG.cell? ⟨wD.heap.size, 3, none⟩ = some (.int .i64 lo) := (blk_cell B15 3).trans rfl
  have cB154 : wG.cell? ⟨wD.heap.size, 4, none⟩ = some (.int .i64 (me)) := (blk_cell B15 4).trans rfl
  have cB15f0 := blk_frozen B15 0
  have cB15f1 := blk_frozen B15 1
  have cB15f2 := blk_frozen B15 2
  have cB15f3 := blk_frozen B15 3
  have cB15f4 := blk_frozen B15 4
  have cB15lt : wD.heap.size < wG.heap.size := blk_lt B15
  have cB170 : wG.cell? ⟨wE.heap.size, 0, none⟩ = some (.string key) := (blk_cell B17 0).trans rfl
  have cB171 : wG.cell? ⟨wE.heap.size, 1, none⟩ = some (.bool true) := (blk_cell B17 1).trans rfl
  have cB172 : wG.cell? ⟨wE.heap.size, 2, none⟩ = some (.string (⟨#[118]⟩ : ByteArray)) := (blk_cell B17 2).trans rfl
  have cB173 : wG.cell? ⟨wE.heap.size, 3, none⟩ = some (.int .i64 lo) := (blk_cell B17 3).trans rfl
  have cB174 : wG.cell? ⟨wE.heap.size, 4, none⟩ = some (.int .i64 (me)) := (blk_cell B17 4).trans rfl
  have cB17f0 := blk_frozen B17 0
  have cB17f1 := blk_frozen B17 1
  have cB17f2 := blk_frozen B17 2
  have cB17f3 := blk_frozen B17 3
  have cB17f4 := blk_frozen B17 4
  have cB17lt : wE.heap.size < wG.heap.size := blk_lt B17
  go_wp2_with fail
  clear cB130 cB13f0 cB131 cB13f1 cB132 cB13f2 cB133 cB13f3 cB134 cB13f4 cB13lt
  clear cB140 cB14f0 cB141 cB14f1 cB142 cB14f2 cB143 cB14f3 cB144 cB14f4 cB14lt
  clear cB150 cB15f0 cB151 cB15f1 cB152 cB15f2 cB153 cB15f3 cB154 cB15f4 cB15lt
  clear cB170 cB17f0 cB171 cB17f1 cB172 cB17f2 cB173 cB17f3 cB174 cB17f4 cB17lt
  (with_reducible refine (fact_Known.calls _ _ _ _ _ _ _ _ _ C4.out).mono ?_)
  rintro e wH ⟨rfl, hbwH⟩
  have nB13 := blk_below (g := wB.heap.size) (o := .cells #[.string key, .bool true, .string (⟨#[118]⟩ : ByteArray), .int .i64 lo, .int .i64 (4611686018427387904)] 38 (0, 0)) (B13) hbwH
  have nB14 := blk_below (g := wC.heap.size) (o := .cells #[.string key, .bool true, .string (⟨#[118]⟩ : ByteArray), .int .i64 lo, .int .i64 (lo + 1 + b % 16)] 38 (0, 0)) (B14) hbwH
  have nB15 := blk_below (g := wD.heap.size) (o := .cells #[.string key, .bool true, .string (⟨#[118]⟩ : ByteArray), .int .i64 lo, .int .i64 (me)] 38 (0, 0)) (B15) hbwH
  have nB17 := blk_below (g := wE.heap.size) (o := .cells #[.string key, .bool true, .string (⟨#[118]⟩ : ByteArray), .int .i64 lo, .int .i64 (me)] 38 (0, 0)) (B17) hbwH
  have nHB := bt (HB) hbwH
  clear HB hbwH
  have HB := nHB
  clear nHB
  try clear B13
  have B13 := nB13
  clear nB13
  try clear B14
  have B14 := nB14
  clear nB14
  try clear B15
  have B15 := nB15
  clear nB15
  try clear B17
  have B17 := nB17
  clear nB17
  have cB130 : wH.cell? ⟨wB.heap.size, 0, none⟩ = some (.string key) := (blk_cell B13 0).trans rfl
  have cB131 : wH.cell? ⟨wB.heap.size, 1, none⟩ = some (.bool true) := (blk_cell B13 1).trans rfl
  have cB132 : wH.cell? ⟨wB.heap.size, 2, none⟩ = some (.string (⟨#[118]⟩ : ByteArray)) := (blk_cell B13 2).trans rfl
  have cB133 : wH.cell? ⟨wB.heap.size, 3, none⟩ = some (.int .i64 lo) := (blk_cell B13 3).trans rfl
  have cB134 : wH.cell? ⟨wB.heap.size, 4, none⟩ = some (.int .i64 (4611686018427387904)) := (blk_cell B13 4).trans rfl
  have cB13f0 := blk_frozen B13 0
  have cB13f1 := blk_frozen B13 1
  have cB13f2 := blk_frozen B13 2
  have cB13f3 := blk_frozen B13 3
  have cB13f4 := blk_frozen B13 4
  have cB13lt : wB.heap.size < wH.heap.size := blk_lt B13
  have cB140 : wH.cell? ⟨wC.heap.size, 0, none⟩ = some (.string key) := (blk_cell B14 0).trans rfl
  have cB141 : wH.cell? ⟨wC.heap.size, 1, none⟩ = some (.bool true) := (blk_cell B14 1).trans rfl
  have cB142 : wH.cell? ⟨wC.heap.size, 2, none⟩ = some (.string (⟨#[118]⟩ : ByteArray)) := (blk_cell B14 2).trans rfl
  have cB143 : wH.cell? ⟨wC.heap.size, 3, none⟩ = some (.int .i64 lo) := (blk_cell B14 3).trans rfl
  have cB144 : wH.cell? ⟨wC.heap.size, 4, none⟩ = some (.int .i64 (lo + 1 + b % 16)) := (blk_cell B14 4).trans rfl
  have cB14f0 := blk_frozen B14 0
  have cB14f1 := blk_frozen B14 1
  have cB14f2 := blk_frozen B14 2
  have cB14f3 := blk_frozen B14 3
  have cB14f4 := blk_frozen B14 4
  have cB14lt : wC.heap.size < wH.heap.size := blk_lt B14
  have cB150 : wH.cell? ⟨wD.heap.size, 0, none⟩ = some (.string key) := (blk_cell B15 0).trans rfl
  have cB151 : wH.cell? ⟨wD.heap.size, 1, none⟩ = some (.bool true) := (blk_cell B15 1).trans rfl
  have cB152 : wH.cell? ⟨wD.heap.size, 2, none⟩ = some (.string (⟨#[118]⟩ : ByteArray)) := (blk_cell B15 2).trans rfl
  have cB153 : wH.cell? ⟨wD.heap.size, 3, none⟩ = some (.int .i64 lo) := (blk_cell B15 3).trans rfl
  have cB154 : wH.cell? ⟨wD.heap.size, 4, none⟩ = some (.int .i64 (me)) := (blk_cell B15 4).trans rfl
  have cB15f0 := blk_frozen B15 0
  have cB15f1 := blk_frozen B15 1
  have cB15f2 := blk_frozen B15 2
  have cB15f3 := blk_frozen B15 3
  have cB15f4 := blk_frozen B15 4
  have cB15lt : wD.heap.size < wH.heap.size := blk_lt B15
  have cB170 : wH.cell? ⟨wE.heap.size, 0, none⟩ = some (.string key) := (blk_cell B17 0).trans rfl
  have cB171 : wH.cell? ⟨wE.heap.size, 1, none⟩ = some (.bool true) := (blk_cell B17 1).trans rfl
  have cB172 : wH.cell? ⟨wE.heap.size, 2, none⟩ = some (.string (⟨#[118]⟩ : ByteArray)) := (blk_cell B17 2).trans rfl
  have cB173 : wH.cell? ⟨wE.heap.size, 3, none⟩ = some (.int .i64 lo) := (blk_cell B17 3).trans rfl
  have cB174 : wH.cell? ⟨wE.heap.size, 4, none⟩ = some (.int .i64 (me)) := (blk_cell B17 4).trans rfl
  have cB17f0 := blk_frozen B17 0
  have cB17f1 := blk_frozen B17 1
  have cB17f2 := blk_frozen B17 2
  have cB17f3 := blk_frozen B17 3
  have cB17f4 := blk_frozen B17 4
  have cB17lt : wE.heap.size < wH.heap.size := blk_lt B17
  go_wp2_with fail
  clear cB130 cB13f0 cB131 cB13f1 cB132 cB13f2 cB133 cB13f3 cB134 cB13f4 cB13lt
  clear cB140 cB14f0 cB141 cB14f1 cB142 cB14f2 cB143 cB14f3 cB144 cB14f4 cB14lt
  clear cB150 cB15f0 cB151 cB15f1 cB152 cB15f2 cB153 cB15f3 cB154 cB15f4 cB15lt
  clear cB170 cB17f0 cB171 cB17f1 cB172 cB17f2 cB173 cB17f3 cB174 cB17f4 cB17lt
  (with_reducible refine (span_Span_int64_Has.calls _ _ _ _ _ C7.out).mono ?_)
  rintro e wI ⟨rfl, hbwI⟩
  have nB13 := blk_below (g := wB.heap.size) (o := .cells #[.string key, .bool true, .string (⟨#[118]⟩ : ByteArray), .int .i64 lo, .int .i64 (4611686018427387904)] 38 (0, 0)) (B13) hbwI
  have nB14 := blk_below (g := wC.heap.size) (o := .cells #[.string key, .bool true, .string (⟨#[118]⟩ : ByteArray), .int .i64 lo, .int .i64 (lo + 1 + b % 16)] 38 (0, 0)) (B14) hbwI
  have nB15 := blk_below (g := wD.heap.size) (o := .cells #[.string key, .bool true, .string (⟨#[118]⟩ : ByteArray), .int .i64 lo, .int .i64 (me)] 38 (0, 0)) (B15) hbwI
  have nB17 := blk_below (g := wE.heap.size) (o := .cells #[.string key, .bool true, .string (⟨#[118]⟩ : ByteArray), .int .i64 lo, .int .i64 (me)] 38 (0, 0)) (B17) hbwI
  have nHB := bt (HB) hbwI
  clear HB hbwI
  have HB := nHB
  clear nHB
  try clear B13
  have B13 := nB13
  clear nB13
  try clear B14
  have B14 := nB14
  clear nB14
  try clear B15
  have B15 := nB15
  clear nB15
  try clear B17
  have B17 := nB17
  clear nB17
  have cB130 : wI.cell? ⟨wB.heap.size, 0, none⟩ = some (.string key) := (blk_cell B13 0).trans rfl
  have cB131 : wI.cell? ⟨wB.heap.size, 1, none⟩ = some (.bool true) := (blk_cell B13 1).trans rfl
  have cB132 : wI.cell? ⟨wB.heap.size, 2, none⟩ = some (.string (⟨#[118]⟩ : ByteArray)) := (blk_cell B13 2).trans rfl
  have cB133 : wI.cell? ⟨wB.heap.size, 3, none⟩ = some (.int .i64 lo) := (blk_cell B13 3).trans rfl
  have cB134 : wI.cell? ⟨wB.heap.size, 4, none⟩ = some (.int .i64 (4611686018427387904)) := (blk_cell B13 4).trans rfl
  have cB13f0 := blk_frozen B13 0
  have cB13f1 := blk_frozen B13 1
  have cB13f2 := blk_frozen B13 2
  have cB13f3 := blk_frozen B13 3
  have cB13f4 := blk_frozen B13 4
  have cB13lt : wB.heap.size < wI.heap.size := blk_lt B13
  have cB140 : wI.cell? ⟨wC.heap.size, 0, none⟩ = some (.string key) := (blk_cell B14 0).trans rfl
  have cB141 : wI.cell? ⟨wC.heap.size, 1, none⟩ = some (.bool true) := (blk_cell B14 1).trans rfl
  have cB142 : wI.cell? ⟨wC.heap.size, 2, none⟩ = some (.string (⟨#[118]⟩ : ByteArray)) := (blk_cell B14 2).trans rfl
  have cB143 : wI.cell? ⟨wC.heap.size, 3, none⟩ = some (.int .i64 lo) := (blk_cell B14 3).trans rfl
  have cB144 : wI.cell? ⟨wC.heap.size, 4, none⟩ = some (.int .i64 (lo + 1 + b % 16)) := (blk_cell B14 4).trans rfl
  have cB14f0 := blk_frozen B14 0
  have cB14f1 := blk_frozen B14 1
  have cB14f2 := blk_frozen B14 2
  have cB14f3 := blk_frozen B14 3
  have cB14f4 := blk_frozen B14 4
  have cB14lt : wC.heap.size < wI.heap.size := blk_lt B14
  have cB150 : wI.cell? ⟨wD.heap.size, 0, none⟩ = some (.string key) := (blk_cell B15 0).trans rfl
  have cB151 : wI.cell? ⟨wD.heap.size, 1, none⟩ = some (.bool true) := (blk_cell B15 1).trans rfl
  have cB152 : wI.cell? ⟨wD.heap.size, 2, none⟩ = some (.string (⟨#[118]⟩ : ByteArray)) := (blk_cell B15 2).trans rfl
  have cB153 : wI.cell? ⟨wD.heap.size, 3, none⟩ = some (.int .i64 lo) := (blk_cell B15 3).trans rfl
  have cB154 : wI.cell? ⟨wD.heap.size, 4, none⟩ = some (.int .i64 (me)) := (blk_cell B15 4).trans rfl
  have cB15f0 := blk_frozen B15 0
  have cB15f1 := blk_frozen B15 1
  have cB15f2 := blk_frozen B15 2
  have cB15f3 := blk_frozen B15 3
  have cB15f4 := blk_frozen B15 4
  have cB15lt : wD.heap.size < wI.heap.size := blk_lt B15
  have cB170 : wI.cell? ⟨wE.heap.size, 0, none⟩ = some (.string key) := (blk_cell B17 0).trans rfl
  have cB171 : wI.cell? ⟨wE.heap.size, 1, none⟩ = some (.bool true) := (blk_cell B17 1).trans rfl
  have cB172 : wI.cell? ⟨wE.heap.size, 2, none⟩ = some (.string (⟨#[118]⟩ : ByteArray)) := (blk_cell B17 2).trans rfl
  have cB173 : wI.cell? ⟨wE.heap.size, 3, none⟩ = some (.int .i64 lo) := (blk_cell B17 3).trans rfl
  have cB174 : wI.cell? ⟨wE.heap.size, 4, none⟩ = some (.int .i64 (me)) := (blk_cell B17 4).trans rfl
  have cB17f0 := blk_frozen B17 0
  have cB17f1 := blk_frozen B17 1
  have cB17f2 := blk_frozen B17 2
  have cB17f3 := blk_frozen B17 3
  have cB17f4 := blk_frozen B17 4
  have cB17lt : wE.heap.size < wI.heap.size := blk_lt B17
  go_wp2_with fail
  clear cB130 cB13f0 cB131 cB13f1 cB132 cB13f2 cB133 cB13f3 cB134 cB13f4 cB13lt
  clear cB140 cB14f0 cB141 cB14f1 cB142 cB14f2 cB143 cB14f3 cB144 cB14f4 cB14lt
  clear cB150 cB15f0 cB151 cB15f1 cB152 cB15f2 cB153 cB15f3 cB154 cB15f4 cB15lt
  clear cB170 cB17f0 cB171 cB17f1 cB172 cB17f2 cB173 cB17f3 cB174 cB17f4 cB17lt
  (with_reducible refine (fact_Known.calls _ _ _ _ _ _ _ _ _ C5.out).mono ?_)
  rintro e wJ ⟨rfl, hbwJ⟩
  have nB13 := blk_below (g := wB.heap.size) (o := .cells #[.string key, .bool true, .string (⟨#[118]⟩ : ByteArray), .int .i64 lo, .int .i64 (4611686018427387904)] 38 (0, 0)) (B13) hbwJ
  have nB14 := blk_below (g := wC.heap.size) (o := .cells #[.string key, .bool true, .string (⟨#[118]⟩ : ByteArray), .int .i64 lo, .int .i64 (lo + 1 + b % 16)] 38 (0, 0)) (B14) hbwJ
  have nB15 := blk_below (g := wD.heap.size) (o := .cells #[.string key, .bool true, .string (⟨#[118]⟩ : ByteArray), .int .i64 lo, .int .i64 (me)] 38 (0, 0)) (B15) hbwJ
  have nB17 := blk_below (g := wE.heap.size) (o := .cells #[.string key, .bool true, .string (⟨#[118]⟩ : ByteArray), .int .i64 lo, .int .i64 (me)] 38 (0, 0)) (B17) hbwJ
  have nHB := bt (HB) hbwJ
  clear HB hbwJ
  have HB := nHB
  clear nHB
  try clear B13
  have B13 := nB13
  clear nB13
  try clear B14
  have B14 := nB14
  clear nB14
  try clear B15
  have B15 := nB15
  clear nB15
  try clear B17
  have B17 := nB17
  clear nB17
  have cB130 : wJ.cell? ⟨wB.heap.size, 0, none⟩ = some (.string key) := (blk_cell B13 0).trans rfl
  have cB131 : wJ.cell? ⟨wB.heap.size, 1, none⟩ = some (.bool true) := (blk_cell B13 1).trans rfl
  have cB132 : wJ.cell? ⟨wB.heap.size, 2, none⟩ = some (.string (⟨#[118]⟩ : ByteArray)) := (blk_cell B13 2).trans rfl
  have cB133 : wJ.cell? ⟨wB.heap.size, 3, none⟩ = some (.int .i64 lo) := (blk_cell B13 3).trans rfl
  have cB134 : wJ.cell? ⟨wB.heap.size, 4, none⟩ = some (.int .i64 (4611686018427387904)) := (blk_cell B13 4).trans rfl
  have cB13f0 := blk_frozen B13 0
  have cB13f1 := blk_frozen B13 1
  have cB13f2 := blk_frozen B13 2
  have cB13f3 := blk_frozen B13 3
  have cB13f4 := blk_frozen B13 4
  have cB13lt : wB.heap.size < wJ.heap.size := blk_lt B13
  have cB140 : wJ.cell? ⟨wC.heap.size, 0, none⟩ = some (.string key) := (blk_cell B14 0).trans rfl
  have cB141 : wJ.cell? ⟨wC.heap.size, 1, none⟩ = some (.bool true) := (blk_cell B14 1).trans rfl
  have cB142 : wJ.cell? ⟨wC.heap.size, 2, none⟩ = some (.string (⟨#[118]⟩ : ByteArray)) := (blk_cell B14 2).trans rfl
  have cB143 : wJ.cell? ⟨wC.heap.size, 3, none⟩ = some (.int .i64 lo) := (blk_cell B14 3).trans rfl
  have cB144 : wJ.cell? ⟨wC.heap.size, 4, none⟩ = some (.int .i64 (lo + 1 + b % 16)) := (blk_cell B14 4).trans rfl
  have cB14f0 := blk_frozen B14 0
  have cB14f1 := blk_frozen B14 1
  have cB14f2 := blk_frozen B14 2
  have cB14f3 := blk_frozen B14 3
  have cB14f4 := blk_frozen B14 4
  have cB14lt : wC.heap.size < wJ.heap.size := blk_lt B14
  have cB150 : wJ.cell? ⟨wD.heap.size, 0, none⟩ = some (.string key) := (blk_cell B15 0).trans rfl
  have cB151 : wJ.cell? ⟨wD.heap.size, 1, none⟩ = some (.bool true) := (blk_cell B15 1).trans rfl
  have cB152 : wJ.cell? ⟨wD.heap.size, 2, none⟩ = some (.string (⟨#[118]⟩ : ByteArray)) := (blk_cell B15 2).trans rfl
  have cB153 : wJ.cell? ⟨wD.heap.size, 3, none⟩ = some (.int .i64 lo) := (blk_cell B15 3).trans rfl
  have cB154 : wJ.cell? ⟨wD.heap.size, 4, none⟩ = some (.int .i64 (me)) := (blk_cell B15 4).trans rfl
  have cB15f0 := blk_frozen B15 0
  have cB15f1 := blk_frozen B15 1
  have cB15f2 := blk_frozen B15 2
  have cB15f3 := blk_frozen B15 3
  have cB15f4 := blk_frozen B15 4
  have cB15lt : wD.heap.size < wJ.heap.size := blk_lt B15
  have cB170 : wJ.cell? ⟨wE.heap.size, 0, none⟩ = some (.string key) := (blk_cell B17 0).trans rfl
  have cB171 : wJ.cell? ⟨wE.heap.size, 1, none⟩ = some (.bool true) := (blk_cell B17 1).trans rfl
  have cB172 : wJ.cell? ⟨wE.heap.size, 2, none⟩ = some (.string (⟨#[118]⟩ : ByteArray)) := (blk_cell B17 2).trans rfl
  have cB173 : wJ.cell? ⟨wE.heap.size, 3, none⟩ = some (.int .i64 lo) := (blk_cell B17 3).trans rfl
  have cB174 : wJ.cell? ⟨wE.heap.size, 4, none⟩ = some (.int .i64 (me)) := (blk_cell B17 4).trans rfl
  have cB17f0 := blk_frozen B17 0
  have cB17f1 := blk_frozen B17 1
  have cB17f2 := blk_frozen B17 2
  have cB17f3 := blk_frozen B17 3
  have cB17f4 := blk_frozen B17 4
  have cB17lt : wE.heap.size < wJ.heap.size := blk_lt B17
  go_wp2_with fail
  clear cB130 cB13f0 cB131 cB13f1 cB132 cB13f2 cB133 cB13f3 cB134 cB13f4 cB13lt
  clear cB140 cB14f0 cB141 cB14f1 cB142 cB14f2 cB143 cB14f3 cB144 cB14f4 cB14lt
  clear cB150 cB15f0 cB151 cB15f1 cB152 cB15f2 cB153 cB15f3 cB154 cB15f4 cB15lt
  clear cB170 cB17f0 cB171 cB17f1 cB172 cB17f2 cB173 cB17f3 cB174 cB17f4 cB17lt
  (with_reducible refine (span_Span_int64_Has.calls _ _ _ _ _ C8.out).mono ?_)
  rintro e wK ⟨rfl, hbwK⟩
  have nB13 := blk_below (g := wB.heap.size) (o := .cells #[.string key, .bool true, .string (⟨#[118]⟩ : ByteArray), .int .i64 lo, .int .i64 (4611686018427387904)] 38 (0, 0)) (B13) hbwK
  have nB14 := blk_below (g := wC.heap.size) (o := .cells #[.string key, .bool true, .string (⟨#[118]⟩ : ByteArray), .int .i64 lo, .int .i64 (lo + 1 + b % 16)] 38 (0, 0)) (B14) hbwK
  have nB15 := blk_below (g := wD.heap.size) (o := .cells #[.string key, .bool true, .string (⟨#[118]⟩ : ByteArray), .int .i64 lo, .int .i64 (me)] 38 (0, 0)) (B15) hbwK
  have nB17 := blk_below (g := wE.heap.size) (o := .cells #[.string key, .bool true, .string (⟨#[118]⟩ : ByteArray), .int .i64 lo, .int .i64 (me)] 38 (0, 0)) (B17) hbwK
  have nHB := bt (HB) hbwK
  clear HB hbwK
  have HB := nHB
  clear nHB
  try clear B13
  have B13 := nB13
  clear nB13
  try clear B14
  have B14 := nB14
  clear nB14
  try clear B15
  have B15 := nB15
  clear nB15
  try clear B17
  have B17 := nB17
  clear nB17
  go_wp2_with fail
  go_ret
  exact ⟨by simp, HB⟩
set_option maxHeartbeats 2000000 in
set_option maxRecDepth 100000 in
theorem walk_101 (key : ByteArray) (lo a b at_ c me x0 x1 y0 y1 z0 z1 : Int) (q : Bool) (w : World) (l0 : 0 ≤ lo) (l1 : lo ≤ 255) (a0 : 0 ≤ a) (a1 : a ≤ 255) (b0 : 0 ≤ b) (b1 : b ≤ 255) (t0 : 0 ≤ at_) (t1 : at_ ≤ 255) (c0 : 0 ≤ c) (c1 : c ≤ 255)
    (ha : 128 ≤ a) (hb : b < 128)
    (m1 : fact_Merge.f 20 key true (⟨#[118]⟩ : ByteArray) lo (4611686018427387904) key true (⟨#[118]⟩ : ByteArray) lo (lo + 1 + b % 16) at_ = some (key, true, ⟨#[118]⟩, lo, me, true)) (m2 : fact_Merge.f 20 key true (⟨#[118]⟩ : ByteArray) lo (lo + 1 + b % 16) key true (⟨#[118]⟩ : ByteArray) lo (4611686018427387904) at_ = some (key, true, ⟨#[118]⟩, lo, me, true))
    (k1 : fact_Known.f key true (⟨#[118]⟩ : ByteArray) lo (4611686018427387904) at_ = some (x0, x1)) (k2 : fact_Known.f key true (⟨#[118]⟩ : ByteArray) lo (lo + 1 + b % 16) at_ = some (y0, y1)) (k3 : fact_Known.f key true (⟨#[118]⟩ : ByteArray) lo (me) at_ = some (z0, z1))
    (h1 : span_Span_int64_Has.f x0 x1 c = some true) (h2 : span_Span_int64_Has.f y0 y1 c = some q) (h3 : span_Span_int64_Has.f z0 z1 c = some true) :
    Calls Try.prog 9 #[.string key, .int .u8 lo, .int .u8 a, .int .u8 b, .int .u8 at_, .int .u8 c] w fun e w' => e = .returned (.bool true) ∧ Below w.heap.size w w' := by
  have C1 := Aside0.mk m1
  have C2 := Aside0.mk m2
  have C3 := Aside0.mk k1
  have C4 := Aside0.mk k2
  have C5 := Aside0.mk k3
  have C6 := Aside0.mk h1
  have C7 := Aside0.mk h2
  have C8 := Aside0.mk h3
  clear m1 m2 k1 k2 k3 h1 h2 h3
  go_enter Try.func9, Try.ntmps9
  have HB := Below.refl w.heap.size w
  go_wp2_with fail
  (with_reducible refine (vouchlaw09_fixed.calls 20 true _ fixed20).mono ?_)
  rintro e wA ⟨rfl, hbwA⟩
  have nHB := bt (HB) hbwA
  clear HB hbwA
  have HB := nHB
  clear nHB
  go_wp2_with fail
  (with_reducible refine (vouchlaw09_text.calls (⟨#[118]⟩ : ByteArray) true (⟨#[118]⟩ : ByteArray) _ rfl).mono ?_)
  rintro e wB ⟨rfl, hbwB⟩
  have nHB := bt (HB) hbwB
  clear HB hbwB
  have HB := nHB
  clear nHB
  have gB : w.heap.size ≤ wB.heap.size := HB.size
  go_wp2_with fail
  (with_reducible refine (vouchlaw09_text.calls (⟨#[118]⟩ : ByteArray) true (⟨#[118]⟩ : ByteArray) _ rfl).mono ?_)
  rintro e wC ⟨rfl, hbwC⟩
  have nB13 := blk_below (g := wB.heap.size) (o := .cells #[.string key, .bool true, .string (⟨#[118]⟩ : ByteArray), .int .i64 lo, .int .i64 (lo + 1 + a % 16)] 38 (0, 0)) (blk_new _ _) hbwC
  have nHB := bt (below_alloc HB _) hbwC
  clear HB hbwC
  have HB := nHB
  clear nHB
  try clear B13
  have B13 := nB13
  clear nB13
  have ne : wB.heap.size ≠ wC.heap.size := by have := blk_lt B13; omega
  have ne' : wC.heap.size ≠ wB.heap.size := fun h => ne h.symm
  have cB130 : wC.cell? ⟨wB.heap.size, 0, none⟩ = some (.string key) := (blk_cell B13 0).trans rfl
  have cB131 : wC.cell? ⟨wB.heap.size, 1, none⟩ = some (.bool true) := (blk_cell B13 1).trans rfl
  have cB132 : wC.cell? ⟨wB.heap.size, 2, none⟩ = some (.string (⟨#[118]⟩ : ByteArray)) := (blk_cell B13 2).trans rfl
  have cB133 : wC.cell? ⟨wB.heap.size, 3, none⟩ = some (.int .i64 lo) := (blk_cell B13 3).trans rfl
  have cB134 : wC.cell? ⟨wB.heap.size, 4, none⟩ = some (.int .i64 (lo + 1 + a % 16)) := (blk_cell B13 4).trans rfl
  have cB13f0 := blk_frozen B13 0
  have cB13f1 := blk_frozen B13 1
  have cB13f2 := blk_frozen B13 2
  have cB13f3 := blk_frozen B13 3
  have cB13f4 := blk_frozen B13 4
  have cB13lt : wB.heap.size < wC.heap.size := blk_lt B13
  have geB : w.heap.size ≤ wB.heap.size := gB
  have geC : w.heap.size ≤ wC.heap.size := HB.size
  go_wp2_with fail
  clear cB130 cB13f0 cB131 cB13f1 cB132 cB13f2 cB133 cB13f3 cB134 cB13f4 cB13lt
  (with_reducible refine (fact_Merge.calls 20 _ _ _ _ _ _ _ _ _ _ _ _ _ _ _ _ _ _ C1.out).mono ?_)
  rintro e wD ⟨rfl, hbwD⟩
  have nB13 := blk_below (g := wB.heap.size) (o := .cells #[.string key, .bool true, .string (⟨#[118]⟩ : ByteArray), .int .i64 lo, .int .i64 (4611686018427387904)] 38 (0, 0)) (blk_alloc (blk_put (cs := #[.string key, .bool true, .string (⟨#[118]⟩ : ByteArray), .int .i64 lo, .int .i64 (lo + 1 + a % 16)]) B13 4 _ rfl) _) hbwD
  have nB14 := blk_below (g := wC.heap.size) (o := .cells #[.string key, .bool true, .string (⟨#[118]⟩ : ByteArray), .int .i64 lo, .int .i64 (lo + 1 + b % 16)] 38 (0, 0)) ((by have h_ := blk_new (wC.setCell ⟨wB.heap.size, 4, none⟩ (.int .i64 4611686018427387904)) (.cells #[.string key, .bool true, .string (⟨#[118]⟩ : ByteArray), .int .i64 lo, .int .i64 (lo + 1 + b % 16)] 38 (0, 0)); simpa using h_)) hbwD
  have nHB := bt (below_alloc (below_set HB geB) _) hbwD
  clear HB hbwD B13
  have HB := nHB
  have B13 := nB13
  have B14 := nB14
  clear nHB nB13 nB14
  have cB130 : wD.cell? ⟨wB.heap.size, 0, none⟩ = some (.string key) := (blk_cell B13 0).trans rfl
  have cB131 : wD.cell? ⟨wB.heap.size, 1, none⟩ = some (.bool true) := (blk_cell B13 1).trans rfl
  have cB132 : wD.cell? ⟨wB.heap.size, 2, none⟩ = some (.string (⟨#[118]⟩ : ByteArray)) := (blk_cell B13 2).trans rfl
  have cB133 : wD.cell? ⟨wB.heap.size, 3, none⟩ = some (.int .i64 lo) := (blk_cell B13 3).trans rfl
  have cB134 : wD.cell? ⟨wB.heap.size, 4, none⟩ = some (.int .i64 (4611686018427387904)) := (blk_cell B13 4).trans rfl
  have cB13f0 := blk_frozen B13 0
  have cB13f1 := blk_frozen B13 1
  have cB13f2 := blk_frozen B13 2
  have cB13f3 := blk_frozen B13 3
  have cB13f4 := blk_frozen B13 4
  have cB13lt : wB.heap.size < wD.heap.size := blk_lt B13
  have cB140 : wD.cell? ⟨wC.heap.size, 0, none⟩ = some (.string key) := (blk_cell B14 0).trans rfl
  have cB141 : wD.cell? ⟨wC.heap.size, 1, none⟩ = some (.bool true) := (blk_cell B14 1).trans rfl
  have cB142 : wD.cell? ⟨wC.heap.size, 2, none⟩ = some (.string (⟨#[118]⟩ : ByteArray)) := (blk_cell B14 2).trans rfl
  have cB143 : wD.cell? ⟨wC.heap.size, 3, none⟩ = some (.int .i64 lo) := (blk_cell B14 3).trans rfl
  have cB144 : wD.cell? ⟨wC.heap.size, 4, none⟩ = some (.int .i64 (lo + 1 + b % 16)) := (blk_cell B14 4).trans rfl
  have cB14f0 := blk_frozen B14 0
  have cB14f1 := blk_frozen B14 1
  have cB14f2 := blk_frozen B14 2
  have cB14f3 := blk_frozen B14 3
  have cB14f4 := blk_frozen B14 4
  have cB14lt : wC.heap.size < wD.heap.size := blk_lt B14
  go_wp2_with fail
  clear cB130 cB13f0 cB131 cB13f1 cB132 cB13f2 cB133 cB13f3 cB134 cB13f4 cB13lt
  clear cB140 cB14f0 cB141 cB14f1 cB142 cB14f2 cB143 cB14f3 cB144 cB14f4 cB14lt
  (with_reducible refine (fact_Merge.calls 20 _ _ _ _ _ _ _ _ _ _ _ _ _ _ _ _ _ _ C2.out).mono ?_)
  rintro e wE ⟨rfl, hbwE⟩
  have nB13 := blk_below (g := wB.heap.size) (o := .cells #[.string key, .bool true, .string (⟨#[118]⟩ : ByteArray), .int .i64 lo, .int .i64 (4611686018427387904)] 38 (0, 0)) (blk_alloc B13 _) hbwE
  have nB14 := blk_below (g := wC.heap.size) (o := .cells #[.string key, .bool true, .string (⟨#[118]⟩ : ByteArray), .int .i64 lo, .int .i64 (lo + 1 + b % 16)] 38 (0, 0)) (blk_alloc B14 _) hbwE
  have nB15 := blk_below (g := wD.heap.size) (o := .cells #[.string key, .bool true, .string (⟨#[118]⟩ : ByteArray), .int .i64 lo, .int .i64 (me)] 38 (0, 0)) (blk_new _ _) hbwE
  have nHB := bt (below_alloc HB _) hbwE
  clear HB hbwE
  have HB := nHB
  clear nHB
  try clear B13
  have B13 := nB13
  clear nB13
  try clear B14
  have B14 := nB14
  clear nB14
  try clear B15
  have B15 := nB15
  clear nB15
  have cB130 : wE.cell? ⟨wB.heap.size, 0, none⟩ = some (.string key) := (blk_cell B13 0).trans rfl
  have cB131 : wE.cell? ⟨wB.heap.size, 1, none⟩ = some (.bool true) := (blk_cell B13 1).trans rfl
  have cB132 : wE.cell? ⟨wB.heap.size, 2, none⟩ = some (.string (⟨#[118]⟩ : ByteArray)) := (blk_cell B13 2).trans rfl
  have cB133 : wE.cell? ⟨wB.heap.size, 3, none⟩ = some (.int .i64 lo) := (blk_cell B13 3).trans rfl
  have cB134 : wE.cell? ⟨wB.heap.size, 4, none⟩ = some (.int .i64 (4611686018427387904)) := (blk_cell B13 4).trans rfl
  have cB13f0 := blk_frozen B13 0
  have cB13f1 := blk_frozen B13 1
  have cB13f2 := blk_frozen B13 2
  have cB13f3 := blk_frozen B13 3
  have cB13f4 := blk_frozen B13 4
  have cB13lt : wB.heap.size < wE.heap.size := blk_lt B13
  have cB140 : wE.cell? ⟨wC.heap.size, 0, none⟩ = some (.string key) := (blk_cell B14 0).trans rfl
  have cB141 : wE.cell? ⟨wC.heap.size, 1, none⟩ = some (.bool true) := (blk_cell B14 1).trans rfl
  have cB142 : wE.cell? ⟨wC.heap.size, 2, none⟩ = some (.string (⟨#[118]⟩ : ByteArray)) := (blk_cell B14 2).trans rfl
  have cB143 : wE.cell? ⟨wC.heap.size, 3, none⟩ = some (.int .i64 lo) := (blk_cell B14 3).trans rfl
  have cB144 : wE.cell? ⟨wC.heap.size, 4, none⟩ = some (.int .i64 (lo + 1 + b % 16)) := (blk_cell B14 4).trans rfl
  have cB14f0 := blk_frozen B14 0
  have cB14f1 := blk_frozen B14 1
  have cB14f2 := blk_frozen B14 2
  have cB14f3 := blk_frozen B14 3
  have cB14f4 := blk_frozen B14 4
  have cB14lt : wC.heap.size < wE.heap.size := blk_lt B14
  have cB150 : wE.cell? ⟨wD.heap.size, 0, none⟩ = some (.string key) := (blk_cell B15 0).trans rfl
  have cB151 : wE.cell? ⟨wD.heap.size, 1, none⟩ = some (.bool true) := (blk_cell B15 1).trans rfl
  have cB152 : wE.cell? ⟨wD.heap.size, 2, none⟩ = some (.string (⟨#[118]⟩ : ByteArray)) := (blk_cell B15 2).trans rfl
  have cB153 : wE.cell? ⟨wD.heap.size, 3, none⟩ = some (.int .i64 lo) := (blk_cell B15 3).trans rfl
  have cB154 : wE.cell? ⟨wD.heap.size, 4, none⟩ = some (.int .i64 (me)) := (blk_cell B15 4).trans rfl
  have cB15f0 := blk_frozen B15 0
  have cB15f1 := blk_frozen B15 1
  have cB15f2 := blk_frozen B15 2
  have cB15f3 := blk_frozen B15 3
  have cB15f4 := blk_frozen B15 4
  have cB15lt : wD.heap.size < wE.heap.size := blk_lt B15
  go_wp2_with fail
  clear cB130 cB13f0 cB131 cB13f1 cB132 cB13f2 cB133 cB13f3 cB134 cB13f4 cB13lt
  clear cB140 cB14f0 cB141 cB14f1 cB142 cB14f2 cB143 cB14f3 cB144 cB14f4 cB14lt
  clear cB150 cB15f0 cB151 cB15f1 cB152 cB15f2 cB153 cB15f3 cB154 cB15f4 cB15lt
  (with_reducible refine (fact_Known.calls _ _ _ _ _ _ _ _ _ C3.out).mono ?_)
  rintro e wF ⟨rfl, hbwF⟩
  have nB13 := blk_below (g := wB.heap.size) (o := .cells #[.string key, .bool true, .string (⟨#[118]⟩ : ByteArray), .int .i64 lo, .int .i64 (4611686018427387904)] 38 (0, 0)) (blk_alloc B13 _) hbwF
  have nB14 := blk_below (g := wC.heap.size) (o := .cells #[.string key, .bool true, .string (⟨#[118]⟩ : ByteArray), .int .i64 lo, .int .i64 (lo + 1 + b % 16)] 38 (0, 0)) (blk_alloc B14 _) hbwF
  have nB15 := blk_below (g := wD.heap.size) (o := .cells #[.string key, .bool true, .string (⟨#[118]⟩ : ByteArray), .int .i64 lo, .int .i64 (me)] 38 (0, 0)) (blk_alloc B15 _) hbwF
  have nB17 := blk_below (g := wE.heap.size) (o := .cells #[.string key, .bool true, .string (⟨#[118]⟩ : ByteArray), .int .i64 lo, .int .i64 (me)] 38 (0, 0)) (blk_new _ _) hbwF
  have nHB := bt (below_alloc HB _) hbwF
  clear HB hbwF
  have HB := nHB
  clear nHB
  try clear B13
  have B13 := nB13
  clear nB13
  try clear B14
  have B14 := nB14
  clear nB14
  try clear B15
  have B15 := nB15
  clear nB15
  try clear B17
  have B17 := nB17
  clear nB17
  have cB130 : wF.cell? ⟨wB.heap.size, 0, none⟩ = some (.string key) := (blk_cell B13 0).trans rfl
  have cB131 : wF.cell? ⟨wB.heap.size, 1, none⟩ = some (.bool true) := (blk_cell B13 1).trans rfl
  have cB132 : wF.cell? ⟨wB.heap.size, 2, none⟩ = some (.string (⟨#[118]⟩ : ByteArray)) := (blk_cell B13 2).trans rfl
  have cB133 : wF.cell? ⟨wB.heap.size, 3, none⟩ = some (.int .i64 lo) := (blk_cell B13 3).trans rfl
  have cB134 : wF.cell? ⟨wB.heap.size, 4, none⟩ = some (.int .i64 (4611686018427387904)) := (blk_cell B13 4).trans rfl
  have cB13f0 := blk_frozen B13 0
  have cB13f1 := blk_frozen B13 1
  have cB13f2 := blk_frozen B13 2
  have cB13f3 := blk_frozen B13 3
  have cB13f4 := blk_frozen B13 4
  have cB13lt : wB.heap.size < wF.heap.size := blk_lt B13
  have cB140 : wF.cell? ⟨wC.heap.size, 0, none⟩ = some (.string key) := (blk_cell B14 0).trans rfl
  have cB141 : wF.cell? ⟨wC.heap.size, 1, none⟩ = some (.bool true) := (blk_cell B14 1).trans rfl
  have cB142 : wF.cell? ⟨wC.heap.size, 2, none⟩ = some (.string (⟨#[118]⟩ : ByteArray)) := (blk_cell B14 2).trans rfl
  have cB143 : wF.cell? ⟨wC.heap.size, 3, none⟩ = some (.int .i64 lo) := (blk_cell B14 3).trans rfl
  have cB144 : wF.cell? ⟨wC.heap.size, 4, none⟩ = some (.int .i64 (lo + 1 + b % 16)) := (blk_cell B14 4).trans rfl
  have cB14f0 := blk_frozen B14 0
  have cB14f1 := blk_frozen B14 1
  have cB14f2 := blk_frozen B14 2
  have cB14f3 := blk_frozen B14 3
  have cB14f4 := blk_frozen B14 4
  have cB14lt : wC.heap.size < wF.heap.size := blk_lt B14
  have cB150 : wF.cell? ⟨wD.heap.size, 0, none⟩ = some (.string key) := (blk_cell B15 0).trans rfl
  have cB151 : wF.cell? ⟨wD.heap.size, 1, none⟩ = some (.bool true) := (blk_cell B15 1).trans rfl
  have cB152 : wF.cell? ⟨wD.heap.size, 2, none⟩ = some (.string (⟨#[118]⟩ : ByteArray)) := (blk_cell B15 2).trans rfl
  have cB153 : wF.cell? ⟨wD.heap.size, 3, none⟩ = some (.int .i64 lo) := (blk_cell B15 3).trans rfl
  have cB154 : wF.cell? ⟨wD.heap.size, 4, none⟩ = some (.int .i64 (me)) := (blk_cell B15 4).trans rfl
  have cB15f0 := blk_frozen B15 0
  have cB15f1 := blk_frozen B15 1
  have cB15f2 := blk_frozen B15 2
  have cB15f3 := blk_frozen B15 3
  have cB15f4 := blk_frozen B15 4
  have cB15lt : wD.heap.size < wF.heap.size := blk_lt B15
  have cB170 : wF.cell? ⟨wE.heap.size, 0, none⟩ = some (.string key) := (blk_cell B17 0).trans rfl
  have cB171 : wF.cell? ⟨wE.heap.size, 1, none⟩ = some (.bool true) := (blk_cell B17 1).trans rfl
  have cB172 : wF.cell? ⟨wE.heap.size, 2, none⟩ = some (.string (⟨#[118]⟩ : ByteArray)) := (blk_cell B17 2).trans rfl
  have cB173 : wF.cell? ⟨wE.heap.size, 3, none⟩ = some (.int .i64 lo) := (blk_cell B17 3).trans rfl
  have cB174 : wF.cell? ⟨wE.heap.size, 4, none⟩ = some (.int .i64 (me)) := (blk_cell B17 4).trans rfl
  have cB17f0 := blk_frozen B17 0
  have cB17f1 := blk_frozen B17 1
  have cB17f2 := blk_frozen B17 2
  have cB17f3 := blk_frozen B17 3
  have cB17f4 := blk_frozen B17 4
  have cB17lt : wE.heap.size < wF.heap.size := blk_lt B17
  go_wp2_with fail
  clear cB130 cB13f0 cB131 cB13f1 cB132 cB13f2 cB133 cB13f3 cB134 cB13f4 cB13lt
  clear cB140 cB14f0 cB141 cB14f1 cB142 cB14f2 cB143 cB14f3 cB144 cB14f4 cB14lt
  clear cB150 cB15f0 cB151 cB15f1 cB152 cB15f2 cB153 cB15f3 cB154 cB15f4 cB15lt
  clear cB170 cB17f0 cB171 cB17f1 cB172 cB17f2 cB173 cB17f3 cB174 cB17f4 cB17lt
  (with_reducible refine (span_Span_int64_Has.calls _ _ _ _ _ C6.out).mono ?_)
  rintro e wG ⟨rfl, hbwG⟩
  have nB13 := blk_below (g := wB.heap.size) (o := .cells #[.string key, .bool true, .string (⟨#[118]⟩ : ByteArray), .int .i64 lo, .int .i64 (4611686018427387904)] 38 (0, 0)) (B13) hbwG
  have nB14 := blk_below (g := wC.heap.size) (o := .cells #[.string key, .bool true, .string (⟨#[118]⟩ : ByteArray), .int .i64 lo, .int .i64 (lo + 1 + b % 16)] 38 (0, 0)) (B14) hbwG
  have nB15 := blk_below (g := wD.heap.size) (o := .cells #[.string key, .bool true, .string (⟨#[118]⟩ : ByteArray), .int .i64 lo, .int .i64 (me)] 38 (0, 0)) (B15) hbwG
  have nB17 := blk_below (g := wE.heap.size) (o := .cells #[.string key, .bool true, .string (⟨#[118]⟩ : ByteArray), .int .i64 lo, .int .i64 (me)] 38 (0, 0)) (B17) hbwG
  have nHB := bt (HB) hbwG
  clear HB hbwG
  have HB := nHB
  clear nHB
  try clear B13
  have B13 := nB13
  clear nB13
  try clear B14
  have B14 := nB14
  clear nB14
  try clear B15
  have B15 := nB15
  clear nB15
  try clear B17
  have B17 := nB17
  clear nB17
  have cB130 : wG.cell? ⟨wB.heap.size, 0, none⟩ = some (.string key) := (blk_cell B13 0).trans rfl
  have cB131 : wG.cell? ⟨wB.heap.size, 1, none⟩ = some (.bool true) := (blk_cell B13 1).trans rfl
  have cB132 : wG.cell? ⟨wB.heap.size, 2, none⟩ = some (.string (⟨#[118]⟩ : ByteArray)) := (blk_cell B13 2).trans rfl
  have cB133 : wG.cell? ⟨wB.heap.size, 3, none⟩ = some (.int .i64 lo) := (blk_cell B13 3).trans rfl
  have cB134 : wG.cell? ⟨wB.heap.size, 4, none⟩ = some (.int .i64 (4611686018427387904)) := (blk_cell B13 4).trans rfl
  have cB13f0 := blk_frozen B13 0
  have cB13f1 := blk_frozen B13 1
  have cB13f2 := blk_frozen B13 2
  have cB13f3 := blk_frozen B13 3
  have cB13f4 := blk_frozen B13 4
  have cB13lt : wB.heap.size < wG.heap.size := blk_lt B13
  have cB140 : wG.cell? ⟨wC.heap.size, 0, none⟩ = some (.string key) := (blk_cell B14 0).trans rfl
  have cB141 : wG.cell? ⟨wC.heap.size, 1, none⟩ = some (.bool true) := (blk_cell B14 1).trans rfl
  have cB142 : wG.cell? ⟨wC.heap.size, 2, none⟩ = some (.string (⟨#[118]⟩ : ByteArray)) := (blk_cell B14 2).trans rfl
  have cB143 : wG.cell? ⟨wC.heap.size, 3, none⟩ = some (.int .i64 lo) := (blk_cell B14 3).trans rfl
  have cB144 : wG.cell? ⟨wC.heap.size, 4, none⟩ = some (.int .i64 (lo + 1 + b % 16)) := (blk_cell B14 4).trans rfl
  have cB14f0 := blk_frozen B14 0
  have cB14f1 := blk_frozen B14 1
  have cB14f2 := blk_frozen B14 2
  have cB14f3 := blk_frozen B14 3
  have cB14f4 := blk_frozen B14 4
  have cB14lt : wC.heap.size < wG.heap.size := blk_lt B14
  have cB150 : wG.cell? ⟨wD.heap.size, 0, none⟩ = some (.string key) := (blk_cell B15 0).trans rfl
  have cB151 : wG.cell? ⟨wD.heap.size, 1, none⟩ = some (.bool true) := (blk_cell B15 1).trans rfl
  have cB152 : wG.cell? ⟨wD.heap.size, 2, none⟩ = some (.string (⟨#[118]⟩ : ByteArray)) := (blk_cell B15 2).trans rfl
  have cB153 : wG.cell? ⟨wD.heap.size, 3, none⟩ = some (.int .i64 lo) := (blk_cell B15 3).trans rfl
  have cB154 : wG.cell? ⟨wD.heap.size, 4, none⟩ = some (.int .i64 (me)) := (blk_cell B15 4).trans rfl
  have cB15f0 := blk_frozen B15 0
  have cB15f1 := blk_frozen B15 1
  have cB15f2 := blk_frozen B15 2
  have cB15f3 := blk_frozen B15 3
  have cB15f4 := blk_frozen B15 4
  have cB15lt : wD.heap.size < wG.heap.size := blk_lt B15
  have cB170 : wG.cell? ⟨wE.heap.size, 0, none⟩ = some (.string key) := (blk_cell B17 0).trans rfl
  have cB171 : wG.cell? ⟨wE.heap.size, 1, none⟩ = some (.bool true) := (blk_cell B17 1).trans rfl
  have cB172 : wG.cell? ⟨wE.heap.size, 2, none⟩ = some (.string (⟨#[118]⟩ : ByteArray)) := (blk_cell B17 2).trans rfl
  have cB173 : wG.cell? ⟨wE.heap.size, 3, none⟩ = some (.int .i64 lo) := (blk_cell B17 3).trans rfl
  have cB174 : wG.cell? ⟨wE.heap.size, 4, none⟩ = some (.int .i64 (me)) := (blk_cell B17 4).trans rfl
  have cB17f0 := blk_frozen B17 0
  have cB17f1 := blk_frozen B17 1
  have cB17f2 := blk_frozen B17 2
  have cB17f3 := blk_frozen B17 3
  have cB17f4 := blk_frozen B17 4
  have cB17lt : wE.heap.size < wG.heap.size := blk_lt B17
  go_wp2_with fail
  clear cB130 cB13f0 cB131 cB13f1 cB132 cB13f2 cB133 cB13f3 cB134 cB13f4 cB13lt
  clear cB140 cB14f0 cB141 cB14f1 cB142 cB14f2 cB143 cB14f3 cB144 cB14f4 cB14lt
  clear cB150 cB15f0 cB151 cB15f1 cB152 cB15f2 cB153 cB15f3 cB154 cB15f4 cB15lt
  clear cB170 cB17f0 cB171 cB17f1 cB172 cB17f2 cB173 cB17f3 cB174 cB17f4 cB17lt
  (with_reducible refine (fact_Known.calls _ _ _ _ _ _ _ _ _ C5.out).mono ?_)
  rintro e wJ ⟨rfl, hbwJ⟩
  have nB13 := blk_below (g := wB.heap.size) (o := .cells #[.string key, .bool true, .string (⟨#[118]⟩ : ByteArray), .int .i64 lo, .int .i64 (4611686018427387904)] 38 (0, 0)) (B13) hbwJ
  have nB14 := blk_below (g := wC.heap.size) (o := .cells #[.string key, .bool true, .string (⟨#[118]⟩ : ByteArray), .int .i64 lo, .int .i64 (lo + 1 + b % 16)] 38 (0, 0)) (B14) hbwJ
  have nB15 := blk_below (g := wD.heap.size) (o := .cells #[.string key, .bool true, .string (⟨#[118]⟩ : ByteArray), .int .i64 lo, .int .i64 (me)] 38 (0, 0)) (B15) hbwJ
  have nB17 := blk_below (g := wE.heap.size) (o := .cells #[.string key, .bool true, .string (⟨#[118]⟩ : ByteArray), .int .i64 lo, .int .i64 (me)] 38 (0, 0)) (B17) hbwJ
  have nHB := bt (HB) hbwJ
  clear HB hbwJ
  have HB := nHB
  clear nHB
  try clear B13
  have B13 := nB13
  clear nB13
  try clear B14
  have B14 := nB14
  clear nB14
  try clear B15
  have B15 := nB15
  clear nB15
  try clear B17
  have B17 := nB17
  clear nB17
  have cB130 : wJ.cell? ⟨wB.heap.size, 0, none⟩ = some (.string key) := (blk_cell B13 0).trans rfl
  have cB131 : wJ.cell? ⟨wB.heap.size, 1, none⟩ = some (.bool true) := (blk_cell B13 1).trans rfl
  have cB132 : wJ.cell? ⟨wB.heap.size, 2, none⟩ = some (.string (⟨#[118]⟩ : ByteArray)) := (blk_cell B13 2).trans rfl
  have cB133 : wJ.cell? ⟨wB.heap.size, 3, none⟩ = some (.int .i64 lo) := (blk_cell B13 3).trans rfl
  have cB134 : wJ.cell? ⟨wB.heap.size, 4, none⟩ = some (.int .i64 (4611686018427387904)) := (blk_cell B13 4).trans rfl
  have cB13f0 := blk_frozen B13 0
  have cB13f1 := blk_frozen B13 1
  have cB13f2 := blk_frozen B13 2
  have cB13f3 := blk_frozen B13 3
  have cB13f4 := blk_frozen B13 4
  have cB13lt : wB.heap.size < wJ.heap.size := blk_lt B13
  have cB140 : wJ.cell? ⟨wC.heap.size, 0, none⟩ = some (.string key) := (blk_cell B14 0).trans rfl
  have cB141 : wJ.cell? ⟨wC.heap.size, 1, none⟩ = some (.bool true) := (blk_cell B14 1).trans rfl
  have cB142 : wJ.cell? ⟨wC.heap.size, 2, none⟩ = some (.string (⟨#[118]⟩ : ByteArray)) := (blk_cell B14 2).trans rfl
  have cB143 : wJ.cell? ⟨wC.heap.size, 3, none⟩ = some (.int .i64 lo) := (blk_cell B14 3).trans rfl
  have cB144 : wJ.cell? ⟨wC.heap.size, 4, none⟩ = some (.int .i64 (lo + 1 + b % 16)) := (blk_cell B14 4).trans rfl
  have cB14f0 := blk_frozen B14 0
  have cB14f1 := blk_frozen B14 1
  have cB14f2 := blk_frozen B14 2
  have cB14f3 := blk_frozen B14 3
  have cB14f4 := blk_frozen B14 4
  have cB14lt : wC.heap.size < wJ.heap.size := blk_lt B14
  have cB150 : wJ.cell? ⟨wD.heap.size, 0, none⟩ = some (.string key) := (blk_cell B15 0).trans rfl
  have cB151 : wJ.cell? ⟨wD.heap.size, 1, none⟩ = some (.bool true) := (blk_cell B15 1).trans rfl
  have cB152 : wJ.cell? ⟨wD.heap.size, 2, none⟩ = some (.string (⟨#[118]⟩ : ByteArray)) := (blk_cell B15 2).trans rfl
  have cB153 : wJ.cell? ⟨wD.heap.size, 3, none⟩ = some (.int .i64 lo) := (blk_cell B15 3).trans rfl
  have cB154 : wJ.cell? ⟨wD.heap.size, 4, none⟩ = some (.int .i64 (me)) := (blk_cell B15 4).trans rfl
  have cB15f0 := blk_frozen B15 0
  have cB15f1 := blk_frozen B15 1
  have cB15f2 := blk_frozen B15 2
  have cB15f3 := blk_frozen B15 3
  have cB15f4 := blk_frozen B15 4
  have cB15lt : wD.heap.size < wJ.heap.size := blk_lt B15
  have cB170 : wJ.cell? ⟨wE.heap.size, 0, none⟩ = some (.string key) := (blk_cell B17 0).trans rfl
  have cB171 : wJ.cell? ⟨wE.heap.size, 1, none⟩ = some (.bool true) := (blk_cell B17 1).trans rfl
  have cB172 : wJ.cell? ⟨wE.heap.size, 2, none⟩ = some (.string (⟨#[118]⟩ : ByteArray)) := (blk_cell B17 2).trans rfl
  have cB173 : wJ.cell? ⟨wE.heap.size, 3, none⟩ = some (.int .i64 lo) := (blk_cell B17 3).trans rfl
  have cB174 : wJ.cell? ⟨wE.heap.size, 4, none⟩ = some (.int .i64 (me)) := (blk_cell B17 4).trans rfl
  have cB17f0 := blk_frozen B17 0
  have cB17f1 := blk_frozen B17 1
  have cB17f2 := blk_frozen B17 2
  have cB17f3 := blk_frozen B17 3
  have cB17f4 := blk_frozen B17 4
  have cB17lt : wE.heap.size < wJ.heap.size := blk_lt B17
  go_wp2_with fail
  clear cB130 cB13f0 cB131 cB13f1 cB132 cB13f2 cB133 cB13f3 cB134 cB13f4 cB13lt
  clear cB140 cB14f0 cB141 cB14f1 cB142 cB14f2 cB143 cB14f3 cB144 cB14f4 cB14lt
  clear cB150 cB15f0 cB151 cB15f1 cB152 cB15f2 cB153 cB15f3 cB154 cB15f4 cB15lt
  clear cB170 cB17f0 cB171 cB17f1 cB172 cB17f2 cB173 cB17f3 cB174 cB17f4 cB17lt
  (with_reducible refine (span_Span_int64_Has.calls _ _ _ _ _ C8.out).mono ?_)
  rintro e wK ⟨rfl, hbwK⟩
  have nB13 := blk_below (g := wB.heap.size) (o := .cells #[.string key, .bool true, .string (⟨#[118]⟩ : ByteArray), .int .i64 lo, .int .i64 (4611686018427387904)] 38 (0, 0)) (B13) hbwK
  have nB14 := blk_below (g := wC.heap.size) (o := .cells #[.string key, .bool true, .string (⟨#[118]⟩ : ByteArray), .int .i64 lo, .int .i64 (lo + 1 + b % 16)] 38 (0, 0)) (B14) hbwK
  have nB15 := blk_below (g := wD.heap.size) (o := .cells #[.string key, .bool true, .string (⟨#[118]⟩ : ByteArray), .int .i64 lo, .int .i64 (me)] 38 (0, 0)) (B15) hbwK
  have nB17 := blk_below (g := wE.heap.size) (o := .cells #[.string key, .bool true, .string (⟨#[118]⟩ : ByteArray), .int .i64 lo, .int .i64 (me)] 38 (0, 0)) (B17) hbwK
  have nHB := bt (HB) hbwK
  clear HB hbwK
  have HB := nHB
  clear nHB
  try clear B13
  have B13 := nB13
  clear nB13
  try clear B14
  have B14 := nB14
  clear nB14
  try clear B15
  have B15 := nB15
  clear nB15
  try clear B17
  have B17 := nB17
  clear nB17
  go_wp2_with fail
  go_ret
  exact ⟨by simp, HB⟩
set_option maxHeartbeats 2000000 in
set_option maxRecDepth 100000 in
theorem walk_110 (key : ByteArray) (lo a b at_ c me x0 x1 y0 y1 z0 z1 : Int) (q : Bool) (w : World) (l0 : 0 ≤ lo) (l1 : lo ≤ 255) (a0 : 0 ≤ a) (a1 : a ≤ 255) (b0 : 0 ≤ b) (b1 : b ≤ 255) (t0 : 0 ≤ at_) (t1 : at_ ≤ 255) (c0 : 0 ≤ c) (c1 : c ≤ 255)
    (ha : 128 ≤ a) (hb : 128 ≤ b)
    (m1 : fact_Merge.f 20 key true (⟨#[118]⟩ : ByteArray) lo (4611686018427387904) key true (⟨#[118]⟩ : ByteArray) lo (4611686018427387904) at_ = some (key, true, ⟨#[118]⟩, lo, me, true)) (m2 : fact_Merge.f 20 key true (⟨#[118]⟩ : ByteArray) lo (4611686018427387904) key true (⟨#[118]⟩ : ByteArray) lo (4611686018427387904) at_ = some (key, true, ⟨#[118]⟩, lo, me, true))
    (k1 : fact_Known.f key true (⟨#[118]⟩ : ByteArray) lo (4611686018427387904) at_ = some (x0, x1)) (k2 : fact_Known.f key true (⟨#[118]⟩ : ByteArray) lo (4611686018427387904) at_ = some (y0, y1)) (k3 : fact_Known.f key true (⟨#[118]⟩ : ByteArray) lo (me) at_ = some (z0, z1))
    (h1 : span_Span_int64_Has.f x0 x1 c = some false) (h2 : span_Span_int64_Has.f y0 y1 c = some q) (h3 : span_Span_int64_Has.f z0 z1 c = some q) :
    Calls Try.prog 9 #[.string key, .int .u8 lo, .int .u8 a, .int .u8 b, .int .u8 at_, .int .u8 c] w fun e w' => e = .returned (.bool true) ∧ Below w.heap.size w w' := by
  have C1 := Aside0.mk m1
  have C2 := Aside0.mk m2
  have C3 := Aside0.mk k1
  have C4 := Aside0.mk k2
  have C5 := Aside0.mk k3
  have C6 := Aside0.mk h1
  have C7 := Aside0.mk h2
  have C8 := Aside0.mk h3
  clear m1 m2 k1 k2 k3 h1 h2 h3
  go_enter Try.func9, Try.ntmps9
  have HB := Below.refl w.heap.size w
  go_wp2_with fail
  (with_reducible refine (vouchlaw09_fixed.calls 20 true _ fixed20).mono ?_)
  rintro e wA ⟨rfl, hbwA⟩
  have nHB := bt (HB) hbwA
  clear HB hbwA
  have HB := nHB
  clear nHB
  go_wp2_with fail
  (with_reducible refine (vouchlaw09_text.calls (⟨#[118]⟩ : ByteArray) true (⟨#[118]⟩ : ByteArray) _ rfl).mono ?_)
  rintro e wB ⟨rfl, hbwB⟩
  have nHB := bt (HB) hbwB
  clear HB hbwB
  have HB := nHB
  clear nHB
  have gB : w.heap.size ≤ wB.heap.size := HB.size
  go_wp2_with fail
  (with_reducible refine (vouchlaw09_text.calls (⟨#[118]⟩ : ByteArray) true (⟨#[118]⟩ : ByteArray) _ rfl).mono ?_)
  rintro e wC ⟨rfl, hbwC⟩
  have nB13 := blk_below (g := wB.heap.size) (o := .cells #[.string key, .bool true, .string (⟨#[118]⟩ : ByteArray), .int .i64 lo, .int .i64 (lo + 1 + a % 16)] 38 (0, 0)) (blk_new _ _) hbwC
  have nHB := bt (below_alloc HB _) hbwC
  clear HB hbwC
  have HB := nHB
  clear nHB
  try clear B13
  have B13 := nB13
  clear nB13
  have ne : wB.heap.size ≠ wC.heap.size := by have := blk_lt B13; omega
  have ne' : wC.heap.size ≠ wB.heap.size := fun h => ne h.symm
  have cB130 : wC.cell? ⟨wB.heap.size, 0, none⟩ = some (.string key) := (blk_cell B13 0).trans rfl
  have cB131 : wC.cell? ⟨wB.heap.size, 1, none⟩ = some (.bool true) := (blk_cell B13 1).trans rfl
  have cB132 : wC.cell? ⟨wB.heap.size, 2, none⟩ = some (.string (⟨#[118]⟩ : ByteArray)) := (blk_cell B13 2).trans rfl
  have cB133 : wC.cell? ⟨wB.heap.size, 3, none⟩ = some (.int .i64 lo) := (blk_cell B13 3).trans rfl
  have cB134 : wC.cell? ⟨wB.heap.size, 4, none⟩ = some (.int .i64 (lo + 1 + a % 16)) := (blk_cell B13 4).trans rfl
  have cB13f0 := blk_frozen B13 0
  have cB13f1 := blk_frozen B13 1
  have cB13f2 := blk_frozen B13 2
  have cB13f3 := blk_frozen B13 3
  have cB13f4 := blk_frozen B13 4
  have cB13lt : wB.heap.size < wC.heap.size := blk_lt B13
  have geB : w.heap.size ≤ wB.heap.size := gB
  have geC : w.heap.size ≤ wC.heap.size := HB.size
  go_wp2_with fail
  clear cB130 cB13f0 cB131 cB13f1 cB132 cB13f2 cB133 cB13f3 cB134 cB13f4 cB13lt
  (with_reducible refine (fact_Merge.calls 20 _ _ _ _ _ _ _ _ _ _ _ _ _ _ _ _ _ _ C1.out).mono ?_)
  rintro e wD ⟨rfl, hbwD⟩
  have nB13 := blk_below (g := wB.heap.size) (o := .cells #[.string key, .bool true, .string (⟨#[118]⟩ : ByteArray), .int .i64 lo, .int .i64 (4611686018427387904)] 38 (0, 0)) (blk_alloc (blk_put (cs := #[.string key, .bool true, .string (⟨#[118]⟩ : ByteArray), .int .i64 lo, .int .i64 (lo + 1 + a % 16)]) B13 4 _ rfl) _) hbwD
  have nB14 := blk_below (g := wC.heap.size) (o := .cells #[.string key, .bool true, .string (⟨#[118]⟩ : ByteArray), .int .i64 lo, .int .i64 (4611686018427387904)] 38 (0, 0)) ((by have h_ := blk_new (wC.setCell ⟨wB.heap.size, 4, none⟩ (.int .i64 4611686018427387904)) (.cells #[.string key, .bool true, .string (⟨#[118]⟩ : ByteArray), .int .i64 lo, .int .i64 (4611686018427387904)] 38 (0, 0)); simpa using h_)) hbwD
  have nHB := bt (below_alloc (below_set HB geB) _) hbwD
  clear HB hbwD B13
  have HB := nHB
  have B13 := nB13
  have B14 := nB14
  clear nHB nB13 nB14
  have cB130 : wD.cell? ⟨wB.heap.size, 0, none⟩ = some (.string key) := (blk_cell B13 0).trans rfl
  have cB131 : wD.cell? ⟨wB.heap.size, 1, none⟩ = some (.bool true) := (blk_cell B13 1).trans rfl
  have cB132 : wD.cell? ⟨wB.heap.size, 2, none⟩ = some (.string (⟨#[118]⟩ : ByteArray)) := (blk_cell B13 2).trans rfl
  have cB133 : wD.cell? ⟨wB.heap.size, 3, none⟩ = some (.int .i64 lo) := (blk_cell B13 3).trans rfl
  have cB134 : wD.cell? ⟨wB.heap.size, 4, none⟩ = some (.int .i64 (4611686018427387904)) := (blk_cell B13 4).trans rfl
  have cB13f0 := blk_frozen B13 0
  have cB13f1 := blk_frozen B13 1
  have cB13f2 := blk_frozen B13 2
  have cB13f3 := blk_frozen B13 3
  have cB13f4 := blk_frozen B13 4
  have cB13lt : wB.heap.size < wD.heap.size := blk_lt B13
  have cB140 : wD.cell? ⟨wC.heap.size, 0, none⟩ = some (.string key) := (blk_cell B14 0).trans rfl
  have cB141 : wD.cell? ⟨wC.heap.size, 1, none⟩ = some (.bool true) := (blk_cell B14 1).trans rfl
  have cB142 : wD.cell? ⟨wC.heap.size, 2, none⟩ = some (.string (⟨#[118]⟩ : ByteArray)) := (blk_cell B14 2).trans rfl
  have cB143 : wD.cell? ⟨wC.heap.size, 3, none⟩ = some (.int .i64 lo) := (blk_cell B14 3).trans rfl
  have cB144 : wD.cell? ⟨wC.heap.size, 4, none⟩ = some (.int .i64 (4611686018427387904)) := (blk_cell B14 4).trans rfl
  have cB14f0 := blk_frozen B14 0
  have cB14f1 := blk_frozen B14 1
  have cB14f2 := blk_frozen B14 2
  have cB14f3 := blk_frozen B14 3
  have cB14f4 := blk_frozen B14 4
  have cB14lt : wC.heap.size < wD.heap.size := blk_lt B14
  go_wp2_with fail
  clear cB130 cB13f0 cB131 cB13f1 cB132 cB13f2 cB133 cB13f3 cB134 cB13f4 cB13lt
  clear cB140 cB14f0 cB141 cB14f1 cB142 cB14f2 cB143 cB14f3 cB144 cB14f4 cB14lt
  (with_reducible refine (fact_Merge.calls 20 _ _ _ _ _ _ _ _ _ _ _ _ _ _ _ _ _ _ C2.out).mono ?_)
  rintro e wE ⟨rfl, hbwE⟩
  have nB13 := blk_below (g := wB.heap.size) (o := .cells #[.string key, .bool true, .string (⟨#[118]⟩ : ByteArray), .int .i64 lo, .int .i64 (4611686018427387904)] 38 (0, 0)) (blk_alloc B13 _) hbwE
  have nB14 := blk_below (g := wC.heap.size) (o := .cells #[.string key, .bool true, .string (⟨#[118]⟩ : ByteArray), .int .i64 lo, .int .i64 (4611686018427387904)] 38 (0, 0)) (blk_alloc B14 _) hbwE
  have nB15 := blk_below (g := wD.heap.size) (o := .cells #[.string key, .bool true, .string (⟨#[118]⟩ : ByteArray), .int .i64 lo, .int .i64 (me)] 38 (0, 0)) (blk_new _ _) hbwE
  have nHB := bt (below_alloc HB _) hbwE
  clear HB hbwE
  have HB := nHB
  clear nHB
  try clear B13
  have B13 := nB13
  clear nB13
  try clear B14
  have B14 := nB14
  clear nB14
  try clear B15
  have B15 := nB15
  clear nB15
  have cB130 : wE.cell? ⟨wB.heap.size, 0, none⟩ = some (.string key) := (blk_cell B13 0).trans rfl
  have cB131 : wE.cell? ⟨wB.heap.size, 1, none⟩ = some (.bool true) := (blk_cell B13 1).trans rfl
  have cB132 : wE.cell? ⟨wB.heap.size, 2, none⟩ = some (.string (⟨#[118]⟩ : ByteArray)) := (blk_cell B13 2).trans rfl
  have cB133 : wE.cell? ⟨wB.heap.size, 3, none⟩ = some (.int .i64 lo) := (blk_cell B13 3).trans rfl
  have cB134 : wE.cell? ⟨wB.heap.size, 4, none⟩ = some (.int .i64 (4611686018427387904)) := (blk_cell B13 4).trans rfl
  have cB13f0 := blk_frozen B13 0
  have cB13f1 := blk_frozen B13 1
  have cB13f2 := blk_frozen B13 2
  have cB13f3 := blk_frozen B13 3
  have cB13f4 := blk_frozen B13 4
  have cB13lt : wB.heap.size < wE.heap.size := blk_lt B13
  have cB140 : wE.cell? ⟨wC.heap.size, 0, none⟩ = some (.string key) := (blk_cell B14 0).trans rfl
  have cB141 : wE.cell? ⟨wC.heap.size, 1, none⟩ = some (.bool true) := (blk_cell B14 1).trans rfl
  have cB142 : wE.cell? ⟨wC.heap.size, 2, none⟩ = some (.string (⟨#[118]⟩ : ByteArray)) := (blk_cell B14 2).trans rfl
  have cB143 : wE.cell? ⟨wC.heap.size, 3, none⟩ = some (.int .i64 lo) := (blk_cell B14 3).trans rfl
  have cB144 : wE.cell? ⟨wC.heap.size, 4, none⟩ = some (.int .i64 (4611686018427387904)) := (blk_cell B14 4).trans rfl
  have cB14f0 := blk_frozen B14 0
  have cB14f1 := blk_frozen B14 1
  have cB14f2 := blk_frozen B14 2
  have cB14f3 := blk_frozen B14 3
  have cB14f4 := blk_frozen B14 4
  have cB14lt : wC.heap.size < wE.heap.size := blk_lt B14
  have cB150 : wE.cell? ⟨wD.heap.size, 0, none⟩ = some (.string key) := (blk_cell B15 0).trans rfl
  have cB151 : wE.cell? ⟨wD.heap.size, 1, none⟩ = some (.bool true) := (blk_cell B15 1).trans rfl
  have cB152 : wE.cell? ⟨wD.heap.size, 2, none⟩ = some (.string (⟨#[118]⟩ : ByteArray)) := (blk_cell B15 2).trans rfl
  have cB153 : wE.cell? ⟨wD.heap.size, 3, none⟩ = some (.int .i64 lo) := (blk_cell B15 3).trans rfl
  have cB154 : wE.cell? ⟨wD.heap.size, 4, none⟩ = some (.int .i64 (me)) := (blk_cell B15 4).trans rfl
  have cB15f0 := blk_frozen B15 0
  have cB15f1 := blk_frozen B15 1
  have cB15f2 := blk_frozen B15 2
  have cB15f3 := blk_frozen B15 3
  have cB15f4 := blk_frozen B15 4
  have cB15lt : wD.heap.size < wE.heap.size := blk_lt B15
  go_wp2_with fail
  clear cB130 cB13f0 cB131 cB13f1 cB132 cB13f2 cB133 cB13f3 cB134 cB13f4 cB13lt
  clear cB140 cB14f0 cB141 cB14f1 cB142 cB14f2 cB143 cB14f3 cB144 cB14f4 cB14lt
  clear cB150 cB15f0 cB151 cB15f1 cB152 cB15f2 cB153 cB15f3 cB154 cB15f4 cB15lt
  (with_reducible refine (fact_Known.calls _ _ _ _ _ _ _ _ _ C3.out).mono ?_)
  rintro e wF ⟨rfl, hbwF⟩
  have nB13 := blk_below (g := wB.heap.size) (o := .cells #[.string key, .bool true, .string (⟨#[118]⟩ : ByteArray), .int .i64 lo, .int .i64 (4611686018427387904)] 38 (0, 0)) (blk_alloc B13 _) hbwF
  have nB14 := blk_below (g := wC.heap.size) (o := .cells #[.string key, .bool true, .string (⟨#[118]⟩ : ByteArray), .int .i64 lo, .int .i64 (4611686018427387904)] 38 (0, 0)) (blk_alloc B14 _) hbwF
  have nB15 := blk_below (g := wD.heap.size) (o := .cells #[.string key, .bool true, .string (⟨#[118]⟩ : ByteArray), .int .i64 lo, .int .i64 (me)] 38 (0, 0)) (blk_alloc B15 _) hbwF
  have nB17 := blk_below (g := wE.heap.size) (o := .cells #[.string key, .bool true, .string (⟨#[118]⟩ : ByteArray), .int .i64 lo, .int .i64 (me)] 38 (0, 0)) (blk_new _ _) hbwF
  have nHB := bt (below_alloc HB _) hbwF
  clear HB hbwF
  have HB := nHB
  clear nHB
  try clear B13
  have B13 := nB13
  clear nB13
  try clear B14
  have B14 := nB14
  clear nB14
  try clear B15
  have B15 := nB15
  clear nB15
  try clear B17
  have B17 := nB17
  clear nB17
  have cB130 : wF.cell? ⟨wB.heap.size, 0, none⟩ = some (.string key) := (blk_cell B13 0).trans rfl
  have cB131 : wF.cell? ⟨wB.heap.size, 1, none⟩ = some (.bool true) := (blk_cell B13 1).trans rfl
  have cB132 : wF.cell? ⟨wB.heap.size, 2, none⟩ = some (.string (⟨#[118]⟩ : ByteArray)) := (blk_cell B13 2).trans rfl
  have cB133 : wF.cell? ⟨wB.heap.size, 3, none⟩ = some (.int .i64 lo) := (blk_cell B13 3).trans rfl
  have cB134 : wF.cell? ⟨wB.heap.size, 4, none⟩ = some (.int .i64 (4611686018427387904)) := (blk_cell B13 4).trans rfl
  have cB13f0 := blk_frozen B13 0
  have cB13f1 := blk_frozen B13 1
  have cB13f2 := blk_frozen B13 2
  have cB13f3 := blk_frozen B13 3
  have cB13f4 := blk_frozen B13 4
  have cB13lt : wB.heap.size < wF.heap.size := blk_lt B13
  have cB140 : wF.cell? ⟨wC.heap.size, 0, none⟩ = some (.string key) := (blk_cell B14 0).trans rfl
  have cB141 : wF.cell? ⟨wC.heap.size, 1, none⟩ = some (.bool true) := (blk_cell B14 1).trans rfl
  have cB142 : wF.cell? ⟨wC.heap.size, 2, none⟩ = some (.string (⟨#[118]⟩ : ByteArray)) := (blk_cell B14 2).trans rfl
  have cB143 : wF.cell? ⟨wC.heap.size, 3, none⟩ = some (.int .i64 lo) := (blk_cell B14 3).trans rfl
  have cB144 : wF.cell? ⟨wC.heap.size, 4, none⟩ = some (.int .i64 (4611686018427387904)) := (blk_cell B14 4).trans rfl
  have cB14f0 := blk_frozen B14 0
  have cB14f1 := blk_frozen B14 1
  have cB14f2 := blk_frozen B14 2
  have cB14f3 := blk_frozen B14 3
  have cB14f4 := blk_frozen B14 4
  have cB14lt : wC.heap.size < wF.heap.size := blk_lt B14
  have cB150 : wF.cell? ⟨wD.heap.size, 0, none⟩ = some (.string key) := (blk_cell B15 0).trans rfl
  have cB151 : wF.cell? ⟨wD.heap.size, 1, none⟩ = some (.bool true) := (blk_cell B15 1).trans rfl
  have cB152 : wF.cell? ⟨wD.heap.size, 2, none⟩ = some (.string (⟨#[118]⟩ : ByteArray)) := (blk_cell B15 2).trans rfl
  have cB153 : wF.cell? ⟨wD.heap.size, 3, none⟩ = some (.int .i64 lo) := (blk_cell B15 3).trans rfl
  have cB154 : wF.cell? ⟨wD.heap.size, 4, none⟩ = some (.int .i64 (me)) := (blk_cell B15 4).trans rfl
  have cB15f0 := blk_frozen B15 0
  have cB15f1 := blk_frozen B15 1
  have cB15f2 := blk_frozen B15 2
  have cB15f3 := blk_frozen B15 3
  have cB15f4 := blk_frozen B15 4
  have cB15lt : wD.heap.size < wF.heap.size := blk_lt B15
  have cB170 : wF.cell? ⟨wE.heap.size, 0, none⟩ = some (.string key) := (blk_cell B17 0).trans rfl
  have cB171 : wF.cell? ⟨wE.heap.size, 1, none⟩ = some (.bool true) := (blk_cell B17 1).trans rfl
  have cB172 : wF.cell? ⟨wE.heap.size, 2, none⟩ = some (.string (⟨#[118]⟩ : ByteArray)) := (blk_cell B17 2).trans rfl
  have cB173 : wF.cell? ⟨wE.heap.size, 3, none⟩ = some (.int .i64 lo) := (blk_cell B17 3).trans rfl
  have cB174 : wF.cell? ⟨wE.heap.size, 4, none⟩ = some (.int .i64 (me)) := (blk_cell B17 4).trans rfl
  have cB17f0 := blk_frozen B17 0
  have cB17f1 := blk_frozen B17 1
  have cB17f2 := blk_frozen B17 2
  have cB17f3 := blk_frozen B17 3
  have cB17f4 := blk_frozen B17 4
  have cB17lt : wE.heap.size < wF.heap.size := blk_lt B17
  go_wp2_with fail
  clear cB130 cB13f0 cB131 cB13f1 cB132 cB13f2 cB133 cB13f3 cB134 cB13f4 cB13lt
  clear cB140 cB14f0 cB141 cB14f1 cB142 cB14f2 cB143 cB14f3 cB144 cB14f4 cB14lt
  clear cB150 cB15f0 cB151 cB15f1 cB152 cB15f2 cB153 cB15f3 cB154 cB15f4 cB15lt
  clear cB170 cB17f0 cB171 cB17f1 cB172 cB17f2 cB173 cB17f3 cB174 cB17f4 cB17lt
  (with_reducible refine (span_Span_int64_Has.calls _ _ _ _ _ C6.out).mono ?_)
  rintro e wG ⟨rfl, hbwG⟩
  have nB13 := blk_below (g := wB.heap.size) (o := .cells #[.string key, .bool true, .string (⟨#[118]⟩ : ByteArray), .int .i64 lo, .int .i64 (4611686018427387904)] 38 (0, 0)) (B13) hbwG
  have nB14 := blk_below (g := wC.heap.size) (o := .cells #[.string key, .bool true, .string (⟨#[118]⟩ : ByteArray), .int .i64 lo, .int .i64 (4611686018427387904)] 38 (0, 0)) (B14) hbwG
  have nB15 := blk_below (g := wD.heap.size) (o := .cells #[.string key, .bool true, .string (⟨#[118]⟩ : ByteArray), .int .i64 lo, .int .i64 (me)] 38 (0, 0)) (B15) hbwG
  have nB17 := blk_below (g := wE.heap.size) (o := .cells #[.string key, .bool true, .string (⟨#[118]⟩ : ByteArray), .int .i64 lo, .int .i64 (me)] 38 (0, 0)) (B17) hbwG
  have nHB := bt (HB) hbwG
  clear HB hbwG
  have HB := nHB
  clear nHB
  try clear B13
  have B13 := nB13
  clear nB13
  try clear B14
  have B14 := nB14
  clear nB14
  try clear B15
  have B15 := nB15
  clear nB15
  try clear B17
  have B17 := nB17
  clear nB17
  have cB130 : wG.cell? ⟨wB.heap.size, 0, none⟩ = some (.string key) := (blk_cell B13 0).trans rfl
  have cB131 : wG.cell? ⟨wB.heap.size, 1, none⟩ = some (.bool true) := (blk_cell B13 1).trans rfl
  have cB132 : wG.cell? ⟨wB.heap.size, 2, none⟩ = some (.string (⟨#[118]⟩ : ByteArray)) := (blk_cell B13 2).trans rfl
  have cB133 : wG.cell? ⟨wB.heap.size, 3, none⟩ = some (.int .i64 lo) := (blk_cell B13 3).trans rfl
  have cB134 : wG.cell? ⟨wB.heap.size, 4, none⟩ = some (.int .i64 (4611686018427387904)) := (blk_cell B13 4).trans rfl
  have cB13f0 := blk_frozen B13 0
  have cB13f1 := blk_frozen B13 1
  have cB13f2 := blk_frozen B13 2
  have cB13f3 := blk_frozen B13 3
  have cB13f4 := blk_frozen B13 4
  have cB13lt : wB.heap.size < wG.heap.size := blk_lt B13
  have cB140 : wG.cell? ⟨wC.heap.size, 0, none⟩ = some (.string key) := (blk_cell B14 0).trans rfl
  have cB141 : wG.cell? ⟨wC.heap.size, 1, none⟩ = some (.bool true) := (blk_cell B14 1).trans rfl
  have cB142 : wG.cell? ⟨wC.heap.size, 2, none⟩ = some (.string (⟨#[118]⟩ : ByteArray)) := (blk_cell B14 2).trans rfl
  have cB143 : wG.cell? ⟨wC.heap.size, 3, none⟩ = some (.int .i64 lo) := (blk_cell B14 3).trans rfl
  have cB144 : wG.cell? ⟨wC.heap.size, 4, none⟩ = some (.int .i64 (4611686018427387904)) := (blk_cell B14 4).trans rfl
  have cB14f0 := blk_frozen B14 0
  have cB14f1 := blk_frozen B14 1
  have cB14f2 := blk_frozen B14 2
  have cB14f3 := blk_frozen B14 3
  have cB14f4 := blk_frozen B14 4
  have cB14lt : wC.heap.size < wG.heap.size := blk_lt B14
  have cB150 : wG.cell? ⟨wD.heap.size, 0, none⟩ = some (.string key) := (blk_cell B15 0).trans rfl
  have cB151 : wG.cell? ⟨wD.heap.size, 1, none⟩ = some (.bool true) := (blk_cell B15 1).trans rfl
  have cB152 : wG.cell? ⟨wD.heap.size, 2, none⟩ = some (.string (⟨#[118]⟩ : ByteArray)) := (blk_cell B15 2).trans rfl
  have cB153 : wG.cell? ⟨wD.heap.size, 3, none⟩ = some (.int .i64 lo) := (blk_cell B15 3).trans rfl
  have cB154 : wG.cell? ⟨wD.heap.size, 4, none⟩ = some (.int .i64 (me)) := (blk_cell B15 4).trans rfl
  have cB15f0 := blk_frozen B15 0
  have cB15f1 := blk_frozen B15 1
  have cB15f2 := blk_frozen B15 2
  have cB15f3 := blk_frozen B15 3
  have cB15f4 := blk_frozen B15 4
  have cB15lt : wD.heap.size < wG.heap.size := blk_lt B15
  have cB170 : wG.cell? ⟨wE.heap.size, 0, none⟩ = some (.string key) := (blk_cell B17 0).trans rfl
  have cB171 : wG.cell? ⟨wE.heap.size, 1, none⟩ = some (.bool true) := (blk_cell B17 1).trans rfl
  have cB172 : wG.cell? ⟨wE.heap.size, 2, none⟩ = some (.string (⟨#[118]⟩ : ByteArray)) := (blk_cell B17 2).trans rfl
  have cB173 : wG.cell? ⟨wE.heap.size, 3, none⟩ = some (.int .i64 lo) := (blk_cell B17 3).trans rfl
  have cB174 : wG.cell? ⟨wE.heap.size, 4, none⟩ = some (.int .i64 (me)) := (blk_cell B17 4).trans rfl
  have cB17f0 := blk_frozen B17 0
  have cB17f1 := blk_frozen B17 1
  have cB17f2 := blk_frozen B17 2
  have cB17f3 := blk_frozen B17 3
  have cB17f4 := blk_frozen B17 4
  have cB17lt : wE.heap.size < wG.heap.size := blk_lt B17
  go_wp2_with fail
  clear cB130 cB13f0 cB131 cB13f1 cB132 cB13f2 cB133 cB13f3 cB134 cB13f4 cB13lt
  clear cB140 cB14f0 cB141 cB14f1 cB142 cB14f2 cB143 cB14f3 cB144 cB14f4 cB14lt
  clear cB150 cB15f0 cB151 cB15f1 cB152 cB15f2 cB153 cB15f3 cB154 cB15f4 cB15lt
  clear cB170 cB17f0 cB171 cB17f1 cB172 cB17f2 cB173 cB17f3 cB174 cB17f4 cB17lt
  (with_reducible refine (fact_Known.calls _ _ _ _ _ _ _ _ _ C4.out).mono ?_)
  rintro e wH ⟨rfl, hbwH⟩
  have nB13 := blk_below (g := wB.heap.size) (o := .cells #[.string key, .bool true, .string (⟨#[118]⟩ : ByteArray), .int .i64 lo, .int .i64 (4611686018427387904)] 38 (0, 0)) (B13) hbwH
  have nB14 := blk_below (g := wC.heap.size) (o := .cells #[.string key, .bool true, .string (⟨#[118]⟩ : ByteArray), .int .i64 lo, .int .i64 (4611686018427387904)] 38 (0, 0)) (B14) hbwH
  have nB15 := blk_below (g := wD.heap.size) (o := .cells #[.string key, .bool true, .string (⟨#[118]⟩ : ByteArray), .int .i64 lo, .int .i64 (me)] 38 (0, 0)) (B15) hbwH
  have nB17 := blk_below (g := wE.heap.size) (o := .cells #[.string key, .bool true, .string (⟨#[118]⟩ : ByteArray), .int .i64 lo, .int .i64 (me)] 38 (0, 0)) (B17) hbwH
  have nHB := bt (HB) hbwH
  clear HB hbwH
  have HB := nHB
  clear nHB
  try clear B13
  have B13 := nB13
  clear nB13
  try clear B14
  have B14 := nB14
  clear nB14
  try clear B15
  have B15 := nB15
  clear nB15
  try clear B17
  have B17 := nB17
  clear nB17
  have cB130 : wH.cell? ⟨wB.heap.size, 0, none⟩ = some (.string key) := (blk_cell B13 0).trans rfl
  have cB131 : wH.cell? ⟨wB.heap.size, 1, none⟩ = some (.bool true) := (blk_cell B13 1).trans rfl
  have cB132 : wH.cell? ⟨wB.heap.size, 2, none⟩ = some (.string (⟨#[118]⟩ : ByteArray)) := (blk_cell B13 2).trans rfl
  have cB133 : wH.cell? ⟨wB.heap.size, 3, none⟩ = some (.int .i64 lo) := (blk_cell B13 3).trans rfl
  have cB134 : wH.cell? ⟨wB.heap.size, 4, none⟩ = some (.int .i64 (4611686018427387904)) := (blk_cell B13 4).trans rfl
  have cB13f0 := blk_frozen B13 0
  have cB13f1 := blk_frozen B13 1
  have cB13f2 := blk_frozen B13 2
  have cB13f3 := blk_frozen B13 3
  have cB13f4 := blk_frozen B13 4
  have cB13lt : wB.heap.size < wH.heap.size := blk_lt B13
  have cB140 : wH.cell? ⟨wC.heap.size, 0, none⟩ = some (.string key) := (blk_cell B14 0).trans rfl
  have cB141 : wH.cell? ⟨wC.heap.size, 1, none⟩ = some (.bool true) := (blk_cell B14 1).trans rfl
  have cB142 : wH.cell? ⟨wC.heap.size, 2, none⟩ = some (.string (⟨#[118]⟩ : ByteArray)) := (blk_cell B14 2).trans rfl
  have cB143 : wH.cell? ⟨wC.heap.size, 3, none⟩ = some (.int .i64 lo) := (blk_cell B14 3).trans rfl
  have cB144 : wH.cell? ⟨wC.heap.size, 4, none⟩ = some (.int .i64 (4611686018427387904)) := (blk_cell B14 4).trans rfl
  have cB14f0 := blk_frozen B14 0
  have cB14f1 := blk_frozen B14 1
  have cB14f2 := blk_frozen B14 2
  have cB14f3 := blk_frozen B14 3
  have cB14f4 := blk_frozen B14 4
  have cB14lt : wC.heap.size < wH.heap.size := blk_lt B14
  have cB150 : wH.cell? ⟨wD.heap.size, 0, none⟩ = some (.string key) := (blk_cell B15 0).trans rfl
  have cB151 : wH.cell? ⟨wD.heap.size, 1, none⟩ = some (.bool true) := (blk_cell B15 1).trans rfl
  have cB152 : wH.cell? ⟨wD.heap.size, 2, none⟩ = some (.string (⟨#[118]⟩ : ByteArray)) := (blk_cell B15 2).trans rfl
  have cB153 : wH.cell? ⟨wD.heap.size, 3, none⟩ = some (.int .i64 lo) := (blk_cell B15 3).trans rfl
  have cB154 : wH.cell? ⟨wD.heap.size, 4, none⟩ = some (.int .i64 (me)) := (blk_cell B15 4).trans rfl
  have cB15f0 := blk_frozen B15 0
  have cB15f1 := blk_frozen B15 1
  have cB15f2 := blk_frozen B15 2
  have cB15f3 := blk_frozen B15 3
  have cB15f4 := blk_frozen B15 4
  have cB15lt : wD.heap.size < wH.heap.size := blk_lt B15
  have cB170 : wH.cell? ⟨wE.heap.size, 0, none⟩ = some (.string key) := (blk_cell B17 0).trans rfl
  have cB171 : wH.cell? ⟨wE.heap.size, 1, none⟩ = some (.bool true) := (blk_cell B17 1).trans rfl
  have cB172 : wH.cell? ⟨wE.heap.size, 2, none⟩ = some (.string (⟨#[118]⟩ : ByteArray)) := (blk_cell B17 2).trans rfl
  have cB173 : wH.cell? ⟨wE.heap.size, 3, none⟩ = some (.int .i64 lo) := (blk_cell B17 3).trans rfl
  have cB174 : wH.cell? ⟨wE.heap.size, 4, none⟩ = some (.int .i64 (me)) := (blk_cell B17 4).trans rfl
  have cB17f0 := blk_frozen B17 0
  have cB17f1 := blk_frozen B17 1
  have cB17f2 := blk_frozen B17 2
  have cB17f3 := blk_frozen B17 3
  have cB17f4 := blk_frozen B17 4
  have cB17lt : wE.heap.size < wH.heap.size := blk_lt B17
  go_wp2_with fail
  clear cB130 cB13f0 cB131 cB13f1 cB132 cB13f2 cB133 cB13f3 cB134 cB13f4 cB13lt
  clear cB140 cB14f0 cB141 cB14f1 cB142 cB14f2 cB143 cB14f3 cB144 cB14f4 cB14lt
  clear cB150 cB15f0 cB151 cB15f1 cB152 cB15f2 cB153 cB15f3 cB154 cB15f4 cB15lt
  clear cB170 cB17f0 cB171 cB17f1 cB172 cB17f2 cB173 cB17f3 cB174 cB17f4 cB17lt
  (with_reducible refine (span_Span_int64_Has.calls _ _ _ _ _ C7.out).mono ?_)
  rintro e wI ⟨rfl, hbwI⟩
  have nB13 := blk_below (g := wB.heap.size) (o := .cells #[.string key, .bool true, .string (⟨#[118]⟩ : ByteArray), .int .i64 lo, .int .i64 (4611686018427387904)] 38 (0, 0)) (B13) hbwI
  have nB14 := blk_below (g := wC.heap.size) (o := .cells #[.string key, .bool true, .string (⟨#[118]⟩ : ByteArray), .int .i64 lo, .int .i64 (4611686018427387904)] 38 (0, 0)) (B14) hbwI
  have nB15 := blk_below (g := wD.heap.size) (o := .cells #[.string key, .bool true, .string (⟨#[118]⟩ : ByteArray), .int .i64 lo, .int .i64 (me)] 38 (0, 0)) (B15) hbwI
  have nB17 := blk_below (g := wE.heap.size) (o := .cells #[.string key, .bool true, .string (⟨#[118]⟩ : ByteArray), .int .i64 lo, .int .i64 (me)] 38 (0, 0)) (B17) hbwI
  have nHB := bt (HB) hbwI
  clear HB hbwI
  have HB := nHB
  clear nHB
  try clear B13
  have B13 := nB13
  clear nB13
  try clear B14
  have B14 := nB14
  clear nB14
  try clear B15
  have B15 := nB15
  clear nB15
  try clear B17
  have B17 := nB17
  clear nB17
  have cB130 : wI.cell? ⟨wB.heap.size, 0, none⟩ = some (.string key) := (blk_cell B13 0).trans rfl
  have cB131 : wI.cell? ⟨wB.heap.size, 1, none⟩ = some (.bool true) := (blk_cell B13 1).trans rfl
  have cB132 : wI.cell? ⟨wB.heap.size, 2, none⟩ = some (.string (⟨#[118]⟩ : ByteArray)) := (blk_cell B13 2).trans rfl
  have cB133 : wI.cell? ⟨wB.heap.size, 3, none⟩ = some (.int .i64 lo) := (blk_cell B13 3).trans rfl
  have cB134 : wI.cell? ⟨wB.heap.size, 4, none⟩ = some (.int .i64 (4611686018427387904)) := (blk_cell B13 4).trans rfl
  have cB13f0 := blk_frozen B13 0
  have cB13f1 := blk_frozen B13 1
  have cB13f2 := blk_frozen B13 2
  have cB13f3 := blk_frozen B13 3
  have cB13f4 := blk_frozen B13 4
  have cB13lt : wB.heap.size < wI.heap.size := blk_lt B13
  have cB140 : wI.cell? ⟨wC.heap.size, 0, none⟩ = some (.string key) := (blk_cell B14 0).trans rfl
  have cB141 : wI.cell? ⟨wC.heap.size, 1, none⟩ = some (.bool true) := (blk_cell B14 1).trans rfl
  have cB142 : wI.cell? ⟨wC.heap.size, 2, none⟩ = some (.string (⟨#[118]⟩ : ByteArray)) := (blk_cell B14 2).trans rfl
  have cB143 : wI.cell? ⟨wC.heap.size, 3, none⟩ = some (.int .i64 lo) := (blk_cell B14 3).trans rfl
  have cB144 : wI.cell? ⟨wC.heap.size, 4, none⟩ = some (.int .i64 (4611686018427387904)) := (blk_cell B14 4).trans rfl
  have cB14f0 := blk_frozen B14 0
  have cB14f1 := blk_frozen B14 1
  have cB14f2 := blk_frozen B14 2
  have cB14f3 := blk_frozen B14 3
  have cB14f4 := blk_frozen B14 4
  have cB14lt : wC.heap.size < wI.heap.size := blk_lt B14
  have cB150 : wI.cell? ⟨wD.heap.size, 0, none⟩ = some (.string key) := (blk_cell B15 0).trans rfl
  have cB151 : wI.cell? ⟨wD.heap.size, 1, none⟩ = some (.bool true) := (blk_cell B15 1).trans rfl
  have cB152 : wI.cell? ⟨wD.heap.size, 2, none⟩ = some (.string (⟨#[118]⟩ : ByteArray)) := (blk_cell B15 2).trans rfl
  have cB153 : wI.cell? ⟨wD.heap.size, 3, none⟩ = some (.int .i64 lo) := (blk_cell B15 3).trans rfl
  have cB154 : wI.cell? ⟨wD.heap.size, 4, none⟩ = some (.int .i64 (me)) := (blk_cell B15 4).trans rfl
  have cB15f0 := blk_frozen B15 0
  have cB15f1 := blk_frozen B15 1
  have cB15f2 := blk_frozen B15 2
  have cB15f3 := blk_frozen B15 3
  have cB15f4 := blk_frozen B15 4
  have cB15lt : wD.heap.size < wI.heap.size := blk_lt B15
  have cB170 : wI.cell? ⟨wE.heap.size, 0, none⟩ = some (.string key) := (blk_cell B17 0).trans rfl
  have cB171 : wI.cell? ⟨wE.heap.size, 1, none⟩ = some (.bool true) := (blk_cell B17 1).trans rfl
  have cB172 : wI.cell? ⟨wE.heap.size, 2, none⟩ = some (.string (⟨#[118]⟩ : ByteArray)) := (blk_cell B17 2).trans rfl
  have cB173 : wI.cell? ⟨wE.heap.size, 3, none⟩ = some (.int .i64 lo) := (blk_cell B17 3).trans rfl
  have cB174 : wI.cell? ⟨wE.heap.size, 4, none⟩ = some (.int .i64 (me)) := (blk_cell B17 4).trans rfl
  have cB17f0 := blk_frozen B17 0
  have cB17f1 := blk_frozen B17 1
  have cB17f2 := blk_frozen B17 2
  have cB17f3 := blk_frozen B17 3
  have cB17f4 := blk_frozen B17 4
  have cB17lt : wE.heap.size < wI.heap.size := blk_lt B17
  go_wp2_with fail
  clear cB130 cB13f0 cB131 cB13f1 cB132 cB13f2 cB133 cB13f3 cB134 cB13f4 cB13lt
  clear cB140 cB14f0 cB141 cB14f1 cB142 cB14f2 cB143 cB14f3 cB144 cB14f4 cB14lt
  clear cB150 cB15f0 cB151 cB15f1 cB152 cB15f2 cB153 cB15f3 cB154 cB15f4 cB15lt
  clear cB170 cB17f0 cB171 cB17f1 cB172 cB17f2 cB173 cB17f3 cB174 cB17f4 cB17lt
  (with_reducible refine (fact_Known.calls _ _ _ _ _ _ _ _ _ C5.out).mono ?_)
  rintro e wJ ⟨rfl, hbwJ⟩
  have nB13 := blk_below (g := wB.heap.size) (o := .cells #[.string key, .bool true, .string (⟨#[118]⟩ : ByteArray), .int .i64 lo, .int .i64 (4611686018427387904)] 38 (0, 0)) (B13) hbwJ
  have nB14 := blk_below (g := wC.heap.size) (o := .cells #[.string key, .bool true, .string (⟨#[118]⟩ : ByteArray), .int .i64 lo, .int .i64 (4611686018427387904)] 38 (0, 0)) (B14) hbwJ
  have nB15 := blk_below (g := wD.heap.size) (o := .cells #[.string key, .bool true, .string (⟨#[118]⟩ : ByteArray), .int .i64 lo, .int .i64 (me)] 38 (0, 0)) (B15) hbwJ
  have nB17 := blk_below (g := wE.heap.size) (o := .cells #[.string key, .bool true, .string (⟨#[118]⟩ : ByteArray), .int .i64 lo, .int .i64 (me)] 38 (0, 0)) (B17) hbwJ
  have nHB := bt (HB) hbwJ
  clear HB hbwJ
  have HB := nHB
  clear nHB
  try clear B13
  have B13 := nB13
  clear nB13
  try clear B14
  have B14 := nB14
  clear nB14
  try clear B15
  have B15 := nB15
  clear nB15
  try clear B17
  have B17 := nB17
  clear nB17
  have cB130 : wJ.cell? ⟨wB.heap.size, 0, none⟩ = some (.string key) := (blk_cell B13 0).trans rfl
  have cB131 : wJ.cell? ⟨wB.heap.size, 1, none⟩ = some (.bool true) := (blk_cell B13 1).trans rfl
  have cB132 : wJ.cell? ⟨wB.heap.size, 2, none⟩ = some (.string (⟨#[118]⟩ : ByteArray)) := (blk_cell B13 2).trans rfl
  have cB133 : wJ.cell? ⟨wB.heap.size, 3, none⟩ = some (.int .i64 lo) := (blk_cell B13 3).trans rfl
  have cB134 : wJ.cell? ⟨wB.heap.size, 4, none⟩ = some (.int .i64 (4611686018427387904)) := (blk_cell B13 4).trans rfl
  have cB13f0 := blk_frozen B13 0
  have cB13f1 := blk_frozen B13 1
  have cB13f2 := blk_frozen B13 2
  have cB13f3 := blk_frozen B13 3
  have cB13f4 := blk_frozen B13 4
  have cB13lt : wB.heap.size < wJ.heap.size := blk_lt B13
  have cB140 : wJ.cell? ⟨wC.heap.size, 0, none⟩ = some (.string key) := (blk_cell B14 0).trans rfl
  have cB141 : wJ.cell? ⟨wC.heap.size, 1, none⟩ = some (.bool true) := (blk_cell B14 1).trans rfl
  have cB142 : wJ.cell? ⟨wC.heap.size, 2, none⟩ = some (.string (⟨#[118]⟩ : ByteArray)) := (blk_cell B14 2).trans rfl
  have cB143 : wJ.cell? ⟨wC.heap.size, 3, none⟩ = some (.int .i64 lo) := (blk_cell B14 3).trans rfl
  have cB144 : wJ.cell? ⟨wC.heap.size, 4, none⟩ = some (.int .i64 (4611686018427387904)) := (blk_cell B14 4).trans rfl
  have cB14f0 := blk_frozen B14 0
  have cB14f1 := blk_frozen B14 1
  have cB14f2 := blk_frozen B14 2
  have cB14f3 := blk_frozen B14 3
  have cB14f4 := blk_frozen B14 4
  have cB14lt : wC.heap.size < wJ.heap.size := blk_lt B14
  have cB150 : wJ.cell? ⟨wD.heap.size, 0, none⟩ = some (.string key) := (blk_cell B15 0).trans rfl
  have cB151 : wJ.cell? ⟨wD.heap.size, 1, none⟩ = some (.bool true) := (blk_cell B15 1).trans rfl
  have cB152 : wJ.cell? ⟨wD.heap.size, 2, none⟩ = some (.string (⟨#[118]⟩ : ByteArray)) := (blk_cell B15 2).trans rfl
  have cB153 : wJ.cell? ⟨wD.heap.size, 3, none⟩ = some (.int .i64 lo) := (blk_cell B15 3).trans rfl
  have cB154 : wJ.cell? ⟨wD.heap.size, 4, none⟩ = some (.int .i64 (me)) := (blk_cell B15 4).trans rfl
  have cB15f0 := blk_frozen B15 0
  have cB15f1 := blk_frozen B15 1
  have cB15f2 := blk_frozen B15 2
  have cB15f3 := blk_frozen B15 3
  have cB15f4 := blk_frozen B15 4
  have cB15lt : wD.heap.size < wJ.heap.size := blk_lt B15
  have cB170 : wJ.cell? ⟨wE.heap.size, 0, none⟩ = some (.string key) := (blk_cell B17 0).trans rfl
  have cB171 : wJ.cell? ⟨wE.heap.size, 1, none⟩ = some (.bool true) := (blk_cell B17 1).trans rfl
  have cB172 : wJ.cell? ⟨wE.heap.size, 2, none⟩ = some (.string (⟨#[118]⟩ : ByteArray)) := (blk_cell B17 2).trans rfl
  have cB173 : wJ.cell? ⟨wE.heap.size, 3, none⟩ = some (.int .i64 lo) := (blk_cell B17 3).trans rfl
  have cB174 : wJ.cell? ⟨wE.heap.size, 4, none⟩ = some (.int .i64 (me)) := (blk_cell B17 4).trans rfl
  have cB17f0 := blk_frozen B17 0
  have cB17f1 := blk_frozen B17 1
  have cB17f2 := blk_frozen B17 2
  have cB17f3 := blk_frozen B17 3
  have cB17f4 := blk_frozen B17 4
  have cB17lt : wE.heap.size < wJ.heap.size := blk_lt B17
  go_wp2_with fail
  clear cB130 cB13f0 cB131 cB13f1 cB132 cB13f2 cB133 cB13f3 cB134 cB13f4 cB13lt
  clear cB140 cB14f0 cB141 cB14f1 cB142 cB14f2 cB143 cB14f3 cB144 cB14f4 cB14lt
  clear cB150 cB15f0 cB151 cB15f1 cB152 cB15f2 cB153 cB15f3 cB154 cB15f4 cB15lt
  clear cB170 cB17f0 cB171 cB17f1 cB172 cB17f2 cB173 cB17f3 cB174 cB17f4 cB17lt
  (with_reducible refine (span_Span_int64_Has.calls _ _ _ _ _ C8.out).mono ?_)
  rintro e wK ⟨rfl, hbwK⟩
  have nB13 := blk_below (g := wB.heap.size) (o := .cells #[.string key, .bool true, .string (⟨#[118]⟩ : ByteArray), .int .i64 lo, .int .i64 (4611686018427387904)] 38 (0, 0)) (B13) hbwK
  have nB14 := blk_below (g := wC.heap.size) (o := .cells #[.string key, .bool true, .string (⟨#[118]⟩ : ByteArray), .int .i64 lo, .int .i64 (4611686018427387904)] 38 (0, 0)) (B14) hbwK
  have nB15 := blk_below (g := wD.heap.size) (o := .cells #[.string key, .bool true, .string (⟨#[118]⟩ : ByteArray), .int .i64 lo, .int .i64 (me)] 38 (0, 0)) (B15) hbwK
  have nB17 := blk_below (g := wE.heap.size) (o := .cells #[.string key, .bool true, .string (⟨#[118]⟩ : ByteArray), .int .i64 lo, .int .i64 (me)] 38 (0, 0)) (B17) hbwK
  have nHB := bt (HB) hbwK
  clear HB hbwK
  have HB := nHB
  clear nHB
  try clear B13
  have B13 := nB13
  clear nB13
  try clear B14
  have B14 := nB14
  clear nB14
  try clear B15
  have B15 := nB15
  clear nB15
  try clear B17
  have B17 := nB17
  clear nB17
  go_wp2_with fail
  go_ret
  exact ⟨by simp, HB⟩
set_option maxHeartbeats 2000000 in
set_option maxRecDepth 100000 in
theorem walk_111 (key : ByteArray) (lo a b at_ c me x0 x1 y0 y1 z0 z1 : Int) (q : Bool) (w : World) (l0 : 0 ≤ lo) (l1 : lo ≤ 255) (a0 : 0 ≤ a) (a1 : a ≤ 255) (b0 : 0 ≤ b) (b1 : b ≤ 255) (t0 : 0 ≤ at_) (t1 : at_ ≤ 255) (c0 : 0 ≤ c) (c1 : c ≤ 255)
    (ha : 128 ≤ a) (hb : 128 ≤ b)
    (m1 : fact_Merge.f 20 key true (⟨#[118]⟩ : ByteArray) lo (4611686018427387904) key true (⟨#[118]⟩ : ByteArray) lo (4611686018427387904) at_ = some (key, true, ⟨#[118]⟩, lo, me, true)) (m2 : fact_Merge.f 20 key true (⟨#[118]⟩ : ByteArray) lo (4611686018427387904) key true (⟨#[118]⟩ : ByteArray) lo (4611686018427387904) at_ = some (key, true, ⟨#[118]⟩, lo, me, true))
    (k1 : fact_Known.f key true (⟨#[118]⟩ : ByteArray) lo (4611686018427387904) at_ = some (x0, x1)) (k2 : fact_Known.f key true (⟨#[118]⟩ : ByteArray) lo (4611686018427387904) at_ = some (y0, y1)) (k3 : fact_Known.f key true (⟨#[118]⟩ : ByteArray) lo (me) at_ = some (z0, z1))
    (h1 : span_Span_int64_Has.f x0 x1 c = some true) (h2 : span_Span_int64_Has.f y0 y1 c = some q) (h3 : span_Span_int64_Has.f z0 z1 c = some true) :
    Calls Try.prog 9 #[.string key, .int .u8 lo, .int .u8 a, .int .u8 b, .int .u8 at_, .int .u8 c] w fun e w' => e = .returned (.bool true) ∧ Below w.heap.size w w' := by
  have C1 := Aside0.mk m1
  have C2 := Aside0.mk m2
  have C3 := Aside0.mk k1
  have C4 := Aside0.mk k2
  have C5 := Aside0.mk k3
  have C6 := Aside0.mk h1
  have C7 := Aside0.mk h2
  have C8 := Aside0.mk h3
  clear m1 m2 k1 k2 k3 h1 h2 h3
  go_enter Try.func9, Try.ntmps9
  have HB := Below.refl w.heap.size w
  go_wp2_with fail
  (with_reducible refine (vouchlaw09_fixed.calls 20 true _ fixed20).mono ?_)
  rintro e wA ⟨rfl, hbwA⟩
  have nHB := bt (HB) hbwA
  clear HB hbwA
  have HB := nHB
  clear nHB
  go_wp2_with fail
  (with_reducible refine (vouchlaw09_text.calls (⟨#[118]⟩ : ByteArray) true (⟨#[118]⟩ : ByteArray) _ rfl).mono ?_)
  rintro e wB ⟨rfl, hbwB⟩
  have nHB := bt (HB) hbwB
  clear HB hbwB
  have HB := nHB
  clear nHB
  have gB : w.heap.size ≤ wB.heap.size := HB.size
  go_wp2_with fail
  (with_reducible refine (vouchlaw09_text.calls (⟨#[118]⟩ : ByteArray) true (⟨#[118]⟩ : ByteArray) _ rfl).mono ?_)
  rintro e wC ⟨rfl, hbwC⟩
  have nB13 := blk_below (g := wB.heap.size) (o := .cells #[.string key, .bool true, .string (⟨#[118]⟩ : ByteArray), .int .i64 lo, .int .i64 (lo + 1 + a % 16)] 38 (0, 0)) (blk_new _ _) hbwC
  have nHB := bt (below_alloc HB _) hbwC
  clear HB hbwC
  have HB := nHB
  clear nHB
  try clear B13
  have B13 := nB13
  clear nB13
  have ne : wB.heap.size ≠ wC.heap.size := by have := blk_lt B13; omega
  have ne' : wC.heap.size ≠ wB.heap.size := fun h => ne h.symm
  have cB130 : wC.cell? ⟨wB.heap.size, 0, none⟩ = some (.string key) := (blk_cell B13 0).trans rfl
  have cB131 : wC.cell? ⟨wB.heap.size, 1, none⟩ = some (.bool true) := (blk_cell B13 1).trans rfl
  have cB132 : wC.cell? ⟨wB.heap.size, 2, none⟩ = some (.string (⟨#[118]⟩ : ByteArray)) := (blk_cell B13 2).trans rfl
  have cB133 : wC.cell? ⟨wB.heap.size, 3, none⟩ = some (.int .i64 lo) := (blk_cell B13 3).trans rfl
  have cB134 : wC.cell? ⟨wB.heap.size, 4, none⟩ = some (.int .i64 (lo + 1 + a % 16)) := (blk_cell B13 4).trans rfl
  have cB13f0 := blk_frozen B13 0
  have cB13f1 := blk_frozen B13 1
  have cB13f2 := blk_frozen B13 2
  have cB13f3 := blk_frozen B13 3
  have cB13f4 := blk_frozen B13 4
  have cB13lt : wB.heap.size < wC.heap.size := blk_lt B13
  have geB : w.heap.size ≤ wB.heap.size := gB
  have geC : w.heap.size ≤ wC.heap.size := HB.size
  go_wp2_with fail
  clear cB130 cB13f0 cB131 cB13f1 cB132 cB13f2 cB133 cB13f3 cB134 cB13f4 cB13lt
  (with_reducible refine (fact_Merge.calls 20 _ _ _ _ _ _ _ _ _ _ _ _ _ _ _ _ _ _ C1.out).mono ?_)
  rintro e wD ⟨rfl, hbwD⟩
  have nB13 := blk_below (g := wB.heap.size) (o := .cells #[.string key, .bool true, .string (⟨#[118]⟩ : ByteArray), .int .i64 lo, .int .i64 (4611686018427387904)] 38 (0, 0)) (blk_alloc (blk_put (cs := #[.string key, .bool true, .string (⟨#[118]⟩ : ByteArray), .int .i64 lo, .int .i64 (lo + 1 + a % 16)]) B13 4 _ rfl) _) hbwD
  have nB14 := blk_below (g := wC.heap.size) (o := .cells #[.string key, .bool true, .string (⟨#[118]⟩ : ByteArray), .int .i64 lo, .int .i64 (4611686018427387904)] 38 (0, 0)) ((by have h_ := blk_new (wC.setCell ⟨wB.heap.size, 4, none⟩ (.int .i64 4611686018427387904)) (.cells #[.string key, .bool true, .string (⟨#[118]⟩ : ByteArray), .int .i64 lo, .int .i64 (4611686018427387904)] 38 (0, 0)); simpa using h_)) hbwD
  have nHB := bt (below_alloc (below_set HB geB) _) hbwD
  clear HB hbwD B13
  have HB := nHB
  have B13 := nB13
  have B14 := nB14
  clear nHB nB13 nB14
  have cB130 : wD.cell? ⟨wB.heap.size, 0, none⟩ = some (.string key) := (blk_cell B13 0).trans rfl
  have cB131 : wD.cell? ⟨wB.heap.size, 1, none⟩ = some (.bool true) := (blk_cell B13 1).trans rfl
  have cB132 : wD.cell? ⟨wB.heap.size, 2, none⟩ = some (.string (⟨#[118]⟩ : ByteArray)) := (blk_cell B13 2).trans rfl
  have cB133 : wD.cell? ⟨wB.heap.size, 3, none⟩ = some (.int .i64 lo) := (blk_cell B13 3).trans rfl
  have cB134 : wD.cell? ⟨wB.heap.size, 4, none⟩ = some (.int .i64 (4611686018427387904)) := (blk_cell B13 4).trans rfl
  have cB13f0 := blk_frozen B13 0
  have cB13f1 := blk_frozen B13 1
  have cB13f2 := blk_frozen B13 2
  have cB13f3 := blk_frozen B13 3
  have cB13f4 := blk_frozen B13 4
  have cB13lt : wB.heap.size < wD.heap.size := blk_lt B13
  have cB140 : wD.cell? ⟨wC.heap.size, 0, none⟩ = some (.string key) := (blk_cell B14 0).trans rfl
  have cB141 : wD.cell? ⟨wC.heap.size, 1, none⟩ = some (.bool true) := (blk_cell B14 1).trans rfl
  have cB142 : wD.cell? ⟨wC.heap.size, 2, none⟩ = some (.string (⟨#[118]⟩ : ByteArray)) := (blk_cell B14 2).trans rfl
  have cB143 : wD.cell? ⟨wC.heap.size, 3, none⟩ = some (.int .i64 lo) := (blk_cell B14 3).trans rfl
  have cB144 : wD.cell? ⟨wC.heap.size, 4, none⟩ = some (.int .i64 (4611686018427387904)) := (blk_cell B14 4).trans rfl
  have cB14f0 := blk_frozen B14 0
  have cB14f1 := blk_frozen B14 1
  have cB14f2 := blk_frozen B14 2
  have cB14f3 := blk_frozen B14 3
  have cB14f4 := blk_frozen B14 4
  have cB14lt : wC.heap.size < wD.heap.size := blk_lt B14
  go_wp2_with fail
  clear cB130 cB13f0 cB131 cB13f1 cB132 cB13f2 cB133 cB13f3 cB134 cB13f4 cB13lt
  clear cB140 cB14f0 cB141 cB14f1 cB142 cB14f2 cB143 cB14f3 cB144 cB14f4 cB14lt
  (with_reducible refine (fact_Merge.calls 20 _ _ _ _ _ _ _ _ _ _ _ _ _ _ _ _ _ _ C2.out).mono ?_)
  rintro e wE ⟨rfl, hbwE⟩
  have nB13 := blk_below (g := wB.heap.size) (o := .cells #[.string key, .bool true, .string (⟨#[118]⟩ : ByteArray), .int .i64 lo, .int .i64 (4611686018427387904)] 38 (0, 0)) (blk_alloc B13 _) hbwE
  have nB14 := blk_below (g := wC.heap.size) (o := .cells #[.string key, .bool true, .string (⟨#[118]⟩ : ByteArray), .int .i64 lo, .int .i64 (4611686018427387904)] 38 (0, 0)) (blk_alloc B14 _) hbwE
  have nB15 := blk_below (g := wD.heap.size) (o := .cells #[.string key, .bool true, .string (⟨#[118]⟩ : ByteArray), .int .i64 lo, .int .i64 (me)] 38 (0, 0)) (blk_new _ _) hbwE
  have nHB := bt (below_alloc HB _) hbwE
  clear HB hbwE
  have HB := nHB
  clear nHB
  try clear B13
  have B13 := nB13
  clear nB13
  try clear B14
  have B14 := nB14
  clear nB14
  try clear B15
  have B15 := nB15
  clear nB15
  have cB130 : wE.cell? ⟨wB.heap.size, 0, none⟩ = some (.string key) := (blk_cell B13 0).trans rfl
  have cB131 : wE.cell? ⟨wB.heap.size, 1, none⟩ = some (.bool true) := (blk_cell B13 1).trans rfl
  have cB132 : wE.cell? ⟨wB.heap.size, 2, none⟩ = some (.string (⟨#[118]⟩ : ByteArray)) := (blk_cell B13 2).trans rfl
  have cB133 : wE.cell? ⟨wB.heap.size, 3, none⟩ = some (.int .i64 lo) := (blk_cell B13 3).trans rfl
  have cB134 : wE.cell? ⟨wB.heap.size, 4, none⟩ = some (.int .i64 (4611686018427387904)) := (blk_cell B13 4).trans rfl
  have cB13f0 := blk_frozen B13 0
  have cB13f1 := blk_frozen B13 1
  have cB13f2 := blk_frozen B13 2
  have cB13f3 := blk_frozen B13 3
  have cB13f4 := blk_frozen B13 4
  have cB13lt : wB.heap.size < wE.heap.size := blk_lt B13
  have cB140 : wE.cell? ⟨wC.heap.size, 0, none⟩ = some (.string key) := (blk_cell B14 0).trans rfl
  have cB141 : wE.cell? ⟨wC.heap.size, 1, none⟩ = some (.bool true) := (blk_cell B14 1).trans rfl
  have cB142 : wE.cell? ⟨wC.heap.size, 2, none⟩ = some (.string (⟨#[118]⟩ : ByteArray)) := (blk_cell B14 2).trans rfl
  have cB143 : wE.cell? ⟨wC.heap.size, 3, none⟩ = some (.int .i64 lo) := (blk_cell B14 3).trans rfl
  have cB144 : wE.cell? ⟨wC.heap.size, 4, none⟩ = some (.int .i64 (4611686018427387904)) := (blk_cell B14 4).trans rfl
  have cB14f0 := blk_frozen B14 0
  have cB14f1 := blk_frozen B14 1
  have cB14f2 := blk_frozen B14 2
  have cB14f3 := blk_frozen B14 3
  have cB14f4 := blk_frozen B14 4
  have cB14lt : wC.heap.size < wE.heap.size := blk_lt B14
  have cB150 : wE.cell? ⟨wD.heap.size, 0, none⟩ = some (.string key) := (blk_cell B15 0).trans rfl
  have cB151 : wE.cell? ⟨wD.heap.size, 1, none⟩ = some (.bool true) := (blk_cell B15 1).trans rfl
  have cB152 : wE.cell? ⟨wD.heap.size, 2, none⟩ = some (.string (⟨#[118]⟩ : ByteArray)) := (blk_cell B15 2).trans rfl
  have cB153 : wE.cell? ⟨wD.heap.size, 3, none⟩ = some (.int .i64 lo) := (blk_cell B15 3).trans rfl
  have cB154 : wE.cell? ⟨wD.heap.size, 4, none⟩ = some (.int .i64 (me)) := (blk_cell B15 4).trans rfl
  have cB15f0 := blk_frozen B15 0
  have cB15f1 := blk_frozen B15 1
  have cB15f2 := blk_frozen B15 2
  have cB15f3 := blk_frozen B15 3
  have cB15f4 := blk_frozen B15 4
  have cB15lt : wD.heap.size < wE.heap.size := blk_lt B15
  go_wp2_with fail
  clear cB130 cB13f0 cB131 cB13f1 cB132 cB13f2 cB133 cB13f3 cB134 cB13f4 cB13lt
  clear cB140 cB14f0 cB141 cB14f1 cB142 cB14f2 cB143 cB14f3 cB144 cB14f4 cB14lt
  clear cB150 cB15f0 cB151 cB15f1 cB152 cB15f2 cB153 cB15f3 cB154 cB15f4 cB15lt
  (with_reducible refine (fact_Known.calls _ _ _ _ _ _ _ _ _ C3.out).mono ?_)
  rintro e wF ⟨rfl, hbwF⟩
  have nB13 := blk_below (g := wB.heap.size) (o := .cells #[.string key, .bool true, .string (⟨#[118]⟩ : ByteArray), .int .i64 lo, .int .i64 (4611686018427387904)] 38 (0, 0)) (blk_alloc B13 _) hbwF
  have nB14 := blk_below (g := wC.heap.size) (o := .cells #[.string key, .bool true, .string (⟨#[118]⟩ : ByteArray), .int .i64 lo, .int .i64 (4611686018427387904)] 38 (0, 0)) (blk_alloc B14 _) hbwF
  have nB15 := blk_below (g := wD.heap.size) (o := .cells #[.string key, .bool true, .string (⟨#[118]⟩ : ByteArray), .int .i64 lo, .int .i64 (me)] 38 (0, 0)) (blk_alloc B15 _) hbwF
  have nB17 := blk_below (g := wE.heap.size) (o := .cells #[.string key, .bool true, .string (⟨#[118]⟩ : ByteArray), .int .i64 lo, .int .i64 (me)] 38 (0, 0)) (blk_new _ _) hbwF
  have nHB := bt (below_alloc HB _) hbwF
  clear HB hbwF
  have HB := nHB
  clear nHB
  try clear B13
  have B13 := nB13
  clear nB13
  try clear B14
  have B14 := nB14
  clear nB14
  try clear B15
  have B15 := nB15
  clear nB15
  try clear B17
  have B17 := nB17
  clear nB17
  have cB130 : wF.cell? ⟨wB.heap.size, 0, none⟩ = some (.string key) := (blk_cell B13 0).trans rfl
  have cB131 : wF.cell? ⟨wB.heap.size, 1, none⟩ = some (.bool true) := (blk_cell B13 1).trans rfl
  have cB132 : wF.cell? ⟨wB.heap.size, 2, none⟩ = some (.string (⟨#[118]⟩ : ByteArray)) := (blk_cell B13 2).trans rfl
  have cB133 : wF.cell? ⟨wB.heap.size, 3, none⟩ = some (.int .i64 lo) := (blk_cell B13 3).trans rfl
  have cB134 : wF.cell? ⟨wB.heap.size, 4, none⟩ = some (.int .i64 (4611686018427387904)) := (blk_cell B13 4).trans rfl
  have cB13f0 := blk_frozen B13 0
  have cB13f1 := blk_frozen B13 1
  have cB13f2 := blk_frozen B13 2
  have cB13f3 := blk_frozen B13 3
  have cB13f4 := blk_frozen B13 4
  have cB13lt : wB.heap.size < wF.heap.size := blk_lt B13
  have cB140 : wF.cell? ⟨wC.heap.size, 0, none⟩ = some (.string key) := (blk_cell B14 0).trans rfl
  have cB141 : wF.cell? ⟨wC.heap.size, 1, none⟩ = some (.bool true) := (blk_cell B14 1).trans rfl
  have cB142 : wF.cell? ⟨wC.heap.size, 2, none⟩ = some (.string (⟨#[118]⟩ : ByteArray)) := (blk_cell B14 2).trans rfl
  have cB143 : wF.cell? ⟨wC.heap.size, 3, none⟩ = some (.int .i64 lo) := (blk_cell B14 3).trans rfl
  have cB144 : wF.cell? ⟨wC.heap.size, 4, none⟩ = some (.int .i64 (4611686018427387904)) := (blk_cell B14 4).trans rfl
  have cB14f0 := blk_frozen B14 0
  have cB14f1 := blk_frozen B14 1
  have cB14f2 := blk_frozen B14 2
  have cB14f3 := blk_frozen B14 3
  have cB14f4 := blk_frozen B14 4
  have cB14lt : wC.heap.size < wF.heap.size := blk_lt B14
  have cB150 : wF.cell? ⟨wD.heap.size, 0, none⟩ = some (.string key) := (blk_cell B15 0).trans rfl
  have cB151 : wF.cell? ⟨wD.heap.size, 1, none⟩ = some (.bool true) := (blk_cell B15 1).trans rfl
  have cB152 : wF.cell? ⟨wD.heap.size, 2, none⟩ = some (.string (⟨#[118]⟩ : ByteArray)) := (blk_cell B15 2).trans rfl
  have cB153 : wF.cell? ⟨wD.heap.size, 3, none⟩ = some (.int .i64 lo) := (blk_cell B15 3).trans rfl
  have cB154 : wF.cell? ⟨wD.heap.size, 4, none⟩ = some (.int .i64 (me)) := (blk_cell B15 4).trans rfl
  have cB15f0 := blk_frozen B15 0
  have cB15f1 := blk_frozen B15 1
  have cB15f2 := blk_frozen B15 2
  have cB15f3 := blk_frozen B15 3
  have cB15f4 := blk_frozen B15 4
  have cB15lt : wD.heap.size < wF.heap.size := blk_lt B15
  have cB170 : wF.cell? ⟨wE.heap.size, 0, none⟩ = some (.string key) := (blk_cell B17 0).trans rfl
  have cB171 : wF.cell? ⟨wE.heap.size, 1, none⟩ = some (.bool true) := (blk_cell B17 1).trans rfl
  have cB172 : wF.cell? ⟨wE.heap.size, 2, none⟩ = some (.string (⟨#[118]⟩ : ByteArray)) := (blk_cell B17 2).trans rfl
  have cB173 : wF.cell? ⟨wE.heap.size, 3, none⟩ = some (.int .i64 lo) := (blk_cell B17 3).trans rfl
  have cB174 : wF.cell? ⟨wE.heap.size, 4, none⟩ = some (.int .i64 (me)) := (blk_cell B17 4).trans rfl
  have cB17f0 := blk_frozen B17 0
  have cB17f1 := blk_frozen B17 1
  have cB17f2 := blk_frozen B17 2
  have cB17f3 := blk_frozen B17 3
  have cB17f4 := blk_frozen B17 4
  have cB17lt : wE.heap.size < wF.heap.size := blk_lt B17
  go_wp2_with fail
  clear cB130 cB13f0 cB131 cB13f1 cB132 cB13f2 cB133 cB13f3 cB134 cB13f4 cB13lt
  clear cB140 cB14f0 cB141 cB14f1 cB142 cB14f2 cB143 cB14f3 cB144 cB14f4 cB14lt
  clear cB150 cB15f0 cB151 cB15f1 cB152 cB15f2 cB153 cB15f3 cB154 cB15f4 cB15lt
  clear cB170 cB17f0 cB171 cB17f1 cB172 cB17f2 cB173 cB17f3 cB174 cB17f4 cB17lt
  (with_reducible refine (span_Span_int64_Has.calls _ _ _ _ _ C6.out).mono ?_)
  rintro e wG ⟨rfl, hbwG⟩
  have nB13 := blk_below (g := wB.heap.size) (o := .cells #[.string key, .bool true, .string (⟨#[118]⟩ : ByteArray), .int .i64 lo, .int .i64 (4611686018427387904)] 38 (0, 0)) (B13) hbwG
  have nB14 := blk_below (g := wC.heap.size) (o := .cells #[.string key, .bool true, .string (⟨#[118]⟩ : ByteArray), .int .i64 lo, .int .i64 (4611686018427387904)] 38 (0, 0)) (B14) hbwG
  have nB15 := blk_below (g := wD.heap.size) (o := .cells #[.string key, .bool true, .string (⟨#[118]⟩ : ByteArray), .int .i64 lo, .int .i64 (me)] 38 (0, 0)) (B15) hbwG
  have nB17 := blk_below (g := wE.heap.size) (o := .cells #[.string key, .bool true, .string (⟨#[118]⟩ : ByteArray), .int .i64 lo, .int .i64 (me)] 38 (0, 0)) (B17) hbwG
  have nHB := bt (HB) hbwG
  clear HB hbwG
  have HB := nHB
  clear nHB
  try clear B13
  have B13 := nB13
  clear nB13
  try clear B14
  have B14 := nB14
  clear nB14
  try clear B15
  have B15 := nB15
  clear nB15
  try clear B17
  have B17 := nB17
  clear nB17
  have cB130 : wG.cell? ⟨wB.heap.size, 0, none⟩ = some (.string key) := (blk_cell B13 0).trans rfl
  have cB131 : wG.cell? ⟨wB.heap.size, 1, none⟩ = some (.bool true) := (blk_cell B13 1).trans rfl
  have cB132 : wG.cell? ⟨wB.heap.size, 2, none⟩ = some (.string (⟨#[118]⟩ : ByteArray)) := (blk_cell B13 2).trans rfl
  have cB133 : wG.cell? ⟨wB.heap.size, 3, none⟩ = some (.int .i64 lo) := (blk_cell B13 3).trans rfl
  have cB134 : wG.cell? ⟨wB.heap.size, 4, none⟩ = some (.int .i64 (4611686018427387904)) := (blk_cell B13 4).trans rfl
  have cB13f0 := blk_frozen B13 0
  have cB13f1 := blk_frozen B13 1
  have cB13f2 := blk_frozen B13 2
  have cB13f3 := blk_frozen B13 3
  have cB13f4 := blk_frozen B13 4
  have cB13lt : wB.heap.size < wG.heap.size := blk_lt B13
  have cB140 : wG.cell? ⟨wC.heap.size, 0, none⟩ = some (.string key) := (blk_cell B14 0).trans rfl
  have cB141 : wG.cell? ⟨wC.heap.size, 1, none⟩ = some (.bool true) := (blk_cell B14 1).trans rfl
  have cB142 : wG.cell? ⟨wC.heap.size, 2, none⟩ = some (.string (⟨#[118]⟩ : ByteArray)) := (blk_cell B14 2).trans rfl
  have cB143 : wG.cell? ⟨wC.heap.size, 3, none⟩ = some (.int .i64 lo) := (blk_cell B14 3).trans rfl
  have cB144 : wG.cell? ⟨wC.heap.size, 4, none⟩ = some (.int .i64 (4611686018427387904)) := (blk_cell B14 4).trans rfl
  have cB14f0 := blk_frozen B14 0
  have cB14f1 := blk_frozen B14 1
  have cB14f2 := blk_frozen B14 2
  have cB14f3 := blk_frozen B14 3
  have cB14f4 := blk_frozen B14 4
  have cB14lt : wC.heap.size < wG.heap.size := blk_lt B14
  have cB150 : wG.cell? ⟨wD.heap.size, 0, none⟩ = some (.string key) := (blk_cell B15 0).trans rfl
  have cB151 : wG.cell? ⟨wD.heap.size, 1, none⟩ = some (.bool true) := (blk_cell B15 1).trans rfl
  have cB152 : wG.cell? ⟨wD.heap.size, 2, none⟩ = some (.string (⟨#[118]⟩ : ByteArray)) := (blk_cell B15 2).trans rfl
  have cB153 : wG.cell? ⟨wD.heap.size, 3, none⟩ = some (.int .i64 lo) := (blk_cell B15 3).trans rfl
  have cB154 : wG.cell? ⟨wD.heap.size, 4, none⟩ = some (.int .i64 (me)) := (blk_cell B15 4).trans rfl
  have cB15f0 := blk_frozen B15 0
  have cB15f1 := blk_frozen B15 1
  have cB15f2 := blk_frozen B15 2
  have cB15f3 := blk_frozen B15 3
  have cB15f4 := blk_frozen B15 4
  have cB15lt : wD.heap.size < wG.heap.size := blk_lt B15
  have cB170 : wG.cell? ⟨wE.heap.size, 0, none⟩ = some (.string key) := (blk_cell B17 0).trans rfl
  have cB171 : wG.cell? ⟨wE.heap.size, 1, none⟩ = some (.bool true) := (blk_cell B17 1).trans rfl
  have cB172 : wG.cell? ⟨wE.heap.size, 2, none⟩ = some (.string (⟨#[118]⟩ : ByteArray)) := (blk_cell B17 2).trans rfl
  have cB173 : wG.cell? ⟨wE.heap.size, 3, none⟩ = some (.int .i64 lo) := (blk_cell B17 3).trans rfl
  have cB174 : wG.cell? ⟨wE.heap.size, 4, none⟩ = some (.int .i64 (me)) := (blk_cell B17 4).trans rfl
  have cB17f0 := blk_frozen B17 0
  have cB17f1 := blk_frozen B17 1
  have cB17f2 := blk_frozen B17 2
  have cB17f3 := blk_frozen B17 3
  have cB17f4 := blk_frozen B17 4
  have cB17lt : wE.heap.size < wG.heap.size := blk_lt B17
  go_wp2_with fail
  clear cB130 cB13f0 cB131 cB13f1 cB132 cB13f2 cB133 cB13f3 cB134 cB13f4 cB13lt
  clear cB140 cB14f0 cB141 cB14f1 cB142 cB14f2 cB143 cB14f3 cB144 cB14f4 cB14lt
  clear cB150 cB15f0 cB151 cB15f1 cB152 cB15f2 cB153 cB15f3 cB154 cB15f4 cB15lt
  clear cB170 cB17f0 cB171 cB17f1 cB172 cB17f2 cB173 cB17f3 cB174 cB17f4 cB17lt
  (with_reducible refine (fact_Known.calls _ _ _ _ _ _ _ _ _ C5.out).mono ?_)
  rintro e wJ ⟨rfl, hbwJ⟩
  have nB13 := blk_below (g := wB.heap.size) (o := .cells #[.string key, .bool true, .string (⟨#[118]⟩ : ByteArray), .int .i64 lo, .int .i64 (4611686018427387904)] 38 (0, 0)) (B13) hbwJ
  have nB14 := blk_below (g := wC.heap.size) (o := .cells #[.string key, .bool true, .string (⟨#[118]⟩ : ByteArray), .int .i64 lo, .int .i64 (4611686018427387904)] 38 (0, 0)) (B14) hbwJ
  have nB15 := blk_below (g := wD.heap.size) (o := .cells #[.string key, .bool true, .string (⟨#[118]⟩ : ByteArray), .int .i64 lo, .int .i64 (me)] 38 (0, 0)) (B15) hbwJ
  have nB17 := blk_below (g := wE.heap.size) (o := .cells #[.string key, .bool true, .string (⟨#[118]⟩ : ByteArray), .int .i64 lo, .int .i64 (me)] 38 (0, 0)) (B17) hbwJ
  have nHB := bt (HB) hbwJ
  clear HB hbwJ
  have HB := nHB
  clear nHB
  try clear B13
  have B13 := nB13
  clear nB13
  try clear B14
  have B14 := nB14
  clear nB14
  try clear B15
  have B15 := nB15
  clear nB15
  try clear B17
  have B17 := nB17
  clear nB17
  have cB130 : wJ.cell? ⟨wB.heap.size, 0, none⟩ = some (.string key) := (blk_cell B13 0).trans rfl
  have cB131 : wJ.cell? ⟨wB.heap.size, 1, none⟩ = some (.bool true) := (blk_cell B13 1).trans rfl
  have cB132 : wJ.cell? ⟨wB.heap.size, 2, none⟩ = some (.string (⟨#[118]⟩ : ByteArray)) := (blk_cell B13 2).trans rfl
  have cB133 : wJ.cell? ⟨wB.heap.size, 3, none⟩ = some (.int .i64 lo) := (blk_cell B13 3).trans rfl
  have cB134 : wJ.cell? ⟨wB.heap.size, 4, none⟩ = some (.int .i64 (4611686018427387904)) := (blk_cell B13 4).trans rfl
  have cB13f0 := blk_frozen B13 0
  have cB13f1 := blk_frozen B13 1
  have cB13f2 := blk_frozen B13 2
  have cB13f3 := blk_frozen B13 3
  have cB13f4 := blk_frozen B13 4
  have cB13lt : wB.heap.size < wJ.heap.size := blk_lt B13
  have cB140 : wJ.cell? ⟨wC.heap.size, 0, none⟩ = some (.string key) := (blk_cell B14 0).trans rfl
  have cB141 : wJ.cell? ⟨wC.heap.size, 1, none⟩ = some (.bool true) := (blk_cell B14 1).trans rfl
  have cB142 : wJ.cell? ⟨wC.heap.size, 2, none⟩ = some (.string (⟨#[118]⟩ : ByteArray)) := (blk_cell B14 2).trans rfl
  have cB143 : wJ.cell? ⟨wC.heap.size, 3, none⟩ = some (.int .i64 lo) := (blk_cell B14 3).trans rfl
  have cB144 : wJ.cell? ⟨wC.heap.size, 4, none⟩ = some (.int .i64 (4611686018427387904)) := (blk_cell B14 4).trans rfl
  have cB14f0 := blk_frozen B14 0
  have cB14f1 := blk_frozen B14 1
  have cB14f2 := blk_frozen B14 2
  have cB14f3 := blk_frozen B14 3
  have cB14f4 := blk_frozen B14 4
  have cB14lt : wC.heap.size < wJ.heap.size := blk_lt B14
  have cB150 : wJ.cell? ⟨wD.heap.size, 0, none⟩ = some (.string key) := (blk_cell B15 0).trans rfl
  have cB151 : wJ.cell? ⟨wD.heap.size, 1, none⟩ = some (.bool true) := (blk_cell B15 1).trans rfl
  have cB152 : wJ.cell? ⟨wD.heap.size, 2, none⟩ = some (.string (⟨#[118]⟩ : ByteArray)) := (blk_cell B15 2).trans rfl
  have cB153 : wJ.cell? ⟨wD.heap.size, 3, none⟩ = some (.int .i64 lo) := (blk_cell B15 3).trans rfl
  have cB154 : wJ.cell? ⟨wD.heap.size, 4, none⟩ = some (.int .i64 (me)) := (blk_cell B15 4).trans rfl
  have cB15f0 := blk_frozen B15 0
  have cB15f1 := blk_frozen B15 1
  have cB15f2 := blk_frozen B15 2
  have cB15f3 := blk_frozen B15 3
  have cB15f4 := blk_frozen B15 4
  have cB15lt : wD.heap.size < wJ.heap.size := blk_lt B15
  have cB170 : wJ.cell? ⟨wE.heap.size, 0, none⟩ = some (.string key) := (blk_cell B17 0).trans rfl
  have cB171 : wJ.cell? ⟨wE.heap.size, 1, none⟩ = some (.bool true) := (blk_cell B17 1).trans rfl
  have cB172 : wJ.cell? ⟨wE.heap.size, 2, none⟩ = some (.string (⟨#[118]⟩ : ByteArray)) := (blk_cell B17 2).trans rfl
  have cB173 : wJ.cell? ⟨wE.heap.size, 3, none⟩ = some (.int .i64 lo) := (blk_cell B17 3).trans rfl
  have cB174 : wJ.cell? ⟨wE.heap.size, 4, none⟩ = some (.int .i64 (me)) := (blk_cell B17 4).trans rfl
  have cB17f0 := blk_frozen B17 0
  have cB17f1 := blk_frozen B17 1
  have cB17f2 := blk_frozen B17 2
  have cB17f3 := blk_frozen B17 3
  have cB17f4 := blk_frozen B17 4
  have cB17lt : wE.heap.size < wJ.heap.size := blk_lt B17
  go_wp2_with fail
  clear cB130 cB13f0 cB131 cB13f1 cB132 cB13f2 cB133 cB13f3 cB134 cB13f4 cB13lt
  clear cB140 cB14f0 cB141 cB14f1 cB142 cB14f2 cB143 cB14f3 cB144 cB14f4 cB14lt
  clear cB150 cB15f0 cB151 cB15f1 cB152 cB15f2 cB153 cB15f3 cB154 cB15f4 cB15lt
  clear cB170 cB17f0 cB171 cB17f1 cB172 cB17f2 cB173 cB17f3 cB174 cB17f4 cB17lt
  (with_reducible refine (span_Span_int64_Has.calls _ _ _ _ _ C8.out).mono ?_)
  rintro e wK ⟨rfl, hbwK⟩
  have nB13 := blk_below (g := wB.heap.size) (o := .cells #[.string key, .bool true, .string (⟨#[118]⟩ : ByteArray), .int .i64 lo, .int .i64 (4611686018427387904)] 38 (0, 0)) (B13) hbwK
  have nB14 := blk_below (g := wC.heap.size) (o := .cells #[.string key, .bool true, .string (⟨#[118]⟩ : ByteArray), .int .i64 lo, .int .i64 (4611686018427387904)] 38 (0, 0)) (B14) hbwK
  have nB15 := blk_below (g := wD.heap.size) (o := .cells #[.string key, .bool true, .string (⟨#[118]⟩ : ByteArray), .int .i64 lo, .int .i64 (me)] 38 (0, 0)) (B15) hbwK
  have nB17 := blk_below (g := wE.heap.size) (o := .cells #[.string key, .bool true, .string (⟨#[118]⟩ : ByteArray), .int .i64 lo, .int .i64 (me)] 38 (0, 0)) (B17) hbwK
  have nHB := bt (HB) hbwK
  clear HB hbwK
  have HB := nHB
  clear nHB
  try clear B13
  have B13 := nB13
  clear nB13
  try clear B14
  have B14 := nB14
  clear nB14
  try clear B15
  have B15 := nB15
  clear nB15
  try clear B17
  have B17 := nB17
  clear nB17
  go_wp2_with fail
  go_ret
  exact ⟨by simp, HB⟩
end Go.Proofs.Ythgfgbligkchiaa.PFactMerges
