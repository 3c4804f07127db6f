/- FactNarrows answers true: its walk joined with what the callees answer. No condition. -/
import Derived.Test.YthgfgbligkchiaaWalkFactNarrows
namespace Go.Proofs.Ythgfgbligkchiaa.PFactNarrows
set_option linter.unusedVariables false
open Go.RowKit Go.Proofs.YthgfgbligkchiaaW.PrintWords Go.Proofs.YthgfgbligkchiaaW.PrintLast Go.Proofs.YthgfgbligkchiaaW.PrintMore
open Go.Proofs.Ythgfgbligkchiaa.HeldC
theorem of_f (a b : Int) : span_Of_int64.f a b = some (if a ≥ b then (0, 0) else (a, b)) := by
  unfold span_Of_int64.f
  split <;> rfl
theorem empty_f (a b : Int) : vouchref01_Empty.f a b = some (decide (a ≥ b)) := by
  unfold vouchref01_Empty.f vouchref01_Has.f
  rw [if_pos (Int.le_refl _), Option.bind_some]
  congr 1
  rw [Bool.not_eq_eq_eq_not, ← decide_not, decide_eq_decide]
  omega
theorem refOf_f (a b : Int) : vouchref01_Of.f a b = some (if a ≥ b then (0, 0) else (a, b)) := by
  unfold vouchref01_Of.f
  rw [empty_f, Option.bind_some]
  by_cases c : a ≥ b
  · rw [if_pos (by simpa using c), if_pos c]
  · rw [if_neg (by simpa using c), if_neg c]
/-- What both have, as a span; the empty one as zero. -/
def meet (a b c d : Int) : Int × Int := if mx a c ≥ mn b d then (0, 0) else (mx a c, mn b d)
theorem refMeet_f (a b c d : Int) (h : a < b ∨ (a = 0 ∧ b = 0)) : vouchref01_Meet.f 20 a b c d = some (meet a b c d) := by
  unfold vouchref01_Meet.f meet
  rw [empty_f, Option.bind_some]
  by_cases c1 : a ≥ b
  · rw [if_pos (by simpa using c1)]
    simp only [vouchref01_Meet.j0, if_true]
    congr 1
    rw [if_pos]
    unfold mx mn
    split <;> split <;> omega
  · rw [if_neg (by simpa using c1), empty_f, Option.bind_some]
    by_cases c2 : c ≥ d
    · have e : decide (c ≥ d) = true := by simpa using c2
      simp only [vouchref01_Meet.j0, e, if_true]
      congr 1
      rw [if_pos]
      unfold mx mn
      split <;> split <;> omega
    · have e : decide (c ≥ d) = false := by simpa using c2
      simp only [vouchref01_Meet.j0, e, Bool.false_eq_true, if_false, refOf_f, Option.bind_some]
      by_cases c3 : c > a
      · have e3 : mx a c = c := by unfold mx; rw [if_pos (by omega)]
        by_cases c4 : d < b
        · have e4 : mn b d = d := by unfold mn; rw [if_pos (by omega)]
          rw [if_pos c3, if_pos c4, e3, e4]
        · have e4 : mn b d = b := by unfold mn; rw [if_neg (by omega)]
          rw [if_pos c3, if_neg c4, e3, e4]
      · have e3 : mx a c = a := by unfold mx; rw [if_neg (by omega)]
        by_cases c4 : d < b
        · have e4 : mn b d = d := by unfold mn; rw [if_pos (by omega)]
          rw [if_neg c3, if_pos c4, e3, e4]
        · have e4 : mn b d = b := by unfold mn; rw [if_neg (by omega)]
          rw [if_neg c3, if_neg c4, e3, e4]
theorem narrow_f (a b c d : Int) : ∃ m0 m1 r, fact_Narrow.f a b c d = some (m0, m1, r) ∧ vouchref09_Narrow.f 20 a b c d = some (m0, m1, r) := by
  obtain ⟨x, y, hx⟩ : ∃ x y, (if a ≥ b then ((0 : Int), (0 : Int)) else (a, b)) = (x, y) := ⟨_, _, rfl⟩
  have hxy : x < y ∨ (x = 0 ∧ y = 0) := by
    by_cases c1 : a ≥ b
    · rw [if_pos c1] at hx
      simp at hx
      omega
    · rw [if_neg c1] at hx
      simp at hx
      omega
  refine ⟨(meet x y c d).1, (meet x y c d).2, !(decide ((meet x y c d).1 ≥ (meet x y c d).2)), ?_, ?_⟩
  · unfold fact_Narrow.f fact_pinned.f span_Span_int64_Meet.f span_Span_int64_Empty.f
    rw [of_f, hx]
    simp only [Option.bind_some, of_f]
    rfl
  · unfold vouchref09_Narrow.f
    rw [refOf_f, hx]
    simp only [Option.bind_some, refMeet_f x y c d hxy, empty_f]
theorem heldRef (n least most : Int) (h : least ≤ most) : vouchref09_held.f n least most = some (hd n most least) := by
  unfold vouchref09_held.f hd mn mx
  by_cases c1 : n < least
  · rw [if_pos c1, if_pos c1, if_neg (by omega)]
  · rw [if_neg c1, if_neg c1]
    by_cases c2 : n > most
    · rw [if_pos c2, if_pos (by omega)]
    · rw [if_neg c2, if_neg (by omega)]
theorem FactNarrows (p0 p1 s0 s1 c0 c1 c2 c3 c4 c5 c6 c7 : Int) (w : World) : Calls Try.prog 12 #[.agg #[.int .i64 p0, .int .i64 p1], .agg #[.int .i64 s0, .int .i64 s1], .agg #[.int .i64 c0, .int .i64 c1, .int .i64 c2, .int .i64 c3, .int .i64 c4, .int .i64 c5, .int .i64 c6, .int .i64 c7]] w fun e w' => e = .returned (.bool true) ∧ Below w.heap.size w w' := by
  obtain ⟨m0, m1, r, h1, h2⟩ := narrow_f p0 p1 s0 s1
  refine narrows_walk p0 p1 s0 s1 c0 c1 c2 c3 c4 c5 c6 c7 _ _ _ _ _ _ _ _ m0 m1 r w h1 h2 (fun w => held c0 c1 c2 c3 c4 c5 c6 c7 w) (fun w => vouchref09_Held.calls _ _ _ _ _ _ _ _ _ _ _ _ _ _ _ _ w ?_)
  unfold vouchref09_Held.f
  rw [heldRef _ _ _ (by omega), heldRef _ _ _ (by omega), heldRef _ _ _ (by omega), heldRef _ _ _ (by omega), heldRef _ _ _ (by omega), heldRef _ _ _ (by omega), heldRef _ _ _ (by omega), heldRef _ _ _ (by omega)]
  rfl
end Go.Proofs.Ythgfgbligkchiaa.PFactNarrows
