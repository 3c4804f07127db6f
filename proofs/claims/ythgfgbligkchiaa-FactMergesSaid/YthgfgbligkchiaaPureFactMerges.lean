/- FactMerges answers true: its walks joined with what the callees answer. Condition: the arguments are uint8. -/
import Derived.Test.YthgfgbligkchiaaWalkFactMerges
namespace Go.Proofs.Ythgfgbligkchiaa.PFactMerges
open Go.RowKit Go.Proofs.YthgfgbligkchiaaW.PrintWords Go.Proofs.YthgfgbligkchiaaW.PrintLast Go.Proofs.YthgfgbligkchiaaW.PrintMore
theorem of_f (a b : Int) : span_Of_int64.f a b = some (if a ≥ b then (0, 0) else (a, b)) := by
  unfold span_Of_int64.f
  split <;> rfl
/-- The end of a fact as it is read at a position. -/
def ende (x t : Int) : Int := if x = 4611686018427387904 then t + 1 else x
def kn (lo x t : Int) : Int × Int := if lo ≥ ende x t then (0, 0) else (lo, ende x t)
theorem behind_f (t : Int) (h1 : 0 ≤ t) (h2 : t ≤ 255) : fact_behind.f t = some (t + 1) := by
  unfold fact_behind.f mn mx
  rw [if_neg (show ¬ t < 0 by omega), if_neg (show ¬ (1099511627776 : Int) < t by omega)]
theorem known_f (k : ByteArray) (h : Bool) (d : ByteArray) (lo x t : Int) (h1 : 0 ≤ t) (h2 : t ≤ 255) : fact_Known.f k h d lo x t = some ((kn lo x t).1, (kn lo x t).2) := by
  unfold fact_Known.f kn ende
  by_cases c : x = 4611686018427387904
  · rw [if_pos c, if_pos c, behind_f t h1 h2, Option.bind_some, of_f]
    rfl
  · rw [if_neg c, if_neg c, of_f]
    rfl
theorem has_f (lo hi n : Int) : span_Span_int64_Has.f lo hi n = some (decide (lo ≤ n ∧ n < hi)) := by
  unfold span_Span_int64_Has.f
  by_cases c : lo ≤ n
  · rw [if_pos c]
    simp [c]
  · rw [if_neg c]
    simp [c]
theorem has_kn (lo x t n : Int) (hn : 0 ≤ n) : decide ((kn lo x t).1 ≤ n ∧ n < (kn lo x t).2) = decide (lo ≤ n ∧ n < ende x t) := by
  unfold kn
  split
  · rw [decide_eq_decide]
    simp only
    omega
  · rfl
def mrg (x y t : Int) : Int := if x = 4611686018427387904 then (if y = 4611686018427387904 then 4611686018427387904 else if y ≤ t + 1 then 4611686018427387904 else y) else if y = 4611686018427387904 then (if x ≤ t + 1 then 4611686018427387904 else x) else mx x y
theorem mrg_comm (x y t : Int) : mrg x y t = mrg y x t := by
  unfold mrg mx
  by_cases cx : x = 4611686018427387904 <;> by_cases cy : y = 4611686018427387904 <;> simp only [cx, cy, if_true, if_false]
  split <;> split <;> omega
theorem merge_f (k : ByteArray) (d : ByteArray) (lo x y t : Int) (h1 : 0 ≤ t) (h2 : t ≤ 255) : fact_Merge.f 20 k true d lo x k true d lo y t = some (k, true, d, lo, mrg x y t, true) := by
  unfold fact_Merge.f
  simp only [bne_self_eq_false, beq_self_eq_true, Bool.not_true, Bool.or_self, if_true, Bool.false_eq_true, if_false, fact_Merge.j0, fact_Merge.j1, behind_f t h1 h2, Option.bind_some]
  unfold mrg
  by_cases cx : x = 4611686018427387904
  · subst cx
    simp only [if_true]
    by_cases cy : y = 4611686018427387904
    · subst cy
      simp only [if_true]
      split <;> rfl
    · simp only [if_neg cy]
      split <;> rfl
  · simp only [if_neg cx]
    by_cases cy : y = 4611686018427387904
    · subst cy
      simp only [if_true]
      split <;> rfl
    · simp only [if_neg cy]
theorem ende_mrg (x y t : Int) : ende (mrg x y t) t = mx (ende x t) (ende y t) := by
  unfold mrg ende mx
  by_cases cx : x = 4611686018427387904 <;> by_cases cy : y = 4611686018427387904 <;> simp only [cx, cy, if_true, if_false]
  · split <;> omega
  · by_cases c : y ≤ t + 1
    · simp only [if_pos c, if_true]
      split <;> omega
    · simp only [if_neg c, if_neg cy]
      split <;> omega
  · by_cases c : x ≤ t + 1
    · simp only [if_pos c, if_true]
      split <;> omega
    · simp only [if_neg c, if_neg cx]
      split <;> omega
  · split
    · rfl
    · rfl
theorem has_mrg (lo x y t n : Int) (hn : 0 ≤ n) : decide ((kn lo (mrg x y t) t).1 ≤ n ∧ n < (kn lo (mrg x y t) t).2) = (decide ((kn lo x t).1 ≤ n ∧ n < (kn lo x t).2) || decide ((kn lo y t).1 ≤ n ∧ n < (kn lo y t).2)) := by
  rw [has_kn _ _ _ _ hn, has_kn _ _ _ _ hn, has_kn _ _ _ _ hn, ende_mrg, ← Bool.decide_or, decide_eq_decide]
  unfold mx
  split <;> omega
theorem FactMerges (key : ByteArray) (lo a b t c : Int) (w : World) (l0 : 0 ≤ lo) (l1 : lo ≤ 255) (a0 : 0 ≤ a) (a1 : a ≤ 255) (b0 : 0 ≤ b) (b1 : b ≤ 255) (t0 : 0 ≤ t) (t1 : t ≤ 255) (c0 : 0 ≤ c) (c1 : c ≤ 255) :
    Calls Try.prog 9 #[.string key, .int .u8 lo, .int .u8 a, .int .u8 b, .int .u8 t, .int .u8 c] w fun e w' => e = .returned (.bool true) ∧ Below w.heap.size w w' := by
  have main : ∀ x y : Int,
      (∀ (me x0 x1 y0 y1 z0 z1 : Int) (q : Bool),
        (fact_Merge.f 20 key true ⟨#[118]⟩ lo x key true ⟨#[118]⟩ lo y t = some (key, true, ⟨#[118]⟩, lo, me, true)) → (fact_Merge.f 20 key true ⟨#[118]⟩ lo y key true ⟨#[118]⟩ lo x t = some (key, true, ⟨#[118]⟩, lo, me, true)) →
        (fact_Known.f key true ⟨#[118]⟩ lo x t = some (x0, x1)) → (fact_Known.f key true ⟨#[118]⟩ lo y t = some (y0, y1)) → (fact_Known.f key true ⟨#[118]⟩ lo me t = some (z0, z1)) →
        span_Span_int64_Has.f x0 x1 c = some false → span_Span_int64_Has.f y0 y1 c = some q → span_Span_int64_Has.f z0 z1 c = some q →
        Calls Try.prog 9 #[.string key, .int .u8 lo, .int .u8 a, .int .u8 b, .int .u8 t, .int .u8 c] w fun e w' => e = .returned (.bool true) ∧ Below w.heap.size w w') →
      (∀ (me x0 x1 y0 y1 z0 z1 : Int) (q : Bool),
        (fact_Merge.f 20 key true ⟨#[118]⟩ lo x key true ⟨#[118]⟩ lo y t = some (key, true, ⟨#[118]⟩, lo, me, true)) → (fact_Merge.f 20 key true ⟨#[118]⟩ lo y key true ⟨#[118]⟩ lo x t = some (key, true, ⟨#[118]⟩, lo, me, true)) →
        (fact_Known.f key true ⟨#[118]⟩ lo x t = some (x0, x1)) → (fact_Known.f key true ⟨#[118]⟩ lo y t = some (y0, y1)) → (fact_Known.f key true ⟨#[118]⟩ lo me t = some (z0, z1)) →
        span_Span_int64_Has.f x0 x1 c = some true → span_Span_int64_Has.f y0 y1 c = some q → span_Span_int64_Has.f z0 z1 c = some true →
        Calls Try.prog 9 #[.string key, .int .u8 lo, .int .u8 a, .int .u8 b, .int .u8 t, .int .u8 c] w fun e w' => e = .returned (.bool true) ∧ Below w.heap.size w w') →
      Calls Try.prog 9 #[.string key, .int .u8 lo, .int .u8 a, .int .u8 b, .int .u8 t, .int .u8 c] w fun e w' => e = .returned (.bool true) ∧ Below w.heap.size w w' := by
    intro x y hF hT
    have g1 := merge_f key ⟨#[118]⟩ lo x y t t0 t1
    have g2 := merge_f key ⟨#[118]⟩ lo y x t t0 t1
    rw [mrg_comm y x] at g2
    have g3 := has_mrg lo x y t c c0
    cases hp : decide ((kn lo x t).1 ≤ c ∧ c < (kn lo x t).2) with
    | false => exact hF _ _ _ _ _ _ _ _ g1 g2 (known_f _ _ _ _ _ _ t0 t1) (known_f _ _ _ _ _ _ t0 t1) (known_f _ _ _ _ _ _ t0 t1) (by rw [has_f, hp]) (has_f _ _ _) (by rw [has_f, g3, hp, Bool.false_or])
    | true => exact hT _ _ _ _ _ _ _ _ g1 g2 (known_f _ _ _ _ _ _ t0 t1) (known_f _ _ _ _ _ _ t0 t1) (known_f _ _ _ _ _ _ t0 t1) (by rw [has_f, hp]) (has_f _ _ _) (by rw [has_f, g3, hp, Bool.true_or])
  by_cases ca : a < 128 <;> by_cases cb : b < 128
  · exact main (lo + 1 + a % 16) (lo + 1 + b % 16) (fun me x0 x1 y0 y1 z0 z1 q => walk_000 key lo a b t c me x0 x1 y0 y1 z0 z1 q w l0 l1 a0 a1 b0 b1 t0 t1 c0 c1 ca cb) (fun me x0 x1 y0 y1 z0 z1 q => walk_001 key lo a b t c me x0 x1 y0 y1 z0 z1 q w l0 l1 a0 a1 b0 b1 t0 t1 c0 c1 ca cb)
  · exact main (lo + 1 + a % 16) 4611686018427387904 (fun me x0 x1 y0 y1 z0 z1 q => walk_010 key lo a b t c me x0 x1 y0 y1 z0 z1 q w l0 l1 a0 a1 b0 b1 t0 t1 c0 c1 ca (by omega)) (fun me x0 x1 y0 y1 z0 z1 q => walk_011 key lo a b t c me x0 x1 y0 y1 z0 z1 q w l0 l1 a0 a1 b0 b1 t0 t1 c0 c1 ca (by omega))
  · exact main 4611686018427387904 (lo + 1 + b % 16) (fun me x0 x1 y0 y1 z0 z1 q => walk_100 key lo a b t c me x0 x1 y0 y1 z0 z1 q w l0 l1 a0 a1 b0 b1 t0 t1 c0 c1 (by omega) cb) (fun me x0 x1 y0 y1 z0 z1 q => walk_101 key lo a b t c me x0 x1 y0 y1 z0 z1 q w l0 l1 a0 a1 b0 b1 t0 t1 c0 c1 (by omega) cb)
  · exact main 4611686018427387904 4611686018427387904 (fun me x0 x1 y0 y1 z0 z1 q => walk_110 key lo a b t c me x0 x1 y0 y1 z0 z1 q w l0 l1 a0 a1 b0 b1 t0 t1 c0 c1 (by omega) (by omega)) (fun me x0 x1 y0 y1 z0 z1 q => walk_111 key lo a b t c me x0 x1 y0 y1 z0 z1 q w l0 l1 a0 a1 b0 b1 t0 t1 c0 c1 (by omega) (by omega))
end Go.Proofs.Ythgfgbligkchiaa.PFactMerges
