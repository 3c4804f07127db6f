/- FactEnds answers true: its walks joined with what the callees answer. Condition: the position is a uint16. -/
import Derived.Test.YthgfgbligkchiaaWalkFactEnds
namespace Go.Proofs.Ythgfgbligkchiaa.PFactEnds
open Go.RowKit Go.Proofs.YthgfgbligkchiaaW.PrintWords Go.Proofs.YthgfgbligkchiaaW.PrintLast Go.Proofs.YthgfgbligkchiaaW.PrintMore
theorem of_f (a b : Int) : span_Of_int64.f a b = some (if a ≥ b then (0, 0) else (a, b)) := by
  unfold span_Of_int64.f
  split <;> rfl
theorem known_shut (k0 : ByteArray) (h0 : Bool) (d0 : ByteArray) (l0 e0 a : Int) (h : e0 ≠ 4611686018427387904) : fact_Known.f k0 h0 d0 l0 e0 a = some (if l0 ≥ e0 then (0, 0) else (l0, e0)) := by
  unfold fact_Known.f
  rw [if_neg h, of_f]
  rfl
theorem known_open (k0 : ByteArray) (h0 : Bool) (d0 : ByteArray) (l0 a : Int) (h1 : 0 ≤ a) (h2 : a ≤ 65535) : fact_Known.f k0 h0 d0 l0 4611686018427387904 a = some (if l0 ≥ a + 1 then (0, 0) else (l0, a + 1)) := by
  unfold fact_Known.f fact_behind.f mn mx
  rw [if_pos rfl, show (if 1099511627776 < (if a < 0 then 0 else a) then 1099511627776 else (if a < 0 then (0 : Int) else a)) = a by rw [if_neg (by omega), if_neg (by omega)], Option.bind_some, of_f]
  rfl
theorem has_f (lo hi n : Int) : ∃ b, span_Span_int64_Has.f lo hi n = some b := by
  unfold span_Span_int64_Has.f
  split
  · exact ⟨_, rfl⟩
  · exact ⟨_, rfl⟩
theorem FactEnds (k0 : ByteArray) (h0 : Bool) (d0 : ByteArray) (l0 e0 a1 a2 a3 : Int) (w : World) (b0 : 0 ≤ a1) (b1 : a1 ≤ 65535) :
    Calls Try.prog 10 #[.agg #[.string k0, .bool h0, .string d0, .int .i64 l0, .int .i64 e0], .int .u16 a1, .int .i64 a2, .int .i64 a3] w fun e w' => e = .returned (.bool true) ∧ Below w.heap.size w w' := by
  by_cases c : e0 = 4611686018427387904
  · subst c
    have hm : mn (a1 + 1) 1099511627777 = a1 + 1 := by unfold mn; rw [if_neg (by omega)]
    by_cases c2 : a1 + 1 ≤ l0
    · refine ends_walk_B k0 h0 d0 l0 a1 a2 a3 w b0 b1 (by omega) ?_ ?_
      · unfold fact_Close.f
        rw [if_pos rfl, hm, if_pos c2]
      · rw [known_open _ _ _ _ _ b0 b1, if_pos (by omega)]
    · obtain ⟨b, hb⟩ := has_f l0 (a1 + 1) a3
      refine ends_walk_A k0 h0 d0 l0 _ (a1 + 1) a1 a2 a3 l0 (a1 + 1) b w b0 b1 ?_ ?_ ?_ ?_ hb
      · unfold fact_Close.f
        rw [if_pos rfl, hm, if_neg c2]
      · rw [known_shut _ _ _ _ _ _ (by omega), if_neg (by omega)]
      · rw [known_shut _ _ _ _ _ _ (by omega), if_neg (by omega)]
      · rw [known_open _ _ _ _ _ b0 b1, if_neg (by omega)]
  · obtain ⟨lo, hi, hq⟩ : ∃ lo hi, (if l0 ≥ e0 then ((0 : Int), (0 : Int)) else (l0, e0)) = (lo, hi) := ⟨_, _, rfl⟩
    obtain ⟨b, hb⟩ := has_f lo hi a3
    refine ends_walk_A k0 h0 d0 l0 e0 e0 a1 a2 a3 lo hi b w b0 b1 ?_ ?_ ?_ ?_ hb
    · unfold fact_Close.f
      rw [if_neg c]
    · rw [known_shut _ _ _ _ _ _ c, hq]
    · rw [known_shut _ _ _ _ _ _ c, hq]
    · rw [known_shut _ _ _ _ _ _ c, hq]
end Go.Proofs.Ythgfgbligkchiaa.PFactEnds
