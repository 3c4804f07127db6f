/- FactKnows answers true: its walk joined with what the callees answer. Conditions: the form's own on sizes. -/
import Derived.Test.YthgfgbligkchiaaWalkFactKnows
namespace Go.Proofs.Ythgfgbligkchiaa.PFactKnows
set_option linter.unusedVariables false
open Go.RowKit Go.Proofs.YthgfgbligkchiaaW.PrintWords Go.Proofs.YthgfgbligkchiaaW.PrintLast Go.Proofs.YthgfgbligkchiaaW.PrintMore
theorem loop_length (s : ByteArray) (d : Nat) : ∀ (i : Nat) (r : List UInt8), s.size - i = d → (ByteArray.toList.loop s i r).length = r.length + d := by
  induction d with
  | zero =>
    intro i r h
    unfold ByteArray.toList.loop
    rw [if_neg (by omega)]
    simp
  | succ d ih =>
    intro i r h
    unfold ByteArray.toList.loop
    rw [if_pos (by omega), ih (i + 1) _ (by omega)]
    simp
    omega
theorem toList_nil (s : ByteArray) (h : s.toList = []) : s.size = 0 := by
  have h1 := loop_length s s.size 0 [] (by omega)
  unfold ByteArray.toList at h
  rw [h] at h1
  simpa using h1.symm
theorem of_f (a b : Int) : span_Of_int64.f a b = some (if a ≥ b then (0, 0) else (a, b)) := by
  unfold span_Of_int64.f
  split <;> rfl
theorem empty_f (a b : Int) : vouchref01_Empty.f a b = some (decide (a ≥ b)) := by
  unfold vouchref01_Empty.f vouchref01_Has.f
  rw [if_pos (Int.le_refl _), Option.bind_some]
  congr 1
  rw [Bool.not_eq_eq_eq_not, ← decide_not, decide_eq_decide]
  omega
theorem refOf_f (a b : Int) : vouchref01_Of.f a b = some (if a ≥ b then (0, 0) else (a, b)) := by
  unfold vouchref01_Of.f
  rw [empty_f, Option.bind_some]
  by_cases c : a ≥ b
  · rw [if_pos (by simpa using c), if_pos c]
  · rw [if_neg (by simpa using c), if_neg c]
def meet (a b c d : Int) : Int × Int := if mx a c ≥ mn b d then (0, 0) else (mx a c, mn b d)
theorem refMeet_f (a b c d : Int) : ∃ m, vouchref01_Meet.f 20 a b c d = some m ∧ decide (m.1 ≥ m.2) = (decide (a ≥ b) || (decide (c ≥ d) || decide ((meet a b c d).1 ≥ (meet a b c d).2))) := by
  unfold vouchref01_Meet.f
  rw [empty_f, Option.bind_some]
  by_cases c1 : a ≥ b
  · rw [if_pos (by simpa using c1)]
    simp only [vouchref01_Meet.j0, if_true]
    exact ⟨_, rfl, by simp [c1]⟩
  · rw [if_neg (by simpa using c1), empty_f, Option.bind_some]
    by_cases c2 : c ≥ d
    · have e : decide (c ≥ d) = true := by simpa using c2
      simp only [vouchref01_Meet.j0, e, if_true]
      exact ⟨_, rfl, by simp⟩
    · have e : decide (c ≥ d) = false := by simpa using c2
      have e0 : decide (a ≥ b) = false := by simpa using c1
      simp only [vouchref01_Meet.j0, e, e0, Bool.false_eq_true, if_false, refOf_f, Option.bind_some, Bool.false_or]
      unfold meet
      by_cases c3 : c > a
      · have e3 : mx a c = c := by unfold mx; rw [if_pos (by omega)]
        by_cases c4 : d < b
        · have e4 : mn b d = d := by unfold mn; rw [if_pos (by omega)]
          rw [if_pos c3, if_pos c4, e3, e4]
          exact ⟨_, rfl, rfl⟩
        · have e4 : mn b d = b := by unfold mn; rw [if_neg (by omega)]
          rw [if_pos c3, if_neg c4, e3, e4]
          exact ⟨_, rfl, rfl⟩
      · have e3 : mx a c = a := by unfold mx; rw [if_neg (by omega)]
        by_cases c4 : d < b
        · have e4 : mn b d = d := by unfold mn; rw [if_pos (by omega)]
          rw [if_neg c3, if_pos c4, e3, e4]
          exact ⟨_, rfl, rfl⟩
        · have e4 : mn b d = b := by unfold mn; rw [if_neg (by omega)]
          rw [if_neg c3, if_neg c4, e3, e4]
          exact ⟨_, rfl, rfl⟩
theorem position_f (a : Int) : ∃ p, vouchref09_Position.f a = some p ∧ fact_behind.f a = some (p + 1) ∧ wrap64 (p + 1) = p + 1 := by
  unfold vouchref09_Position.f fact_behind.f mx mn
  by_cases c1 : a < 0
  · exact ⟨0, by rw [if_pos c1], by congr 1; omega, by unfold wrap64; omega⟩
  · by_cases c2 : a > 1099511627776
    · exact ⟨1099511627776, by rw [if_neg c1, if_pos c2], by congr 1; omega, by unfold wrap64; omega⟩
    · exact ⟨a, by rw [if_neg c1, if_neg c2], by congr 1; omega, by unfold wrap64; omega⟩
theorem known_f (k : ByteArray) (h : Bool) (d : ByteArray) (l e t : Int) : ∃ x y, fact_Known.f k h d l e t = some (x, y) ∧ vouchref09_Known.f k h d l e t = some (x, y) := by
  obtain ⟨p, hp, hb, hw⟩ := position_f t
  unfold fact_Known.f vouchref09_Known.f vouchref09_End.f
  by_cases c : e = 4611686018427387904
  · rw [if_pos c, if_pos c, hp, hb]
    simp only [Option.bind_some, hw, of_f, refOf_f]
    exact ⟨_, _, rfl, rfl⟩
  · rw [if_neg c, if_neg c]
    simp only [Option.bind_some, of_f, refOf_f]
    exact ⟨_, _, rfl, rfl⟩
theorem meets_f (k : ByteArray) (h : Bool) (d : ByteArray) (l e t p q : Int) : ∃ m, fact_Meets.f k h d l e t p q = some m ∧ vouchref09_Meets.f 20 k h d l e t p q = some m := by
  obtain ⟨x, y, h1, h2⟩ := known_f k h d l e t
  unfold fact_Meets.f vouchref09_Meets.f fact_pinned.f vouchref01_Meets.f
  rw [h1, h2, of_f, refOf_f]
  simp only [Option.bind_some]
  generalize (if p ≥ q then ((0 : Int), (0 : Int)) else (p, q)) = r
  obtain ⟨m, hm, he⟩ := refMeet_f x y r.1 r.2
  rw [hm]
  simp only [Option.bind_some, empty_f, he]
  unfold span_Span_int64_Meets.f span_Span_int64_Empty.f span_Span_int64_Meet.f
  simp only [Option.bind_some, of_f]
  refine ⟨_, ?_, rfl⟩
  by_cases c1 : x ≥ y
  · have e1 : decide (x ≥ y) = true := by simpa using c1
    simp [e1]
  · have e1 : decide (x ≥ y) = false := by simpa using c1
    by_cases c2 : r.1 ≥ r.2
    · have e2 : decide (r.1 ≥ r.2) = true := by simpa using c2
      simp [e1, e2]
    · have e2 : decide (r.1 ≥ r.2) = false := by simpa using c2
      simp only [e1, e2, Bool.false_eq_true, if_false, Bool.false_or]
      rfl
theorem good_f (k : ByteArray) (h : Bool) (d : ByteArray) (l e : Int) : ∃ g, fact_Good.f 20 k h d l e = some g ∧ vouchref09_Good.f k h d l e = some g := by
  have hd := toList_nil d
  unfold fact_Good.f vouchref09_Good.f vouchref05_GoodKey.f vouchref05_GoodValue.f
  by_cases c1 : k.toList = []
  · simp [c1, fact_Good.j0]
  · by_cases c2 : (k.size : Int) > 32
    · have c2' : ¬ (k.size : Int) ≤ 32 := by omega
      simp [c1, c2, c2', fact_Good.j0]
    · have c2' : (k.size : Int) ≤ 32 := by omega
      simp only [c1, if_false, fact_Good.j0, show decide ((k.size : Int) > 32) = false by simpa using c2, Bool.false_eq_true, Option.bind_some, show decide ((k.size : Int) ≤ 32) = true by simpa using c2', if_true]
      have tail : ∃ g, (if l ≥ 0 then (if l ≤ 1099511627776 then (if e > l then (if e = 4611686018427387904 then (some true) else (some (decide (e ≤ 1099511627777)))) else (some false)) else (some false)) else (some false)) = some g ∧ (if l < 0 then (some false) else (if l > 1099511627776 then (some false) else (if e ≤ l then (some false) else (if e = 4611686018427387904 then (some true) else (some (decide (e ≤ 1099511627777))))))) = some g := by
        by_cases d1 : l < 0
        · rw [if_neg (by omega), if_pos d1]
          exact ⟨_, rfl, rfl⟩
        · rw [if_pos (by omega), if_neg d1]
          by_cases d2 : l > 1099511627776
          · rw [if_neg (by omega), if_pos d2]
            exact ⟨_, rfl, rfl⟩
          · rw [if_pos (by omega), if_neg d2]
            by_cases d3 : e ≤ l
            · rw [if_neg (by omega), if_pos d3]
              exact ⟨_, rfl, rfl⟩
            · rw [if_pos (by omega), if_neg d3]
              split
              · exact ⟨_, rfl, rfl⟩
              · exact ⟨_, rfl, rfl⟩
      obtain ⟨g, t1, t2⟩ := tail
      cases h with
      | true =>
        by_cases c3 : (d.size : Int) > 256
        · rw [if_pos c3]
          simp [show ¬ (d.size : Int) ≤ 256 by omega]
        · rw [if_neg c3]
          simp only [if_true, Option.bind_some, show decide ((d.size : Int) ≤ 256) = true by simp; omega, t1, t2]
          exact ⟨g, rfl, rfl⟩
      | false =>
        by_cases c4 : d.toList = []
        · rw [if_neg (by have := hd c4; omega)]
          simp only [c4, Bool.false_eq_true, if_false, if_true, Option.bind_some, beq_self_eq_true, t1, t2]
          exact ⟨g, rfl, rfl⟩
        · have e4 : (d.toList == ([] : List UInt8)) = false := by simpa using c4
          simp only [Bool.false_eq_true, if_false, Option.bind_some, e4, c4]
          split
          · exact ⟨_, rfl, rfl⟩
          · exact ⟨_, rfl, rfl⟩
theorem FactKnows (k : ByteArray) (h : Bool) (d : ByteArray) (l e t p q : Int) (w : World) :
    Calls Try.prog 7 #[.agg #[.string k, .bool h, .string d, .int .i64 l, .int .i64 e], .int .i64 t, .agg #[.int .i64 p, .int .i64 q]] w fun e w' => e = .returned (.bool true) ∧ Below w.heap.size w w' := by
  obtain ⟨x, y, h1, h2⟩ := known_f k h d l e t
  obtain ⟨m, h3, h4⟩ := meets_f k h d l e t p q
  obtain ⟨g, h5, h6⟩ := good_f k h d l e
  exact knows_walk 20 k h d l e t p q x y x y _ g m w fixed20 h1 h2 rfl rfl h5 h6 rfl rfl h3 h4
end Go.Proofs.Ythgfgbligkchiaa.PFactKnows
