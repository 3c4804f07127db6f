/- Close and Merge answer as the reference, for all facts and all numbers. No condition but that the numbers are int64. -/
import Derived.Test.YthgfgbligkchiaaWalkFactCloses1
import Derived.KernelRfl
namespace Go.Proofs.Ythgfgbligkchiaa.Pure
open Go.RowKit Go.Proofs.Ythgfgbligkchiaa.PFactCloses Go.Proofs.YthgfgbligkchiaaW.PrintWords Go.Proofs.YthgfgbligkchiaaW.PrintLast
set_option linter.unusedVariables false
set_option linter.unusedSimpArgs false

theorem fixed20 : vouchlaw09_fixed.f 20 = some true := by kernel_rfl
theorem position_f (a : Int) : ∃ p, vouchref09_Position.f a = some p ∧ fact_behind.f a = some (p + 1) ∧ wrap64 (p + 1) = p + 1 := by
  unfold vouchref09_Position.f fact_behind.f mx mn
  by_cases c1 : a < 0
  · exact ⟨0, by rw [if_pos c1], by congr 1; omega, by unfold wrap64; omega⟩
  · by_cases c2 : a > 1099511627776
    · exact ⟨1099511627776, by rw [if_neg c1, if_pos c2], by congr 1; omega, by unfold wrap64; omega⟩
    · exact ⟨a, by rw [if_neg c1, if_neg c2], by congr 1; omega, by unfold wrap64; omega⟩
theorem close_f (a0_0 : ByteArray) (a0_1 : Bool) (a0_2 : ByteArray) (a0_3 a0_4 a1 : Int) : ∃ r, fact_Close.f a0_0 a0_1 a0_2 a0_3 a0_4 a1 = some r ∧ vouchref09_Close.f a0_0 a0_1 a0_2 a0_3 a0_4 a1 = some r := by
  unfold fact_Close.f vouchref09_Close.f mn
  by_cases c1 : a0_4 = 4611686018427387904
  · simp only [if_pos c1]
    by_cases c2 : a1 > 1099511627777
    · rw [if_pos c2, if_pos c2]
      by_cases c3 : 1099511627777 ≤ a0_3
      · exact ⟨_, by rw [if_pos c3], by rw [if_neg (by omega)]⟩
      · exact ⟨_, by rw [if_neg c3], by rw [if_pos (by omega)]⟩
    · rw [if_neg c2, if_neg c2]
      by_cases c3 : a1 ≤ a0_3
      · exact ⟨_, by rw [if_pos c3], by rw [if_neg (by omega)]⟩
      · exact ⟨_, by rw [if_neg c3], by rw [if_pos (by omega)]⟩
  · exact ⟨_, by rw [if_neg c1], by rw [if_neg c1]⟩
/-- Two facts alike, as Go's '==' has it. -/
def Alike (p q : ByteArray × Bool × ByteArray × Int × Int × Bool) : Prop := p.1.toList = q.1.toList ∧ p.2.1 = q.2.1 ∧ p.2.2.1.toList = q.2.2.1.toList ∧ p.2.2.2 = q.2.2.2
theorem alike_refl (p : ByteArray × Bool × ByteArray × Int × Int × Bool) : Alike p p := ⟨rfl, rfl, rfl, rfl⟩
theorem merge_f (k0 : ByteArray) (h0 : Bool) (d0 : ByteArray) (l0 e0 : Int) (k1 : ByteArray) (h1 : Bool) (d1 : ByteArray) (l1 e1 n : Int) :
    ∃ r q, fact_Merge.f 20 k0 h0 d0 l0 e0 k1 h1 d1 l1 e1 n = some r ∧ vouchref09_Merge.f 20 k0 h0 d0 l0 e0 k1 h1 d1 l1 e1 n = some q ∧ Alike r q := by
  obtain ⟨p, hp, hb, hw⟩ := position_f n
  unfold fact_Merge.f vouchref09_Merge.f
  by_cases ck : k0.toList = k1.toList
  · by_cases ch : h0 = h1
    · by_cases cd : d0.toList = d1.toList
      · by_cases cl : l0 = l1
        · subst ch cl
          simp only [ck, cd, bne_self_eq_false, beq_self_eq_true, Bool.not_true, Bool.or_self, Bool.and_self, if_true, Bool.false_eq_true, if_false, fact_Merge.j0, fact_Merge.j1, vouchref09_Merge.j0, vouchref09_Merge.j1, vouchref09_Merge.j2, vouchref09_Merge.j3, hp, hb, hw, Option.bind_some]
          by_cases c0 : e0 = 4611686018427387904
          · by_cases c1 : e1 = 4611686018427387904
            · subst c0 c1
              simp only [if_true, beq_self_eq_true]
              by_cases c2 : 4611686018427387904 ≤ p + 1
              · rw [if_pos c2]
                exact ⟨_, _, rfl, rfl, alike_refl _⟩
              · rw [if_neg c2]
                exact ⟨_, _, rfl, rfl, ck.symm, rfl, cd.symm, rfl⟩
            · subst c0
              have b1 : (e1 == 4611686018427387904) = false := by simp [c1]
              simp only [if_true, if_neg c1, b1, Bool.false_eq_true, if_false]
              by_cases c2 : e1 ≤ p + 1
              · have b2 : decide (e1 > p + 1) = false := by simp; omega
                simp only [if_pos c2, b2, Bool.false_eq_true, if_false]
                exact ⟨_, _, rfl, rfl, alike_refl _⟩
              · have b2 : decide (e1 > p + 1) = true := by simp; omega
                simp only [if_neg c2, b2, if_true]
                exact ⟨_, _, rfl, rfl, alike_refl _⟩
          · by_cases c1 : e1 = 4611686018427387904
            · subst c1
              simp only [if_neg c0, if_true, Bool.false_eq_true, if_false]
              by_cases c2 : e0 ≤ p + 1
              · simp only [if_pos c2]
                exact ⟨_, _, rfl, rfl, alike_refl _⟩
              · simp only [if_neg c2]
                exact ⟨_, _, rfl, rfl, alike_refl _⟩
            · simp only [if_neg c0, if_neg c1, Bool.false_eq_true, if_false]
              unfold mx
              by_cases c2 : e1 > e0
              · have b2 : decide (e1 > e0) = true := by simpa using c2
                simp only [b2, if_true]
                rw [if_pos (by omega)]
                exact ⟨_, _, rfl, rfl, ck, rfl, cd, rfl⟩
              · have b2 : decide (e1 > e0) = false := by simpa using c2
                simp only [b2, Bool.false_eq_true, if_false]
                rw [if_neg (by omega)]
                exact ⟨_, _, rfl, rfl, alike_refl _⟩
        · have b1 : (l0 == l1) = false := by simp [cl]
          have b2 : (l0 != l1) = true := by simp [cl]
          subst ch
          simp only [ck, cd, b1, b2, beq_self_eq_true, Bool.not_true, Bool.or_self, Bool.and_self, if_true, Bool.false_eq_true, if_false, fact_Merge.j0, vouchref09_Merge.j0]
          exact ⟨_, _, rfl, rfl, alike_refl _⟩
      · have b1 : (d0.toList == d1.toList) = false := by simpa using cd
        simp only [ck, b1, Bool.not_false, Bool.or_true, Bool.and_false, if_true, Bool.false_eq_true, if_false, fact_Merge.j0, vouchref09_Merge.j0]
        exact ⟨_, _, rfl, rfl, alike_refl _⟩
    · have b1 : (h0 == h1) = false := by simpa using ch
      simp only [ck, b1, Bool.not_false, Bool.true_or, Bool.false_and, if_true, Bool.false_eq_true, if_false, fact_Merge.j0, vouchref09_Merge.j0]
      exact ⟨_, _, rfl, rfl, alike_refl _⟩
  · simp only [if_neg ck, if_true, Bool.false_eq_true, if_false, fact_Merge.j0, vouchref09_Merge.j0]
    exact ⟨_, _, rfl, rfl, alike_refl _⟩
theorem FactCloses (k0 : ByteArray) (h0 : Bool) (d0 : ByteArray) (l0 e0 : Int) (k1 : ByteArray) (h1 : Bool) (d1 : ByteArray) (l1 e1 n : Int) : ∃ k, vouchlaw09_FactCloses.f k k0 h0 d0 l0 e0 k1 h1 d1 l1 e1 n = some true := by
  obtain ⟨r, hr1, hr2⟩ := close_f k0 h0 d0 l0 e0 n
  obtain ⟨p, q, hp, hq, a1, a2, a3, a4⟩ := merge_f k0 h0 d0 l0 e0 k1 h1 d1 l1 e1 n
  refine ⟨20, ?_⟩
  unfold vouchlaw09_FactCloses.f
  rw [fixed20, hr1, hr2, hp, hq]
  simp [a1, a2, a3, a4]
end Go.Proofs.Ythgfgbligkchiaa.Pure
