/- Lists of texts, compared; the reference's tests of keys and values. -/
import Derived.Test.YtaoafjlocjjbbaaDoorC24
namespace Go.Proofs.YtaoafjlocjjbbaaDoor
open Go.Sp
set_option linter.unusedSimpArgs false
set_option linter.unusedVariables false
def sc1 (k : ByteArray) : List Value := [.string k]
theorem agree_all {α : Type} {l1 l2 : List α} (hl : l1.length = l2.length) (h : ∀ j, j < l1.length → l1[j]? = l2[j]?) : l1 = l2 := by
  apply List.ext_getElem?
  intro j
  rcases Nat.lt_or_ge j l1.length with h1 | h1
  · exact h j h1
  · rw [List.getElem?_eq_none h1, List.getElem?_eq_none (by omega)]
theorem texts77 {σ : Hp} {v1 v2 : Value} {l1 l2 : List ByteArray} (h1 : RoRows 1 sc1 σ v1 l1) (h2 : RoRows 1 sc1 σ v2 l2) (hn : l1.length ≤ 140737488355328) : ACalls Tryd.prog 77 #[v1, v2] σ fun u σ' => u = .bool (decide (l1 = l2)) ∧ σ' = σ := by
  have H1 := Hid.mk h1
  have H2 := Hid.mk h2
  obtain ⟨A1, c1, rfl, _⟩ := h1
  obtain ⟨A2, c2, rfl, _⟩ := h2
  (refine acalls_F ok77 (by simp) ?_; unfold c77 r77; simp (config := { contextual := true, dsimp := false }) only [Wr.cells, sc1, ↓reduceIte, ↓evP, evQ, if_true, if_false, eq_self, binv, eqv, lenv, fillO, splice, fldv, Sp.eqa, eqL, eq1, Nat.reduceAdd, Nat.reduceEqDiff, Nat.reduceLeDiff, Nat.reduceMul, reduceCtorEq, Int.reduceLT, Int.reduceLE, Int.reduceGT, Int.reduceGE, Int.reduceEq, Int.reduceNeg])
  (repeat' (first | (refine condF_split (fun hc => ?_) (fun hc => ?_) <;> (try simp only [Bool.not_eq_true', Bool.not_eq_false', Bool.and_eq_true, Bool.or_eq_false_iff] at hc) <;> (try (simp (config := { contextual := true, dsimp := false }) only [*, Wr.cells, sc1, ↓reduceIte, ↓evP, evQ, if_true, if_false, eq_self, binv, eqv, lenv, fillO, splice, fldv, Sp.eqa, eqL, eq1, Nat.reduceAdd, Nat.reduceEqDiff, Nat.reduceLeDiff, Nat.reduceMul, reduceCtorEq, Int.reduceLT, Int.reduceLE, Int.reduceGT, Int.reduceGE, Int.reduceEq, Int.reduceNeg]))) | (intro _; intros) | ((refine And.intro ?_ ?_; focus (first | omega | (first | exact Sub.refl _ | ((repeat (first | exact Sub.refl _ | (refine Sub.drop ?_ ?_; focus (simp only [none_upd, none_set, not_false_eq_true, true_and, and_true, *]; done)) | refine Sub.both ?_)); done)) | ((simp only [decide_eq_true_eq, decide_eq_false_iff_not] at *); omega) | (simp_all; done) | (simp_all; omega))); (try (simp (config := { contextual := true, dsimp := false }) only [*, Wr.cells, sc1, ↓reduceIte, ↓evP, evQ, if_true, if_false, eq_self, binv, eqv, lenv, fillO, splice, fldv, Sp.eqa, eqL, eq1, Nat.reduceAdd, Nat.reduceEqDiff, Nat.reduceLeDiff, Nat.reduceMul, reduceCtorEq, Int.reduceLT, Int.reduceLE, Int.reduceGT, Int.reduceGE, Int.reduceEq, Int.reduceNeg])))))
  · have hc := of_decide_eq_false ‹decide ((l1.length : Int) = (l2.length : Int)) = false›
    exact endF_det (congrArg Value.bool (decide_eq_false (fun e => hc (by rw [e]))).symm) (Sub.refl _)
  have hl : l1.length = l2.length := by have := of_decide_eq_true ‹decide ((l1.length : Int) = (l2.length : Int)) = true›; omega
  have HL := Hid.mk hl
  clear hl
  refine loopF_of (fun k s σ' => ∃ i : Nat, i ≤ l1.length ∧ k = l1.length - i ∧ s 0 = .slice A1 l1.length c1 ∧ s 1 = .slice A2 l2.length c2 ∧ s 5 = .int .i64 i ∧ σ' = σ ∧ ∀ j, j < i → l1[j]? = l2[j]?) l1.length (Sub.refl _) ⟨0, by omega, rfl, (by first | rfl | (simp only [↓putO_get, ↓putO_no, init_zero, init_succ, Nat.reduceEqDiff, ↓reduceIte, *]; done) | (simp only [↓putO_get, ↓putO_no, init_zero, init_succ, Nat.reduceEqDiff, ↓reduceIte, *]; rfl)), (by first | rfl | (simp only [↓putO_get, ↓putO_no, init_zero, init_succ, Nat.reduceEqDiff, ↓reduceIte, *]; done) | (simp only [↓putO_get, ↓putO_no, init_zero, init_succ, Nat.reduceEqDiff, ↓reduceIte, *]; rfl)), (by first | rfl | (simp only [↓putO_get, ↓putO_no, init_zero, init_succ, Nat.reduceEqDiff, ↓reduceIte, *]; done) | (simp only [↓putO_get, ↓putO_no, init_zero, init_succ, Nat.reduceEqDiff, ↓reduceIte, *]; rfl)), rfl, fun j hj => by omega⟩ ?_
  rintro k s σ' ⟨i, hi, rfl, s0, s1, s5, rfl, hag⟩
  have HA := Hid.mk hag
  clear hag
  rcases Nat.lt_or_ge i l1.length with hlt | hge
  · have hd : decide ((i : Int) < (l1.length : Int)) = true := by simp; omega
    obtain ⟨b1, o1, rfl, r1⟩ := H1.out.get hlt
    have hlt3 : i + 1 ≤ l1.length := hlt
    have hlt2 : i < l2.length := by rw [← HL.out]; exact hlt
    obtain ⟨b2, o2, rfl, r2⟩ := H2.out.get hlt2
    have r1 := rd_of_rdn r1
    have r2 := rd_of_rdn r2
    have HX := Hid.mk (And.intro (List.getElem?_eq_getElem hlt) (List.getElem?_eq_getElem hlt2))
    generalize l1[i] = x1 at *
    generalize l2[i] = x2 at *
    clear hlt hlt2
    simp (config := { contextual := true, dsimp := false }) only [*, Wr.cells, sc1, ↓reduceIte, ↓evP, evQ, if_true, if_false, eq_self, binv, eqv, lenv, fillO, splice, fldv, Sp.eqa, eqL, eq1, Nat.reduceAdd, Nat.reduceEqDiff, Nat.reduceLeDiff, Nat.reduceMul, reduceCtorEq, Int.reduceLT, Int.reduceLE, Int.reduceGT, Int.reduceGE, Int.reduceEq, Int.reduceNeg]
    (repeat' (first | (refine condF_split (fun hc => ?_) (fun hc => ?_) <;> (try simp only [Bool.not_eq_true', Bool.not_eq_false', Bool.and_eq_true, Bool.or_eq_false_iff] at hc) <;> (try (simp (config := { contextual := true, dsimp := false }) only [*, Wr.cells, sc1, ↓reduceIte, ↓evP, evQ, if_true, if_false, eq_self, binv, eqv, lenv, fillO, splice, fldv, Sp.eqa, eqL, eq1, Nat.reduceAdd, Nat.reduceEqDiff, Nat.reduceLeDiff, Nat.reduceMul, reduceCtorEq, Int.reduceLT, Int.reduceLE, Int.reduceGT, Int.reduceGE, Int.reduceEq, Int.reduceNeg]))) | (intro _; intros) | ((refine And.intro ?_ ?_; focus (first | omega | (first | exact Sub.refl _ | ((repeat (first | exact Sub.refl _ | (refine Sub.drop ?_ ?_; focus (simp only [none_upd, none_set, not_false_eq_true, true_and, and_true, *]; done)) | refine Sub.both ?_)); done)) | ((simp only [decide_eq_true_eq, decide_eq_false_iff_not] at *); omega) | (simp_all; done) | (simp_all; omega))); (try (simp (config := { contextual := true, dsimp := false }) only [*, Wr.cells, sc1, ↓reduceIte, ↓evP, evQ, if_true, if_false, eq_self, binv, eqv, lenv, fillO, splice, fldv, Sp.eqa, eqL, eq1, Nat.reduceAdd, Nat.reduceEqDiff, Nat.reduceLeDiff, Nat.reduceMul, reduceCtorEq, Int.reduceLT, Int.reduceLE, Int.reduceGT, Int.reduceGE, Int.reduceEq, Int.reduceNeg])))))
    · refine endF_det (congrArg Value.bool (decide_eq_false (fun e => ?_)).symm) (Sub.refl _)
      have hne := of_decide_eq_false ‹decide (x1 = x2) = false›
      have := HX.out.1.symm.trans ((congrArg (·[i]?) e).trans HX.out.2)
      exact hne (Option.some.inj this)
    · refine nextF_of (σ₁ := σ') (l1.length - (i + 1)) (by omega) (Sub.refl _) ⟨i + 1, by omega, rfl, (by first | rfl | (simp only [↓putO_get, ↓putO_no, init_zero, init_succ, Nat.reduceEqDiff, ↓reduceIte, *]; done) | (simp only [↓putO_get, ↓putO_no, init_zero, init_succ, Nat.reduceEqDiff, ↓reduceIte, *]; rfl)), (by first | rfl | (simp only [↓putO_get, ↓putO_no, init_zero, init_succ, Nat.reduceEqDiff, ↓reduceIte, *]; done) | (simp only [↓putO_get, ↓putO_no, init_zero, init_succ, Nat.reduceEqDiff, ↓reduceIte, *]; rfl)), ?_, rfl, fun j hj => ?_⟩
      · show Value.int .i64 (IntKind.i64.wrap _) = _; rw [wi64 (by omega)]; rfl
      · rcases Nat.lt_or_ge j i with h | h
        · exact HA.out j h
        · obtain rfl : j = i := by omega
          rw [HX.out.1, HX.out.2, of_decide_eq_true ‹decide (x1 = x2) = true›]
  · have hd : decide ((i : Int) < (l1.length : Int)) = false := by simp; omega
    simp (config := { contextual := true, dsimp := false }) only [*, Wr.cells, sc1, ↓reduceIte, ↓evP, evQ, if_true, if_false, eq_self, binv, eqv, lenv, fillO, splice, fldv, Sp.eqa, eqL, eq1, Nat.reduceAdd, Nat.reduceEqDiff, Nat.reduceLeDiff, Nat.reduceMul, reduceCtorEq, Int.reduceLT, Int.reduceLE, Int.reduceGT, Int.reduceGE, Int.reduceEq, Int.reduceNeg]
    exact endF_det (congrArg Value.bool (decide_eq_true (agree_all HL.out (fun j hj => HA.out j (by omega)))).symm) (Sub.refl _)
theorem goodKey95 (k : ByteArray) (σ : Hp) : ACalls Tryd.prog 95 #[.string k] σ fun v σ' => v = .bool (goodK k) ∧ σ' = σ := by
  by_cases hk : k = ⟨#[]⟩
  · subst hk
    (refine acalls_F ok95 (by simp) ?_; unfold c95 r95; simp (config := { contextual := true, dsimp := false }) only [Wr.cells, sc1, ↓reduceIte, ↓evP, evQ, if_true, if_false, eq_self, binv, eqv, lenv, fillO, splice, fldv, Sp.eqa, eqL, eq1, Nat.reduceAdd, Nat.reduceEqDiff, Nat.reduceLeDiff, Nat.reduceMul, reduceCtorEq, Int.reduceLT, Int.reduceLE, Int.reduceGT, Int.reduceGE, Int.reduceEq, Int.reduceNeg])
    (repeat' (first | (refine condF_split (fun hc => ?_) (fun hc => ?_) <;> (try simp only [Bool.not_eq_true', Bool.not_eq_false', Bool.and_eq_true, Bool.or_eq_false_iff] at hc) <;> (try (simp (config := { contextual := true, dsimp := false }) only [*, Wr.cells, sc1, ↓reduceIte, ↓evP, evQ, if_true, if_false, eq_self, binv, eqv, lenv, fillO, splice, fldv, Sp.eqa, eqL, eq1, Nat.reduceAdd, Nat.reduceEqDiff, Nat.reduceLeDiff, Nat.reduceMul, reduceCtorEq, Int.reduceLT, Int.reduceLE, Int.reduceGT, Int.reduceGE, Int.reduceEq, Int.reduceNeg]))) | (intro _; intros) | ((refine And.intro ?_ ?_; focus (first | omega | (first | exact Sub.refl _ | ((repeat (first | exact Sub.refl _ | (refine Sub.drop ?_ ?_; focus (simp only [none_upd, none_set, not_false_eq_true, true_and, and_true, *]; done)) | refine Sub.both ?_)); done)) | ((simp only [decide_eq_true_eq, decide_eq_false_iff_not] at *); omega) | (simp_all; done) | (simp_all; omega))); (try (simp (config := { contextual := true, dsimp := false }) only [*, Wr.cells, sc1, ↓reduceIte, ↓evP, evQ, if_true, if_false, eq_self, binv, eqv, lenv, fillO, splice, fldv, Sp.eqa, eqL, eq1, Nat.reduceAdd, Nat.reduceEqDiff, Nat.reduceLeDiff, Nat.reduceMul, reduceCtorEq, Int.reduceLT, Int.reduceLE, Int.reduceGT, Int.reduceGE, Int.reduceEq, Int.reduceNeg])))))
    all_goals exact endF_det rfl (Sub.refl _)
  · have hd : decide (k = ⟨#[]⟩) = false := decide_eq_false hk
    have hs : decide ((k.size : Int) ≥ 1) = true := by
      refine decide_eq_true ?_
      rcases Nat.lt_or_ge k.size 1 with h | h
      · refine absurd ?_ hk
        have h0 : k.data.size = 0 := by have : k.data.size = k.size := rfl; omega
        cases k; congr 1; exact Array.eq_empty_of_size_eq_zero h0
      · omega
    unfold goodK
    rw [hs]
    clear hk hs
    (refine acalls_F ok95 (by simp) ?_; unfold c95 r95; simp (config := { contextual := true, dsimp := false }) only [Wr.cells, sc1, ↓reduceIte, ↓evP, evQ, if_true, if_false, eq_self, binv, eqv, lenv, fillO, splice, fldv, Sp.eqa, eqL, eq1, Nat.reduceAdd, Nat.reduceEqDiff, Nat.reduceLeDiff, Nat.reduceMul, reduceCtorEq, Int.reduceLT, Int.reduceLE, Int.reduceGT, Int.reduceGE, Int.reduceEq, Int.reduceNeg])
    simp (config := { contextual := true, dsimp := false }) only [*, Wr.cells, sc1, ↓reduceIte, ↓evP, evQ, if_true, if_false, eq_self, binv, eqv, lenv, fillO, splice, fldv, Sp.eqa, eqL, eq1, Nat.reduceAdd, Nat.reduceEqDiff, Nat.reduceLeDiff, Nat.reduceMul, reduceCtorEq, Int.reduceLT, Int.reduceLE, Int.reduceGT, Int.reduceGE, Int.reduceEq, Int.reduceNeg]
    (repeat' (first | (refine condF_split (fun hc => ?_) (fun hc => ?_) <;> (try simp only [Bool.not_eq_true', Bool.not_eq_false', Bool.and_eq_true, Bool.or_eq_false_iff] at hc) <;> (try (simp (config := { contextual := true, dsimp := false }) only [*, Wr.cells, sc1, ↓reduceIte, ↓evP, evQ, if_true, if_false, eq_self, binv, eqv, lenv, fillO, splice, fldv, Sp.eqa, eqL, eq1, Nat.reduceAdd, Nat.reduceEqDiff, Nat.reduceLeDiff, Nat.reduceMul, reduceCtorEq, Int.reduceLT, Int.reduceLE, Int.reduceGT, Int.reduceGE, Int.reduceEq, Int.reduceNeg]))) | (intro _; intros) | ((refine And.intro ?_ ?_; focus (first | omega | (first | exact Sub.refl _ | ((repeat (first | exact Sub.refl _ | (refine Sub.drop ?_ ?_; focus (simp only [none_upd, none_set, not_false_eq_true, true_and, and_true, *]; done)) | refine Sub.both ?_)); done)) | ((simp only [decide_eq_true_eq, decide_eq_false_iff_not] at *); omega) | (simp_all; done) | (simp_all; omega))); (try (simp (config := { contextual := true, dsimp := false }) only [*, Wr.cells, sc1, ↓reduceIte, ↓evP, evQ, if_true, if_false, eq_self, binv, eqv, lenv, fillO, splice, fldv, Sp.eqa, eqL, eq1, Nat.reduceAdd, Nat.reduceEqDiff, Nat.reduceLeDiff, Nat.reduceMul, reduceCtorEq, Int.reduceLT, Int.reduceLE, Int.reduceGT, Int.reduceGE, Int.reduceEq, Int.reduceNeg])))))
    all_goals exact endF_det (by simp [*]) (Sub.refl _)
def goodV (h : Bool) (d : ByteArray) : Bool := cond h (decide ((d.size : Int) ≤ 256)) (decide (d = ⟨#[]⟩))
theorem goodValue96 (h : Bool) (d : ByteArray) (σ : Hp) : ACalls Tryd.prog 96 #[.agg #[.bool h, .string d]] σ fun v σ' => v = .bool (goodV h d) ∧ σ' = σ := by
  cases h
  · (refine acalls_F ok96 (by simp) ?_; unfold c96 r96; simp (config := { contextual := true, dsimp := false }) only [Wr.cells, sc1, ↓reduceIte, ↓evP, evQ, if_true, if_false, eq_self, binv, eqv, lenv, fillO, splice, fldv, Sp.eqa, eqL, eq1, Nat.reduceAdd, Nat.reduceEqDiff, Nat.reduceLeDiff, Nat.reduceMul, reduceCtorEq, Int.reduceLT, Int.reduceLE, Int.reduceGT, Int.reduceGE, Int.reduceEq, Int.reduceNeg])
    (repeat' (first | (refine condF_split (fun hc => ?_) (fun hc => ?_) <;> (try simp only [Bool.not_eq_true', Bool.not_eq_false', Bool.and_eq_true, Bool.or_eq_false_iff] at hc) <;> (try (simp (config := { contextual := true, dsimp := false }) only [*, Wr.cells, sc1, ↓reduceIte, ↓evP, evQ, if_true, if_false, eq_self, binv, eqv, lenv, fillO, splice, fldv, Sp.eqa, eqL, eq1, Nat.reduceAdd, Nat.reduceEqDiff, Nat.reduceLeDiff, Nat.reduceMul, reduceCtorEq, Int.reduceLT, Int.reduceLE, Int.reduceGT, Int.reduceGE, Int.reduceEq, Int.reduceNeg]))) | (intro _; intros) | ((refine And.intro ?_ ?_; focus (first | omega | (first | exact Sub.refl _ | ((repeat (first | exact Sub.refl _ | (refine Sub.drop ?_ ?_; focus (simp only [none_upd, none_set, not_false_eq_true, true_and, and_true, *]; done)) | refine Sub.both ?_)); done)) | ((simp only [decide_eq_true_eq, decide_eq_false_iff_not] at *); omega) | (simp_all; done) | (simp_all; omega))); (try (simp (config := { contextual := true, dsimp := false }) only [*, Wr.cells, sc1, ↓reduceIte, ↓evP, evQ, if_true, if_false, eq_self, binv, eqv, lenv, fillO, splice, fldv, Sp.eqa, eqL, eq1, Nat.reduceAdd, Nat.reduceEqDiff, Nat.reduceLeDiff, Nat.reduceMul, reduceCtorEq, Int.reduceLT, Int.reduceLE, Int.reduceGT, Int.reduceGE, Int.reduceEq, Int.reduceNeg])))))
    all_goals exact endF_det rfl (by (first | exact Sub.refl _ | ((repeat (first | exact Sub.refl _ | (refine Sub.drop ?_ ?_; focus (simp only [none_upd, none_set, not_false_eq_true, true_and, and_true, *]; done)) | refine Sub.both ?_)); done)))
  · (refine acalls_F ok96 (by simp) ?_; unfold c96 r96; simp (config := { contextual := true, dsimp := false }) only [Wr.cells, sc1, ↓reduceIte, ↓evP, evQ, if_true, if_false, eq_self, binv, eqv, lenv, fillO, splice, fldv, Sp.eqa, eqL, eq1, Nat.reduceAdd, Nat.reduceEqDiff, Nat.reduceLeDiff, Nat.reduceMul, reduceCtorEq, Int.reduceLT, Int.reduceLE, Int.reduceGT, Int.reduceGE, Int.reduceEq, Int.reduceNeg])
    (repeat' (first | (refine condF_split (fun hc => ?_) (fun hc => ?_) <;> (try simp only [Bool.not_eq_true', Bool.not_eq_false', Bool.and_eq_true, Bool.or_eq_false_iff] at hc) <;> (try (simp (config := { contextual := true, dsimp := false }) only [*, Wr.cells, sc1, ↓reduceIte, ↓evP, evQ, if_true, if_false, eq_self, binv, eqv, lenv, fillO, splice, fldv, Sp.eqa, eqL, eq1, Nat.reduceAdd, Nat.reduceEqDiff, Nat.reduceLeDiff, Nat.reduceMul, reduceCtorEq, Int.reduceLT, Int.reduceLE, Int.reduceGT, Int.reduceGE, Int.reduceEq, Int.reduceNeg]))) | (intro _; intros) | ((refine And.intro ?_ ?_; focus (first | omega | (first | exact Sub.refl _ | ((repeat (first | exact Sub.refl _ | (refine Sub.drop ?_ ?_; focus (simp only [none_upd, none_set, not_false_eq_true, true_and, and_true, *]; done)) | refine Sub.both ?_)); done)) | ((simp only [decide_eq_true_eq, decide_eq_false_iff_not] at *); omega) | (simp_all; done) | (simp_all; omega))); (try (simp (config := { contextual := true, dsimp := false }) only [*, Wr.cells, sc1, ↓reduceIte, ↓evP, evQ, if_true, if_false, eq_self, binv, eqv, lenv, fillO, splice, fldv, Sp.eqa, eqL, eq1, Nat.reduceAdd, Nat.reduceEqDiff, Nat.reduceLeDiff, Nat.reduceMul, reduceCtorEq, Int.reduceLT, Int.reduceLE, Int.reduceGT, Int.reduceGE, Int.reduceEq, Int.reduceNeg])))))
    all_goals exact endF_det rfl (by (first | exact Sub.refl _ | ((repeat (first | exact Sub.refl _ | (refine Sub.drop ?_ ?_; focus (simp only [none_upd, none_set, not_false_eq_true, true_and, and_true, *]; done)) | refine Sub.both ?_)); done)))
theorem goodW_eq (w : Wr) : goodW w = (goodK w.key && goodV w.has w.data) := by
  unfold goodW goodV
  cases w.has
  · by_cases h : w.data = ⟨#[]⟩
    · rw [h]; simp; intro _; decide
    · simp [h]
  · simp
end Go.Proofs.YtaoafjlocjjbbaaDoor
