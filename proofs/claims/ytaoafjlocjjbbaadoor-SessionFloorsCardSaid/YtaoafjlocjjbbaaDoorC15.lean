/- Parse: the floor of a token. -/
import Derived.Test.YtaoafjlocjjbbaaDoorC14
namespace Go.Proofs.YtaoafjlocjjbbaaDoor
open Go.Sp
set_option linter.unusedSimpArgs false
set_option linter.unusedVariables false
def parN (s : ByteArray) : Option Int :=
  if 4 ≤ s.size then
    match Lib.parseIntB 64 (s.extract 1 (s.size - 2)).data.toList with
    | .ok n => if tokE n = 0 ∧ tokV n = s then some n else none
    | _ => none
  else none
def parV (s : ByteArray) : Int := (parN s).getD 0
def parE (s : ByteArray) : Int := cond (parN s).isSome 0 30
theorem parse21 {σ : Hp} (hG : Glob σ) (s : ByteArray) (hs : s.size ≤ 281474976710656) : ACalls Tryd.prog 21 #[.string s] σ fun v σ' => v = .tuple #[.int .i64 (parV s), .int .i64 (parE s)] ∧ σ' = σ := by
  have HG := Hid.mk hG
  clear hG
  by_cases h4 : s.size < 4
  · have hd : decide ((s.size : Int) < 4) = true := by simp; omega
    have HP := Hid.mk (show parN s = none by unfold parN; rw [if_neg (by omega)])
    clear h4
    (refine acalls_F ok21 (by simp) ?_; unfold c21 r21; simp (config := { contextual := true, dsimp := false }) only [↓reduceIte, ↓evP, evQ, if_true, if_false, eq_self, binv, eqv, lenv, fillO, splice, fldv, Sp.eqa, eqL, eq1, Nat.reduceAdd, Nat.reduceEqDiff, Nat.reduceLeDiff, Nat.reduceMul, reduceCtorEq, Int.reduceLT, Int.reduceLE, Int.reduceGT, Int.reduceGE, Int.reduceEq, Int.reduceNeg])
    simp (config := { contextual := true, dsimp := false }) only [*, ↓reduceIte, ↓evP, evQ, if_true, if_false, eq_self, binv, eqv, lenv, fillO, splice, fldv, Sp.eqa, eqL, eq1, Nat.reduceAdd, Nat.reduceEqDiff, Nat.reduceLeDiff, Nat.reduceMul, reduceCtorEq, Int.reduceLT, Int.reduceLE, Int.reduceGT, Int.reduceGE, Int.reduceEq, Int.reduceNeg]
    exact endF_det (by unfold parV parE; rw [HP.out]; rfl) (Sub.refl _)
  have hd : decide ((s.size : Int) < 4) = false := by simp; omega
  have e1 : IntKind.i64.wrap ((s.size : Int) - 2) = (s.size : Int) - 2 := wi64 (by omega)
  have e2 : lf .sls [.string s, .int .i64 1, .int .i64 ((s.size : Int) - 2)] = some (.string (s.extract 1 (s.size - 2))) := by
    rw [lf_sls_eq _ _ _ _ _ (by omega)]
    rw [show ((s.size : Int) - 2).toNat = s.size - 2 by omega]; rfl
  have hle : (s.extract 1 (s.size - 2)).size ≤ 281474976710656 := by rw [ByteArray.size_extract]; omega
  generalize hb : s.extract 1 (s.size - 2) = b at e2 hle
  have HB := Hid.mk (And.intro hb h4)
  clear hb h4
  (refine acalls_F ok21 (by simp) ?_; unfold c21 r21; simp (config := { contextual := true, dsimp := false }) only [↓reduceIte, ↓evP, evQ, if_true, if_false, eq_self, binv, eqv, lenv, fillO, splice, fldv, Sp.eqa, eqL, eq1, Nat.reduceAdd, Nat.reduceEqDiff, Nat.reduceLeDiff, Nat.reduceMul, reduceCtorEq, Int.reduceLT, Int.reduceLE, Int.reduceGT, Int.reduceGE, Int.reduceEq, Int.reduceNeg])
  simp (config := { contextual := true, dsimp := false }) only [*, ↓reduceIte, ↓evP, evQ, if_true, if_false, eq_self, binv, eqv, lenv, fillO, splice, fldv, Sp.eqa, eqL, eq1, Nat.reduceAdd, Nat.reduceEqDiff, Nat.reduceLeDiff, Nat.reduceMul, reduceCtorEq, Int.reduceLT, Int.reduceLE, Int.reduceGT, Int.reduceGE, Int.reduceEq, Int.reduceNeg]
  refine callF_of (parse51 HG.out b hle) ?_
  rintro u σ' ⟨⟨n, e, rfl, hp⟩, rfl⟩
  rcases hp with ⟨hp, rfl⟩ | ⟨hp, T, p, rfl⟩
  · have HP := Hid.mk hp
    clear hp
    simp (config := { contextual := true, dsimp := false }) only [*, ↓reduceIte, ↓evP, evQ, if_true, if_false, eq_self, binv, eqv, lenv, fillO, splice, fldv, Sp.eqa, eqL, eq1, Nat.reduceAdd, Nat.reduceEqDiff, Nat.reduceLeDiff, Nat.reduceMul, reduceCtorEq, Int.reduceLT, Int.reduceLE, Int.reduceGT, Int.reduceGE, Int.reduceEq, Int.reduceNeg]
    (repeat' (first | (refine condF_split (fun hc => ?_) (fun hc => ?_) <;> (try simp only [Bool.not_eq_true', Bool.not_eq_false', Bool.and_eq_true, Bool.or_eq_false_iff] at hc) <;> (try (simp (config := { contextual := true, dsimp := false }) only [*, ↓reduceIte, ↓evP, evQ, if_true, if_false, eq_self, binv, eqv, lenv, fillO, splice, fldv, Sp.eqa, eqL, eq1, Nat.reduceAdd, Nat.reduceEqDiff, Nat.reduceLeDiff, Nat.reduceMul, reduceCtorEq, Int.reduceLT, Int.reduceLE, Int.reduceGT, Int.reduceGE, Int.reduceEq, Int.reduceNeg]))) | (refine callF_v (token19 HG.out n) ?_; (try (simp (config := { contextual := true, dsimp := false }) only [*, ↓reduceIte, ↓evP, evQ, if_true, if_false, eq_self, binv, eqv, lenv, fillO, splice, fldv, Sp.eqa, eqL, eq1, Nat.reduceAdd, Nat.reduceEqDiff, Nat.reduceLeDiff, Nat.reduceMul, reduceCtorEq, Int.reduceLT, Int.reduceLE, Int.reduceGT, Int.reduceGE, Int.reduceEq, Int.reduceNeg]))) | (refine ccallF_of (token19 HG.out n) ?_; (try (simp (config := { contextual := true, dsimp := false }) only [*, ↓reduceIte, ↓evP, evQ, if_true, if_false, eq_self, binv, eqv, lenv, fillO, splice, fldv, Sp.eqa, eqL, eq1, Nat.reduceAdd, Nat.reduceEqDiff, Nat.reduceLeDiff, Nat.reduceMul, reduceCtorEq, Int.reduceLT, Int.reduceLE, Int.reduceGT, Int.reduceGE, Int.reduceEq, Int.reduceNeg]))) | (refine gcallF_of (token19 HG.out n) ?_; (try (simp (config := { contextual := true, dsimp := false }) only [*, ↓reduceIte, ↓evP, evQ, if_true, if_false, eq_self, binv, eqv, lenv, fillO, splice, fldv, Sp.eqa, eqL, eq1, Nat.reduceAdd, Nat.reduceEqDiff, Nat.reduceLeDiff, Nat.reduceMul, reduceCtorEq, Int.reduceLT, Int.reduceLE, Int.reduceGT, Int.reduceGE, Int.reduceEq, Int.reduceNeg]))) | (intro _; intros) | ((refine And.intro ?_ ?_; focus (first | omega | (first | exact Sub.refl _ | ((repeat (first | exact Sub.refl _ | (refine Sub.drop ?_ ?_; focus (simp only [none_upd, none_set, not_false_eq_true, true_and, and_true, *]; done)) | refine Sub.both ?_)); done)) | ((simp only [decide_eq_true_eq, decide_eq_false_iff_not] at *); omega) | (simp_all; done) | (simp_all; omega))); (try (simp (config := { contextual := true, dsimp := false }) only [*, ↓reduceIte, ↓evP, evQ, if_true, if_false, eq_self, binv, eqv, lenv, fillO, splice, fldv, Sp.eqa, eqL, eq1, Nat.reduceAdd, Nat.reduceEqDiff, Nat.reduceLeDiff, Nat.reduceMul, reduceCtorEq, Int.reduceLT, Int.reduceLE, Int.reduceGT, Int.reduceGE, Int.reduceEq, Int.reduceNeg])))))
    · refine endF_det ?_ (Sub.refl _)
      have : parN s = none := by
        unfold parN; rw [HB.out.1, HP.out]
        have hc := of_decide_eq_false ‹decide (tokE n = 0) = false›
        simp [hc]
      unfold parV parE; rw [this]; rfl
    · refine endF_det ?_ (Sub.refl _)
      have : parN s = none := by
        unfold parN; rw [HB.out.1, HP.out]
        have hc := of_decide_eq_false ‹decide (tokV n = s) = false›
        simp [hc]
      unfold parV parE; rw [this]; rfl
    · refine endF_det ?_ (Sub.refl _)
      have : parN s = some n := by
        unfold parN; rw [HB.out.1, HP.out]
        have h1 := of_decide_eq_true ‹decide (tokE n = 0) = true›
        have h2 := of_decide_eq_true ‹decide (tokV n = s) = true›
        have h3 := HB.out.2
        simp only [h1, h2]
        rw [if_pos (by omega), if_pos ⟨trivial, trivial⟩]
      unfold parV parE; rw [this]; rfl
  · have HP := Hid.mk hp
    clear hp
    simp (config := { contextual := true, dsimp := false }) only [*, ↓reduceIte, ↓evP, evQ, if_true, if_false, eq_self, binv, eqv, lenv, fillO, splice, fldv, Sp.eqa, eqL, eq1, Nat.reduceAdd, Nat.reduceEqDiff, Nat.reduceLeDiff, Nat.reduceMul, reduceCtorEq, Int.reduceLT, Int.reduceLE, Int.reduceGT, Int.reduceGE, Int.reduceEq, Int.reduceNeg]
    (repeat' (first | (refine condF_split (fun hc => ?_) (fun hc => ?_) <;> (try simp only [Bool.not_eq_true', Bool.not_eq_false', Bool.and_eq_true, Bool.or_eq_false_iff] at hc) <;> (try (simp (config := { contextual := true, dsimp := false }) only [*, ↓reduceIte, ↓evP, evQ, if_true, if_false, eq_self, binv, eqv, lenv, fillO, splice, fldv, Sp.eqa, eqL, eq1, Nat.reduceAdd, Nat.reduceEqDiff, Nat.reduceLeDiff, Nat.reduceMul, reduceCtorEq, Int.reduceLT, Int.reduceLE, Int.reduceGT, Int.reduceGE, Int.reduceEq, Int.reduceNeg]))) | (refine callF_v (token19 HG.out n) ?_; (try (simp (config := { contextual := true, dsimp := false }) only [*, ↓reduceIte, ↓evP, evQ, if_true, if_false, eq_self, binv, eqv, lenv, fillO, splice, fldv, Sp.eqa, eqL, eq1, Nat.reduceAdd, Nat.reduceEqDiff, Nat.reduceLeDiff, Nat.reduceMul, reduceCtorEq, Int.reduceLT, Int.reduceLE, Int.reduceGT, Int.reduceGE, Int.reduceEq, Int.reduceNeg]))) | (refine ccallF_of (token19 HG.out n) ?_; (try (simp (config := { contextual := true, dsimp := false }) only [*, ↓reduceIte, ↓evP, evQ, if_true, if_false, eq_self, binv, eqv, lenv, fillO, splice, fldv, Sp.eqa, eqL, eq1, Nat.reduceAdd, Nat.reduceEqDiff, Nat.reduceLeDiff, Nat.reduceMul, reduceCtorEq, Int.reduceLT, Int.reduceLE, Int.reduceGT, Int.reduceGE, Int.reduceEq, Int.reduceNeg]))) | (refine gcallF_of (token19 HG.out n) ?_; (try (simp (config := { contextual := true, dsimp := false }) only [*, ↓reduceIte, ↓evP, evQ, if_true, if_false, eq_self, binv, eqv, lenv, fillO, splice, fldv, Sp.eqa, eqL, eq1, Nat.reduceAdd, Nat.reduceEqDiff, Nat.reduceLeDiff, Nat.reduceMul, reduceCtorEq, Int.reduceLT, Int.reduceLE, Int.reduceGT, Int.reduceGE, Int.reduceEq, Int.reduceNeg]))) | (intro _; intros) | ((refine And.intro ?_ ?_; focus (first | omega | (first | exact Sub.refl _ | ((repeat (first | exact Sub.refl _ | (refine Sub.drop ?_ ?_; focus (simp only [none_upd, none_set, not_false_eq_true, true_and, and_true, *]; done)) | refine Sub.both ?_)); done)) | ((simp only [decide_eq_true_eq, decide_eq_false_iff_not] at *); omega) | (simp_all; done) | (simp_all; omega))); (try (simp (config := { contextual := true, dsimp := false }) only [*, ↓reduceIte, ↓evP, evQ, if_true, if_false, eq_self, binv, eqv, lenv, fillO, splice, fldv, Sp.eqa, eqL, eq1, Nat.reduceAdd, Nat.reduceEqDiff, Nat.reduceLeDiff, Nat.reduceMul, reduceCtorEq, Int.reduceLT, Int.reduceLE, Int.reduceGT, Int.reduceGE, Int.reduceEq, Int.reduceNeg])))))
    refine endF_det ?_ (Sub.refl _)
    have : parN s = none := by
      unfold parN; rw [HB.out.1]
      split
      · split
        · rename_i m hm; exact absurd hm (HP.out m)
        · rfl
      · rfl
    unfold parV parE; rw [this]; rfl
end Go.Proofs.YtaoafjlocjjbbaaDoor
