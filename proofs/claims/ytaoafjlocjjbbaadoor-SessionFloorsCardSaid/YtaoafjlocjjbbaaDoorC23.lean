/- The reference's Parse. -/
import Derived.Test.YtaoafjlocjjbbaaDoorC22
namespace Go.Proofs.YtaoafjlocjjbbaaDoor
open Go.Sp
set_option linter.unusedSimpArgs false
set_option linter.unusedVariables false
theorem drop_cons {l : List UInt8} {i : Nat} (h : i < l.length) : l.drop i = l.getD i 0 :: l.drop (i + 1) := by
  rw [List.drop_eq_getElem_cons h, List.getD_eq_getElem?_getD, List.getElem?_eq_getElem h]; rfl
theorem rpl_go {s : ByteArray} {i : Nat} {n : Int} (h1 : i < s.size) (h2 : i < 20) (h3 : 48 ≤ (s.data.toList.getD i 0).toNat) (h4 : (s.data.toList.getD i 0).toNat ≤ 57) (h5 : n ≤ 1099511627776) :
    rpl (20 - (i + 1)) (s.data.toList.drop (i + 1)) (10 * n + (((s.data.toList.getD i 0).toNat : Int) - 48)) = rpl (20 - i) (s.data.toList.drop i) n := by
  rw [size_list] at h1
  rw [drop_cons h1, show 20 - i = (20 - (i + 1)) + 1 by omega, rpl, if_pos ⟨⟨h3, h4⟩, h5⟩]
theorem rpl_stop {s : ByteArray} {i : Nat} {n : Int} (hi : i ≤ 20) (h : ¬ (i < s.size ∧ i < 20 ∧ 48 ≤ (s.data.toList.getD i 0).toNat ∧ (s.data.toList.getD i 0).toNat ≤ 57 ∧ n ≤ 1099511627776)) : rpl (20 - i) (s.data.toList.drop i) n = n := by
  rcases Nat.lt_or_ge i 20 with h20 | h20
  · rw [show 20 - i = (20 - (i + 1)) + 1 by omega]
    rcases Nat.lt_or_ge i s.size with hs | hs
    · rw [size_list] at hs
      rw [drop_cons hs, rpl, if_neg (fun ⟨⟨h3, h4⟩, h5⟩ => h ⟨by rw [size_list]; exact hs, h20, h3, h4, h5⟩)]
    · rw [List.drop_eq_nil_of_le (by rw [← size_list]; exact hs)]; rfl
  · rw [show 20 - i = 0 by omega]; cases s.data.toList.drop i <;> rfl
theorem par_end {s : ByteArray} {n : Int} (hN : n = rpl 19 (s.data.toList.drop 1) 0) : parV s = cond (decide (tokE n = 0) && decide (tokV n = s)) n 0 ∧ parE s = cond (decide (tokE n = 0) && decide (tokV n = s)) 0 30 := by
  have h := rpl_par s
  rw [← hN] at h
  unfold parV parE
  rw [← h]
  by_cases h1 : tokE n = 0 <;> by_cases h2 : tokV n = s <;> simp [h1, h2]
theorem par22 (s : ByteArray) (σ : Hp) (hs : s.size ≤ 281474976710656) : ACalls Tryd.prog 22 #[.string s] σ fun v σ' => v = .tuple #[.int .i64 (parV s), .int .i64 (parE s)] ∧ σ' = σ := by
  (refine acalls_F ok22 (by simp) ?_; unfold c22 r22; simp (config := { contextual := true, dsimp := false }) only [↓reduceIte, ↓evP, evQ, if_true, if_false, eq_self, binv, eqv, lenv, fillO, splice, fldv, Sp.eqa, eqL, eq1, Nat.reduceAdd, Nat.reduceEqDiff, Nat.reduceLeDiff, Nat.reduceMul, reduceCtorEq, Int.reduceLT, Int.reduceLE, Int.reduceGT, Int.reduceGE, Int.reduceEq, Int.reduceNeg])
  refine loopF_of (fun k t σ' => ∃ (i : Nat) (n : Int), 1 ≤ i ∧ i ≤ 20 ∧ k = 20 - i ∧ t 0 = .string s ∧ t 5 = .int .i64 i ∧ t 4 = .int .i64 n ∧ σ' = σ ∧ 0 ≤ n ∧ n ≤ 10995116277769 ∧ rpl (20 - i) (s.data.toList.drop i) n = rpl 19 (s.data.toList.drop 1) 0) 19 (Sub.refl _)
    ⟨1, 0, by omega, by omega, rfl, (by first | rfl | (simp only [↓putO_get, ↓putO_no, init_zero, init_succ, Nat.reduceEqDiff, ↓reduceIte, *]; done) | (simp only [↓putO_get, ↓putO_no, init_zero, init_succ, Nat.reduceEqDiff, ↓reduceIte, *]; rfl)), (by first | rfl | (simp only [↓putO_get, ↓putO_no, init_zero, init_succ, Nat.reduceEqDiff, ↓reduceIte, *]; done) | (simp only [↓putO_get, ↓putO_no, init_zero, init_succ, Nat.reduceEqDiff, ↓reduceIte, *]; rfl)), (by first | rfl | (simp only [↓putO_get, ↓putO_no, init_zero, init_succ, Nat.reduceEqDiff, ↓reduceIte, *]; done) | (simp only [↓putO_get, ↓putO_no, init_zero, init_succ, Nat.reduceEqDiff, ↓reduceIte, *]; rfl)), rfl, by omega, by omega, rfl⟩ ?_
  rintro k t σ' ⟨i, n, h1, h20, rfl, t0, t5, t4, rfl, hn0, hn1, hr⟩
  have w1 : IntKind.i64.wrap ((i : Int) + 1) = ((i + 1 : Nat) : Int) := by rw [wi64 (by omega)]; rfl
  have w2 : IntKind.i64.wrap (10 * n) = 10 * n := wi64 (by omega)
  have HR := Hid.mk (And.intro h1 (And.intro h20 (And.intro hn0 (And.intro hn1 hr))))
  clear h1 h20 hn0 hn1 hr
  simp (config := { contextual := true, dsimp := false }) only [*, ↓reduceIte, ↓evP, evQ, if_true, if_false, eq_self, binv, eqv, lenv, fillO, splice, fldv, Sp.eqa, eqL, eq1, Nat.reduceAdd, Nat.reduceEqDiff, Nat.reduceLeDiff, Nat.reduceMul, reduceCtorEq, Int.reduceLT, Int.reduceLE, Int.reduceGT, Int.reduceGE, Int.reduceEq, Int.reduceNeg]
  (repeat' (first | (refine condF_split (fun hc => ?_) (fun hc => ?_) <;> (try simp only [Bool.not_eq_true', Bool.not_eq_false', Bool.and_eq_true, Bool.or_eq_false_iff] at hc) <;> (try (simp (config := { contextual := true, dsimp := false }) only [*, ↓reduceIte, ↓evP, evQ, if_true, if_false, eq_self, binv, eqv, lenv, fillO, splice, fldv, Sp.eqa, eqL, eq1, Nat.reduceAdd, Nat.reduceEqDiff, Nat.reduceLeDiff, Nat.reduceMul, reduceCtorEq, Int.reduceLT, Int.reduceLE, Int.reduceGT, Int.reduceGE, Int.reduceEq, Int.reduceNeg]))) | (intro _; intros) | ((refine And.intro ?_ ?_; focus (first | omega | (first | exact Sub.refl _ | ((repeat (first | exact Sub.refl _ | (refine Sub.drop ?_ ?_; focus (simp only [none_upd, none_set, not_false_eq_true, true_and, and_true, *]; done)) | refine Sub.both ?_)); done)) | ((simp only [decide_eq_true_eq, decide_eq_false_iff_not] at *); omega) | (simp_all; done) | (simp_all; omega))); (try (simp (config := { contextual := true, dsimp := false }) only [*, ↓reduceIte, ↓evP, evQ, if_true, if_false, eq_self, binv, eqv, lenv, fillO, splice, fldv, Sp.eqa, eqL, eq1, Nat.reduceAdd, Nat.reduceEqDiff, Nat.reduceLeDiff, Nat.reduceMul, reduceCtorEq, Int.reduceLT, Int.reduceLE, Int.reduceGT, Int.reduceGE, Int.reduceEq, Int.reduceNeg])))))
  · simp only [decide_eq_true_eq, ge_iff_le] at *
    refine nextF_of (σ₁ := σ') (20 - (i + 1)) (by have := HR.out.2.1; omega) (Sub.refl _) ⟨i + 1, 10 * n + (((s.data.toList.getD i 0).toNat : Int) - 48), by omega, by omega, rfl, (by first | rfl | (simp only [↓putO_get, ↓putO_no, init_zero, init_succ, Nat.reduceEqDiff, ↓reduceIte, *]; done) | (simp only [↓putO_get, ↓putO_no, init_zero, init_succ, Nat.reduceEqDiff, ↓reduceIte, *]; rfl)), (by first | rfl | (simp only [↓putO_get, ↓putO_no, init_zero, init_succ, Nat.reduceEqDiff, ↓reduceIte, *]; done) | (simp only [↓putO_get, ↓putO_no, init_zero, init_succ, Nat.reduceEqDiff, ↓reduceIte, *]; rfl)), ?_, rfl, by have := HR.out.2.2.1; omega, by omega, ?_⟩
    · show Value.int .i64 (IntKind.i64.wrap _) = _
      have c1 : IntKind.u8.wrap (((s.data.toList.getD i 0).toNat : Int) - 48) = ((s.data.toList.getD i 0).toNat : Int) - 48 := IntWalk.u8_in _ (by omega)
      have c2 : IntKind.i64.wrap (((s.data.toList.getD i 0).toNat : Int) - 48) = ((s.data.toList.getD i 0).toNat : Int) - 48 := wi64 (by omega)
      rw [c1, c2, wi64 (by have := HR.out.2.2.1; omega)]
    · rw [rpl_go (by omega) (by omega) (by omega) (by omega) (by omega)]; exact HR.out.2.2.2.2
  all_goals
    have hN : n = rpl 19 (s.data.toList.drop 1) 0 := by
      rw [← HR.out.2.2.2.2]
      refine (rpl_stop HR.out.2.1 (fun h => ?_)).symm
      simp only [decide_eq_true_eq, decide_eq_false_iff_not, ge_iff_le] at *
      omega
    have HP := Hid.mk (par_end hN)
    clear hN HR
    (repeat' (first | (refine condF_split (fun hc => ?_) (fun hc => ?_) <;> (try simp only [Bool.not_eq_true', Bool.not_eq_false', Bool.and_eq_true, Bool.or_eq_false_iff] at hc) <;> (try (simp (config := { contextual := true, dsimp := false }) only [*, ↓reduceIte, ↓evP, evQ, if_true, if_false, eq_self, binv, eqv, lenv, fillO, splice, fldv, Sp.eqa, eqL, eq1, Nat.reduceAdd, Nat.reduceEqDiff, Nat.reduceLeDiff, Nat.reduceMul, reduceCtorEq, Int.reduceLT, Int.reduceLE, Int.reduceGT, Int.reduceGE, Int.reduceEq, Int.reduceNeg]))) | (refine callF_v (token20 _ _) ?_; (try (simp (config := { contextual := true, dsimp := false }) only [*, ↓reduceIte, ↓evP, evQ, if_true, if_false, eq_self, binv, eqv, lenv, fillO, splice, fldv, Sp.eqa, eqL, eq1, Nat.reduceAdd, Nat.reduceEqDiff, Nat.reduceLeDiff, Nat.reduceMul, reduceCtorEq, Int.reduceLT, Int.reduceLE, Int.reduceGT, Int.reduceGE, Int.reduceEq, Int.reduceNeg]))) | (refine ccallF_of (token20 _ _) ?_; (try (simp (config := { contextual := true, dsimp := false }) only [*, ↓reduceIte, ↓evP, evQ, if_true, if_false, eq_self, binv, eqv, lenv, fillO, splice, fldv, Sp.eqa, eqL, eq1, Nat.reduceAdd, Nat.reduceEqDiff, Nat.reduceLeDiff, Nat.reduceMul, reduceCtorEq, Int.reduceLT, Int.reduceLE, Int.reduceGT, Int.reduceGE, Int.reduceEq, Int.reduceNeg]))) | (refine gcallF_of (token20 _ _) ?_; (try (simp (config := { contextual := true, dsimp := false }) only [*, ↓reduceIte, ↓evP, evQ, if_true, if_false, eq_self, binv, eqv, lenv, fillO, splice, fldv, Sp.eqa, eqL, eq1, Nat.reduceAdd, Nat.reduceEqDiff, Nat.reduceLeDiff, Nat.reduceMul, reduceCtorEq, Int.reduceLT, Int.reduceLE, Int.reduceGT, Int.reduceGE, Int.reduceEq, Int.reduceNeg]))) | (intro _; intros) | ((refine And.intro ?_ ?_; focus (first | omega | (first | exact Sub.refl _ | ((repeat (first | exact Sub.refl _ | (refine Sub.drop ?_ ?_; focus (simp only [none_upd, none_set, not_false_eq_true, true_and, and_true, *]; done)) | refine Sub.both ?_)); done)) | ((simp only [decide_eq_true_eq, decide_eq_false_iff_not] at *); omega) | (simp_all; done) | (simp_all; omega))); (try (simp (config := { contextual := true, dsimp := false }) only [*, ↓reduceIte, ↓evP, evQ, if_true, if_false, eq_self, binv, eqv, lenv, fillO, splice, fldv, Sp.eqa, eqL, eq1, Nat.reduceAdd, Nat.reduceEqDiff, Nat.reduceLeDiff, Nat.reduceMul, reduceCtorEq, Int.reduceLT, Int.reduceLE, Int.reduceGT, Int.reduceGE, Int.reduceEq, Int.reduceNeg])))))
    all_goals
      refine endF_det ?_ (Sub.refl _)
      rw [HP.out.1, HP.out.2]
      simp [*]
end Go.Proofs.YtaoafjlocjjbbaaDoor
