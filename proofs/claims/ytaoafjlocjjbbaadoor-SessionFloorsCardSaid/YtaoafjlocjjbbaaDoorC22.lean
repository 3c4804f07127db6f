/- The reference's tokens. -/
import Derived.Test.YtaoafjlocjjbbaaDoorC21
namespace Go.Proofs.YtaoafjlocjjbbaaDoor
open Go.Sp
set_option linter.unusedSimpArgs false
set_option linter.unusedVariables false
theorem strOne (n : Int) : strOfNums [n] = ⟨#[UInt8.ofNat n.toNat]⟩ := rfl
theorem deci_small {n : Int} (h0 : 0 ≤ n) (h1 : n < 10) : deci n = ⟨#[UInt8.ofNat (48 + n).toNat]⟩ := by
  obtain ⟨u, rfl⟩ := Int.eq_ofNat_of_zero_le h0
  unfold deci
  rw [Lib.itoa_nonneg, Lib.decDigits_one (by omega)]
  rw [show (48 + (u : Int)).toNat = 48 + u by omega]
theorem deci_step {n : Int} (h0 : 0 ≤ n) (h1 : ¬ n < 10) : deci n = deci (n / 10) ++ ⟨#[UInt8.ofNat (48 + n % 10).toNat]⟩ := by
  obtain ⟨u, rfl⟩ := Int.eq_ofNat_of_zero_le h0
  apply list_ext
  rw [show (u : Int) / 10 = ((u / 10 : Nat) : Int) by omega]
  unfold deci
  rw [Lib.itoa_nonneg, Lib.itoa_nonneg, decDigits_step (by omega)]
  rw [show (48 + (u : Int) % 10).toNat = 48 + u % 10 by omega]
  simp [ByteArray.data_append]
theorem digits50 : ∀ (k : Nat) (n : Int) (σ : Hp), n.toNat ≤ k → 0 ≤ n → n ≤ 9223372036854775807 → ACalls Tryd.prog 50 #[.int .i64 n] σ fun v σ' => v = .string (deci n) ∧ σ' = σ := by
  intro k
  induction k using Nat.strongRecOn with
  | ind k ih =>
    intro n σ hk h0 h1
    have e1 : n.tmod 10 = n % 10 := Int.tmod_eq_emod_of_nonneg h0
    have e2 : IntKind.i64.wrap (48 + n % 10) = 48 + n % 10 := wi64 (by omega)
    have e3 : IntKind.u8.wrap (48 + n % 10) = 48 + n % 10 := IntWalk.u8_in _ (by omega)
    have e4 : n.tdiv 10 = n / 10 := Int.tdiv_eq_ediv_of_nonneg h0
    have e5 : IntKind.i64.wrap (n / 10) = n / 10 := wi64 (by omega)
    have s1 : (deci (n / 10)).size + (⟨#[UInt8.ofNat (48 + n % 10).toNat]⟩ : ByteArray).size ≤ 9223372036854775807 := by
      have := deci_size (n := n / 10) (by omega) (by omega)
      show _ + 1 ≤ _
      omega
    have s2 := strOne (48 + n % 10)
    have H := Hid.mk (And.intro hk (And.intro h0 h1))
    clear hk h0 h1
    (refine acalls_F ok50 (by simp) ?_; unfold c50 r50; simp (config := { contextual := true, dsimp := false }) only [↓reduceIte, ↓evP, evQ, if_true, if_false, eq_self, binv, eqv, lenv, fillO, splice, fldv, Sp.eqa, eqL, eq1, Nat.reduceAdd, Nat.reduceEqDiff, Nat.reduceLeDiff, Nat.reduceMul, reduceCtorEq, Int.reduceLT, Int.reduceLE, Int.reduceGT, Int.reduceGE, Int.reduceEq, Int.reduceNeg])
    (repeat' (first | (refine condF_split (fun hc => ?_) (fun hc => ?_) <;> (try simp only [Bool.not_eq_true', Bool.not_eq_false', Bool.and_eq_true, Bool.or_eq_false_iff] at hc) <;> (try (simp (config := { contextual := true, dsimp := false }) only [*, ↓reduceIte, ↓evP, evQ, if_true, if_false, eq_self, binv, eqv, lenv, fillO, splice, fldv, Sp.eqa, eqL, eq1, Nat.reduceAdd, Nat.reduceEqDiff, Nat.reduceLeDiff, Nat.reduceMul, reduceCtorEq, Int.reduceLT, Int.reduceLE, Int.reduceGT, Int.reduceGE, Int.reduceEq, Int.reduceNeg]))) | (intro _; intros) | ((refine And.intro ?_ ?_; focus (first | omega | (first | exact Sub.refl _ | ((repeat (first | exact Sub.refl _ | (refine Sub.drop ?_ ?_; focus (simp only [none_upd, none_set, not_false_eq_true, true_and, and_true, *]; done)) | refine Sub.both ?_)); done)) | ((simp only [decide_eq_true_eq, decide_eq_false_iff_not] at *); omega) | (simp_all; done) | (simp_all; omega))); (try (simp (config := { contextual := true, dsimp := false }) only [*, ↓reduceIte, ↓evP, evQ, if_true, if_false, eq_self, binv, eqv, lenv, fillO, splice, fldv, Sp.eqa, eqL, eq1, Nat.reduceAdd, Nat.reduceEqDiff, Nat.reduceLeDiff, Nat.reduceMul, reduceCtorEq, Int.reduceLT, Int.reduceLE, Int.reduceGT, Int.reduceGE, Int.reduceEq, Int.reduceNeg])))))
    · have hn := of_decide_eq_true ‹decide (n < 10) = true›
      have h0 := H.out.2.1
      exact endF_det (by rw [deci_small h0 hn, show n % 10 = n by omega]) (by (first | exact Sub.refl _ | ((repeat (first | exact Sub.refl _ | (refine Sub.drop ?_ ?_; focus (simp only [none_upd, none_set, not_false_eq_true, true_and, and_true, *]; done)) | refine Sub.both ?_)); done)))
    · have hn := of_decide_eq_false ‹decide (n < 10) = false›
      have h0 := H.out
      refine callF_v (ih (n / 10).toNat (by omega) (n / 10) _ (Nat.le_refl _) (by omega) (by omega)) ?_
      have hd := Hid.mk (deci_step h0.2.1 hn)
      clear h0 hn
      simp (config := { contextual := true, dsimp := false }) only [*, ↓reduceIte, ↓evP, evQ, if_true, if_false, eq_self, binv, eqv, lenv, fillO, splice, fldv, Sp.eqa, eqL, eq1, Nat.reduceAdd, Nat.reduceEqDiff, Nat.reduceLeDiff, Nat.reduceMul, reduceCtorEq, Int.reduceLT, Int.reduceLE, Int.reduceGT, Int.reduceGE, Int.reduceEq, Int.reduceNeg]
      exact endF_det (by rw [hd.out]) (by (first | exact Sub.refl _ | ((repeat (first | exact Sub.refl _ | (refine Sub.drop ?_ ?_; focus (simp only [none_upd, none_set, not_false_eq_true, true_and, and_true, *]; done)) | refine Sub.both ?_)); done)))
theorem tokU (n : Int) (h0 : 0 ≤ n) (h1 : n ≤ 1099511627776) : IntKind.i64.wrap (n * 7) = n * 7 ∧ IntKind.i64.wrap (n * 7 + 3) = n * 7 + 3 ∧ (n * 7 + 3).tmod 26 = (n * 7 + 3) % 26 ∧ IntKind.i64.wrap (97 + (n * 7 + 3) % 26) = sufI n ∧ IntKind.u8.wrap (sufI n) = sufI n ∧
    (⟨#[116]⟩ : ByteArray).size + (deci n).size ≤ 9223372036854775807 ∧ (⟨#[116]⟩ ++ deci n : ByteArray).size + (⟨#[46]⟩ : ByteArray).size ≤ 9223372036854775807 ∧ (⟨#[116]⟩ ++ deci n ++ ⟨#[46]⟩ : ByteArray).size + (⟨#[UInt8.ofNat (sufI n).toNat]⟩ : ByteArray).size ≤ 9223372036854775807 := by
  have hs := deci_size h0 (by omega)
  have hs0 : 97 ≤ sufI n ∧ sufI n ≤ 122 := by unfold sufI; omega
  refine ⟨wi64 (by omega), wi64 (by omega), Int.tmod_eq_emod_of_nonneg (by omega), wi64 (by omega), IntWalk.u8_in _ (by omega), ?_, ?_, ?_⟩
  · show 1 + _ ≤ _; omega
  · rw [ByteArray.size_append]; show 1 + _ + 1 ≤ _; omega
  · rw [ByteArray.size_append, ByteArray.size_append]; show 1 + _ + 1 + 1 ≤ _; omega
theorem token20 (n : Int) (σ : Hp) : ACalls Tryd.prog 20 #[.int .i64 n] σ fun v σ' => v = .tuple #[.string (tokV n), .int .i64 (tokE n)] ∧ σ' = σ := by
  (refine acalls_F ok20 (by simp) ?_; unfold c20 r20; simp (config := { contextual := true, dsimp := false }) only [↓reduceIte, ↓evP, evQ, if_true, if_false, eq_self, binv, eqv, lenv, fillO, splice, fldv, Sp.eqa, eqL, eq1, Nat.reduceAdd, Nat.reduceEqDiff, Nat.reduceLeDiff, Nat.reduceMul, reduceCtorEq, Int.reduceLT, Int.reduceLE, Int.reduceGT, Int.reduceGE, Int.reduceEq, Int.reduceNeg])
  (repeat' (first | (refine condF_split (fun hc => ?_) (fun hc => ?_) <;> (try simp only [Bool.not_eq_true', Bool.not_eq_false', Bool.and_eq_true, Bool.or_eq_false_iff] at hc) <;> (try (simp (config := { contextual := true, dsimp := false }) only [*, ↓reduceIte, ↓evP, evQ, if_true, if_false, eq_self, binv, eqv, lenv, fillO, splice, fldv, Sp.eqa, eqL, eq1, Nat.reduceAdd, Nat.reduceEqDiff, Nat.reduceLeDiff, Nat.reduceMul, reduceCtorEq, Int.reduceLT, Int.reduceLE, Int.reduceGT, Int.reduceGE, Int.reduceEq, Int.reduceNeg]))) | (intro _; intros) | ((refine And.intro ?_ ?_; focus (first | omega | (first | exact Sub.refl _ | ((repeat (first | exact Sub.refl _ | (refine Sub.drop ?_ ?_; focus (simp only [none_upd, none_set, not_false_eq_true, true_and, and_true, *]; done)) | refine Sub.both ?_)); done)) | ((simp only [decide_eq_true_eq, decide_eq_false_iff_not] at *); omega) | (simp_all; done) | (simp_all; omega))); (try (simp (config := { contextual := true, dsimp := false }) only [*, ↓reduceIte, ↓evP, evQ, if_true, if_false, eq_self, binv, eqv, lenv, fillO, splice, fldv, Sp.eqa, eqL, eq1, Nat.reduceAdd, Nat.reduceEqDiff, Nat.reduceLeDiff, Nat.reduceMul, reduceCtorEq, Int.reduceLT, Int.reduceLE, Int.reduceGT, Int.reduceGE, Int.reduceEq, Int.reduceNeg])))))
  · exact endF_det (by unfold tokV tokE tokBad; rw [hc]; rfl) (Sub.refl _)
  · rename_i h1; exact endF_det (by unfold tokV tokE tokBad; rw [h1, hc]; rfl) (Sub.refl _)
  have hb : tokBad n = false := by unfold tokBad; rw [‹decide (n < 0) = false›, ‹decide (n > 1099511627776) = false›]; rfl
  have h0 : 0 ≤ n := by have := of_decide_eq_false ‹decide (n < 0) = false›; omega
  have h1 : n ≤ 1099511627776 := by have := of_decide_eq_false ‹decide (n > 1099511627776) = false›; omega
  obtain ⟨e1, e2, e3, e4, e5, s1, s2, s3⟩ := tokU n h0 h1
  have e6 := strOne (sufI n)
  refine gcallF_of (digits50 n.toNat n σ (Nat.le_refl _) h0 (by omega)) ?_
  have HT := Hid.mk (show tokV n = ⟨#[116]⟩ ++ deci n ++ ⟨#[46]⟩ ++ ⟨#[UInt8.ofNat (sufI n).toNat]⟩ ∧ tokE n = 0 by unfold tokV tokE; rw [hb]; exact ⟨rfl, rfl⟩)
  clear hb h0 h1
  simp (config := { contextual := true, dsimp := false }) only [*, ↓reduceIte, ↓evP, evQ, if_true, if_false, eq_self, binv, eqv, lenv, fillO, splice, fldv, Sp.eqa, eqL, eq1, Nat.reduceAdd, Nat.reduceEqDiff, Nat.reduceLeDiff, Nat.reduceMul, reduceCtorEq, Int.reduceLT, Int.reduceLE, Int.reduceGT, Int.reduceGE, Int.reduceEq, Int.reduceNeg]
  (repeat' (first | (refine condF_split (fun hc => ?_) (fun hc => ?_) <;> (try simp only [Bool.not_eq_true', Bool.not_eq_false', Bool.and_eq_true, Bool.or_eq_false_iff] at hc) <;> (try (simp (config := { contextual := true, dsimp := false }) only [*, ↓reduceIte, ↓evP, evQ, if_true, if_false, eq_self, binv, eqv, lenv, fillO, splice, fldv, Sp.eqa, eqL, eq1, Nat.reduceAdd, Nat.reduceEqDiff, Nat.reduceLeDiff, Nat.reduceMul, reduceCtorEq, Int.reduceLT, Int.reduceLE, Int.reduceGT, Int.reduceGE, Int.reduceEq, Int.reduceNeg]))) | (intro _; intros) | ((refine And.intro ?_ ?_; focus (first | omega | (first | exact Sub.refl _ | ((repeat (first | exact Sub.refl _ | (refine Sub.drop ?_ ?_; focus (simp only [none_upd, none_set, not_false_eq_true, true_and, and_true, *]; done)) | refine Sub.both ?_)); done)) | ((simp only [decide_eq_true_eq, decide_eq_false_iff_not] at *); omega) | (simp_all; done) | (simp_all; omega))); (try (simp (config := { contextual := true, dsimp := false }) only [*, ↓reduceIte, ↓evP, evQ, if_true, if_false, eq_self, binv, eqv, lenv, fillO, splice, fldv, Sp.eqa, eqL, eq1, Nat.reduceAdd, Nat.reduceEqDiff, Nat.reduceLeDiff, Nat.reduceMul, reduceCtorEq, Int.reduceLT, Int.reduceLE, Int.reduceGT, Int.reduceGE, Int.reduceEq, Int.reduceNeg])))))
  refine endF_det ?_ ?_
  · rw [HT.out.1, HT.out.2]
  · exact (by (first | exact Sub.refl _ | ((repeat (first | exact Sub.refl _ | (refine Sub.drop ?_ ?_; focus (simp only [none_upd, none_set, not_false_eq_true, true_and, and_true, *]; done)) | refine Sub.both ?_)); done)))
end Go.Proofs.YtaoafjlocjjbbaaDoor
