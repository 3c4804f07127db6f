/- Token: a floor's token. -/
import Derived.Test.YtaoafjlocjjbbaaDoorC13
namespace Go.Proofs.YtaoafjlocjjbbaaDoor
open Go.Sp
set_option linter.unusedSimpArgs false
set_option linter.unusedVariables false
theorem nDigits_le : ∀ (k u : Nat), 0 < k → u < 10 ^ k → Lib.nDigits u ≤ k
  | 1, u, _, h => by rw [Lib.nDigits_small (by simpa using h)]; omega
  | k + 2, u, _, h => by
    by_cases h10 : u < 10
    · rw [Lib.nDigits_small h10]; omega
    · rw [Lib.nDigits, dif_neg h10]
      have := nDigits_le (k + 1) (u / 10) (by omega) (by rw [Nat.pow_succ] at h; omega)
      omega
theorem deci_size {n : Int} (h0 : 0 ≤ n) (h1 : n ≤ 9223372036854775807) : (deci n).size ≤ 19 := by
  obtain ⟨u, rfl⟩ := Int.eq_ofNat_of_zero_le h0
  show (Lib.itoa u).toArray.size ≤ 19
  rw [Lib.itoa_nonneg, List.size_toArray, Lib.decDigits_length]
  exact nDigits_le 19 u (by omega) (by omega)
def sufI (n : Int) : Int := 97 + (n * 7 + 3) % 26
def tokB (n : Int) : ByteArray := ⟨#[116]⟩ ++ deci n ++ ⟨#[46]⟩ ++ ⟨#[UInt8.ofNat (sufI n).toNat]⟩
def tokBad (n : Int) : Bool := decide (n < 0) || decide (n > 1099511627776)
def tokV (n : Int) : ByteArray := cond (tokBad n) ⟨#[]⟩ (tokB n)
def tokE (n : Int) : Int := cond (tokBad n) 1 0
theorem encode_low {r : Int} (h0 : 97 ≤ r) (h1 : r ≤ 122) : Utf8.encode r = ⟨#[UInt8.ofNat r.toNat]⟩ := by
  obtain ⟨k, rfl⟩ : ∃ k : Nat, r = (97 + k : Nat) := ⟨(r - 97).toNat, by omega⟩
  have hk : k < 26 := by omega
  revert hk
  clear h0 h1
  revert k
  decide
theorem deciV (n : Int) : True := trivial
theorem token19x {σ : Hp} (n : Int) (hf : tokBad n = false → ACalls Tryd.prog 49 #[.int .i64 n, .int .i64 10] σ fun v σ' => v = .string (deci n) ∧ σ' = σ) : ACalls Tryd.prog 19 #[.int .i64 n] σ fun v σ' => v = .tuple #[.string (tokV n), .int .i64 (tokE n)] ∧ σ' = σ := by
  (refine acalls_F ok19 (by simp) ?_; unfold c19 r19; simp (config := { contextual := true, dsimp := false }) only [deciV, ↓reduceIte, ↓evP, evQ, if_true, if_false, eq_self, binv, eqv, lenv, fillO, splice, fldv, Sp.eqa, eqL, eq1, Nat.reduceAdd, Nat.reduceEqDiff, Nat.reduceLeDiff, Nat.reduceMul, reduceCtorEq, Int.reduceLT, Int.reduceLE, Int.reduceGT, Int.reduceGE, Int.reduceEq, Int.reduceNeg])
  (repeat' (first | (refine condF_split (fun hc => ?_) (fun hc => ?_) <;> (try simp only [Bool.not_eq_true', Bool.not_eq_false', Bool.and_eq_true, Bool.or_eq_false_iff] at hc) <;> (try (simp (config := { contextual := true, dsimp := false }) only [*, deciV, ↓reduceIte, ↓evP, evQ, if_true, if_false, eq_self, binv, eqv, lenv, fillO, splice, fldv, Sp.eqa, eqL, eq1, Nat.reduceAdd, Nat.reduceEqDiff, Nat.reduceLeDiff, Nat.reduceMul, reduceCtorEq, Int.reduceLT, Int.reduceLE, Int.reduceGT, Int.reduceGE, Int.reduceEq, Int.reduceNeg]))) | (intro _; intros) | ((refine And.intro ?_ ?_; focus (first | omega | (first | exact Sub.refl _ | ((repeat (first | exact Sub.refl _ | (refine Sub.drop ?_ ?_; focus (simp only [none_upd, none_set, not_false_eq_true, true_and, and_true, *]; done)) | refine Sub.both ?_)); done)) | ((simp only [decide_eq_true_eq, decide_eq_false_iff_not] at *); omega) | (simp_all; done) | (simp_all; omega))); (try (simp (config := { contextual := true, dsimp := false }) only [*, deciV, ↓reduceIte, ↓evP, evQ, if_true, if_false, eq_self, binv, eqv, lenv, fillO, splice, fldv, Sp.eqa, eqL, eq1, Nat.reduceAdd, Nat.reduceEqDiff, Nat.reduceLeDiff, Nat.reduceMul, reduceCtorEq, Int.reduceLT, Int.reduceLE, Int.reduceGT, Int.reduceGE, Int.reduceEq, Int.reduceNeg])))))
  · exact endF_det (by unfold tokV tokE tokBad; rw [hc]; rfl) (Sub.refl _)
  · rename_i h1; exact endF_det (by unfold tokV tokE tokBad; rw [h1, hc]; rfl) (Sub.refl _)
  have hb : tokBad n = false := by unfold tokBad; rw [‹decide (n < 0) = false›, ‹decide (n > 1099511627776) = false›]; rfl
  have h0 : 0 ≤ n := by have := of_decide_eq_false ‹decide (n < 0) = false›; omega
  have h1 : n ≤ 1099511627776 := by have := of_decide_eq_false ‹decide (n > 1099511627776) = false›; omega
  have hs := deci_size h0 (by omega)
  refine callF_v (hf hb) ?_
  have e1 : IntKind.i64.wrap (n * 7) = n * 7 := wi64 (by omega)
  have e2 : IntKind.i64.wrap (n * 7 + 3) = n * 7 + 3 := wi64 (by omega)
  have e3 : (n * 7 + 3).tmod 26 = (n * 7 + 3) % 26 := Int.tmod_eq_emod_of_nonneg (by omega)
  have e4 : IntKind.i64.wrap (97 + (n * 7 + 3) % 26) = sufI n := wi64 (by omega)
  have hs0 : 97 ≤ sufI n ∧ sufI n ≤ 122 := by unfold sufI; omega
  have e5 : IntKind.i32.wrap (sufI n) = sufI n := IntWalk.i32_in _ (by omega)
  have e6 := encode_low hs0.1 hs0.2
  have s1 : (⟨#[116]⟩ : ByteArray).size + (deci n).size ≤ 9223372036854775807 := by show 1 + _ ≤ _; omega
  have s2 : (⟨#[116]⟩ ++ deci n : ByteArray).size + (⟨#[46]⟩ : ByteArray).size ≤ 9223372036854775807 := by rw [ByteArray.size_append]; show 1 + _ + 1 ≤ _; omega
  have s3 : (⟨#[116]⟩ ++ deci n ++ ⟨#[46]⟩ : ByteArray).size + (⟨#[UInt8.ofNat (sufI n).toNat]⟩ : ByteArray).size ≤ 9223372036854775807 := by rw [ByteArray.size_append, ByteArray.size_append]; show 1 + _ + 1 + 1 ≤ _; omega
  have HT := Hid.mk (show tokV n = ⟨#[116]⟩ ++ deci n ++ ⟨#[46]⟩ ++ ⟨#[UInt8.ofNat (sufI n).toNat]⟩ ∧ tokE n = 0 by unfold tokV tokE; rw [hb]; exact ⟨rfl, rfl⟩)
  clear hf hb hs h0 h1 hs0
  simp (config := { contextual := true, dsimp := false }) only [*, deciV, ↓reduceIte, ↓evP, evQ, if_true, if_false, eq_self, binv, eqv, lenv, fillO, splice, fldv, Sp.eqa, eqL, eq1, Nat.reduceAdd, Nat.reduceEqDiff, Nat.reduceLeDiff, Nat.reduceMul, reduceCtorEq, Int.reduceLT, Int.reduceLE, Int.reduceGT, Int.reduceGE, Int.reduceEq, Int.reduceNeg]
  exact endF_det (by rw [HT.out.1, HT.out.2]) (Sub.refl _)
theorem token19 {σ : Hp} (hG : Glob σ) (n : Int) : ACalls Tryd.prog 19 #[.int .i64 n] σ fun v σ' => v = .tuple #[.string (tokV n), .int .i64 (tokE n)] ∧ σ' = σ :=
  token19x n fun h => format49 hG n (by unfold tokBad at h; simp at h; omega) (by unfold tokBad at h; simp at h; omega)
theorem token19s {σ : Hp} (n : Nat) (h : n < 100) : ACalls Tryd.prog 19 #[.int .i64 n] σ fun v σ' => v = .tuple #[.string (tokV n), .int .i64 (tokE n)] ∧ σ' = σ :=
  token19x n fun _ => format49s n h
end Go.Proofs.YtaoafjlocjjbbaaDoor
