/- What the hash and the way to a node answer. -/
import Derived.Test.YtmjpcpipacciiaaB1
import Derived.IntWalk
namespace Go.Proofs.Ytmjpcpipacciiaa
open Go.Sp
set_option linter.unusedSimpArgs false
set_option linter.unusedVariables false
def hstep (h : Int) (b : UInt8) : Int := IntKind.u64.wrap (IntKind.u64.wrap ((BitVec.ofInt IntKind.u64.bits h ^^^ BitVec.ofInt IntKind.u64.bits (IntKind.u64.wrap (b.toNat : Int))).toNat : Int) * 1099511628211)
def hashN (l : List UInt8) (i : Nat) : Int := (l.take i).foldl hstep 14695981039346656037
def hashK (k : ByteArray) : Int := hashN k.data.toList k.data.toList.length
theorem hashN_succ (l : List UInt8) (i : Nat) (h : i < l.length) : hashN l (i + 1) = hstep (hashN l i) (l.getD i 0) := by
  unfold hashN
  rw [List.take_succ_eq_append_getElem h, List.foldl_append]
  have e : l.getD i 0 = l[i] := by rw [List.getD_eq_getElem?_getD, List.getElem?_eq_getElem h]; rfl
  rw [e]; rfl
theorem size_len (k : ByteArray) : k.size = k.data.toList.length := Array.length_toList.symm
theorem wi64 {n : Int} (h : -9223372036854775808 ≤ n ∧ n ≤ 9223372036854775807) : IntKind.i64.wrap n = n := IntWalk.i64_in n (by omega)
theorem hash42 (key : ByteArray) (σ : Hp) (hsz : key.size ≤ 140737488351232) : ACalls Try.prog 42 #[.string key] σ fun v σ' => v = .int .u64 (hashK key) ∧ σ' = σ := by
  (refine acalls_F ok42 (by simp) ?_; unfold c42 r42; simp (config := { contextual := true, dsimp := false }) only [↓reduceIte, ↓evP, evQ, if_true, if_false, eq_self, binv, eqv, lenv, fillO, splice, fldv, Sp.eqa, eqL, eq1, Nat.reduceAdd, Nat.reduceEqDiff, Nat.reduceLeDiff, Nat.reduceMul, reduceCtorEq, Int.reduceLT, Int.reduceLE, Int.reduceGT, Int.reduceGE, Int.reduceEq, Int.reduceNeg])
  refine loopF_of (fun k s σ' => ∃ i : Nat, i ≤ key.size ∧ k = key.size - i ∧ s 7 = .int .i64 i ∧ s 3 = .int .u64 (hashN key.data.toList i) ∧ s 6 = .int .i64 key.size ∧ s 0 = .string key ∧ σ' = σ) key.size (Sub.refl _) ⟨0, by omega, rfl, rfl, rfl, rfl, rfl, rfl⟩ ?_
  rintro k s σ' ⟨i, hi, hk, h7, h3, h6, h0, rfl⟩
  simp (config := { contextual := true, dsimp := false }) only [*, ↓reduceIte, ↓evP, evQ, if_true, if_false, eq_self, binv, eqv, lenv, fillO, splice, fldv, Sp.eqa, eqL, eq1, Nat.reduceAdd, Nat.reduceEqDiff, Nat.reduceLeDiff, Nat.reduceMul, reduceCtorEq, Int.reduceLT, Int.reduceLE, Int.reduceGT, Int.reduceGE, Int.reduceEq, Int.reduceNeg]
  (repeat' (first | (refine condF_split (fun hc => ?_) (fun hc => ?_) <;> (try simp only [Bool.not_eq_true', Bool.not_eq_false', Bool.and_eq_true, Bool.or_eq_false_iff] at hc) <;> (try (simp (config := { contextual := true, dsimp := false }) only [*, ↓reduceIte, ↓evP, evQ, if_true, if_false, eq_self, binv, eqv, lenv, fillO, splice, fldv, Sp.eqa, eqL, eq1, Nat.reduceAdd, Nat.reduceEqDiff, Nat.reduceLeDiff, Nat.reduceMul, reduceCtorEq, Int.reduceLT, Int.reduceLE, Int.reduceGT, Int.reduceGE, Int.reduceEq, Int.reduceNeg]))) | (intro _; intros) | ((refine And.intro ?_ ?_; focus (first | omega | (first | exact Sub.refl _ | ((repeat (first | exact Sub.refl _ | (refine Sub.drop ?_ ?_; focus (simp only [none_upd, none_set, not_false_eq_true, true_and, and_true, *]; done)) | refine Sub.both ?_)); done)) | ((simp only [decide_eq_true_eq, decide_eq_false_iff_not] at *); omega) | (simp_all; done) | (simp_all; omega))); (try (simp (config := { contextual := true, dsimp := false }) only [*, ↓reduceIte, ↓evP, evQ, if_true, if_false, eq_self, binv, eqv, lenv, fillO, splice, fldv, Sp.eqa, eqL, eq1, Nat.reduceAdd, Nat.reduceEqDiff, Nat.reduceLeDiff, Nat.reduceMul, reduceCtorEq, Int.reduceLT, Int.reduceLE, Int.reduceGT, Int.reduceGE, Int.reduceEq, Int.reduceNeg])))))
  all_goals (try simp only [decide_eq_true_eq, decide_eq_false_iff_not] at *)
  · refine nextF_of (key.size - (i + 1)) (by omega) (Sub.refl _) ⟨i + 1, by omega, rfl, ?_, ?_, (by first | rfl | (simp only [↓putO_get, ↓putO_no, init_zero, init_succ, Nat.reduceEqDiff, ↓reduceIte, *]; done) | (simp only [↓putO_get, ↓putO_no, init_zero, init_succ, Nat.reduceEqDiff, ↓reduceIte, *]; rfl)), (by first | rfl | (simp only [↓putO_get, ↓putO_no, init_zero, init_succ, Nat.reduceEqDiff, ↓reduceIte, *]; done) | (simp only [↓putO_get, ↓putO_no, init_zero, init_succ, Nat.reduceEqDiff, ↓reduceIte, *]; rfl)), rfl⟩
    · show Value.int .i64 (IntKind.i64.wrap _) = _; rw [wi64 (by omega)]; rfl
    · rw [hashN_succ _ _ (by rw [← size_len]; omega)]; rfl
  · obtain rfl : i = key.size := by omega
    exact endF_sub (by (first | exact Sub.refl _ | ((repeat (first | exact Sub.refl _ | (refine Sub.drop ?_ ?_; focus (simp only [none_upd, none_set, not_false_eq_true, true_and, and_true, *]; done)) | refine Sub.both ?_)); done))) ⟨by rw [size_len]; rfl, rfl⟩
theorem or_eq_xor_add_and (n : Nat) : ∀ a b : Nat, a < 2 ^ n → b < 2 ^ n → a ||| b = (a ^^^ b) + (a &&& b) := by
  induction n with
  | zero =>
    intro a b ha hb
    obtain rfl : a = 0 := by omega
    obtain rfl : b = 0 := by omega
    rfl
  | succ n ih =>
    intro a b ha hb
    have h2 := ih (a / 2) (b / 2) (by omega) (by omega)
    rw [← Nat.or_div_two, ← Nat.xor_div_two, ← Nat.and_div_two] at h2
    have m1 := Nat.or_mod_two_eq_one (a := a) (b := b)
    have m2 := Nat.xor_mod_two_eq_one (a := a) (b := b)
    have m3 := Nat.and_mod_two_eq_one (a := a) (b := b)
    generalize a ||| b = x at *
    generalize a ^^^ b = y at *
    generalize a &&& b = z at *
    by_cases ea : a % 2 = 1 <;> by_cases eb : b % 2 = 1 <;> simp [ea, eb] at m1 m2 m3 <;> omega

theorem or_and (x y : BitVec 64) : IntKind.u64.wrap ((IntKind.u64.wrap ((x ||| y).toNat : Int)) - IntKind.u64.wrap ((x &&& y).toNat : Int)) = IntKind.u64.wrap ((x ^^^ y).toNat : Int) := by
  have h := or_eq_xor_add_and 64 x.toNat y.toNat x.isLt y.isLt
  have l1 := (x ||| y).isLt
  have l2 := (x &&& y).isLt
  rw [← BitVec.toNat_or, ← BitVec.toNat_xor, ← BitVec.toNat_and] at h
  simp only [IntKind.wrap_u64]
  omega
theorem or_and' (x y : BitVec IntKind.u64.bits) : IntKind.u64.wrap ((IntKind.u64.wrap ((x ||| y).toNat : Int)) - IntKind.u64.wrap ((x &&& y).toNat : Int)) = IntKind.u64.wrap ((x ^^^ y).toNat : Int) := or_and x y
theorem hash51 (key : ByteArray) (σ : Hp) (hsz : key.size ≤ 140737488351232) : ACalls Try.prog 51 #[.string key] σ fun v σ' => v = .int .u64 (hashK key) ∧ σ' = σ := by
  (refine acalls_F ok51 (by simp) ?_; unfold c51 r51; simp (config := { contextual := true, dsimp := false }) only [↓reduceIte, ↓evP, evQ, if_true, if_false, eq_self, binv, eqv, lenv, fillO, splice, fldv, Sp.eqa, eqL, eq1, Nat.reduceAdd, Nat.reduceEqDiff, Nat.reduceLeDiff, Nat.reduceMul, reduceCtorEq, Int.reduceLT, Int.reduceLE, Int.reduceGT, Int.reduceGE, Int.reduceEq, Int.reduceNeg])
  refine loopF_of (fun k s σ' => ∃ i : Nat, i ≤ key.size ∧ k = key.size - i ∧ s 4 = .int .i64 i ∧ s 3 = .int .u64 (hashN key.data.toList i) ∧ s 0 = .string key ∧ σ' = σ) key.size (Sub.refl _) ⟨0, by omega, rfl, rfl, rfl, rfl, rfl⟩ ?_
  rintro k s σ' ⟨i, hi, hk, h4, h3, h0, rfl⟩
  simp (config := { contextual := true, dsimp := false }) only [*, ↓reduceIte, ↓evP, evQ, if_true, if_false, eq_self, binv, eqv, lenv, fillO, splice, fldv, Sp.eqa, eqL, eq1, Nat.reduceAdd, Nat.reduceEqDiff, Nat.reduceLeDiff, Nat.reduceMul, reduceCtorEq, Int.reduceLT, Int.reduceLE, Int.reduceGT, Int.reduceGE, Int.reduceEq, Int.reduceNeg]
  (repeat' (first | (refine condF_split (fun hc => ?_) (fun hc => ?_) <;> (try simp only [Bool.not_eq_true', Bool.not_eq_false', Bool.and_eq_true, Bool.or_eq_false_iff] at hc) <;> (try (simp (config := { contextual := true, dsimp := false }) only [*, ↓reduceIte, ↓evP, evQ, if_true, if_false, eq_self, binv, eqv, lenv, fillO, splice, fldv, Sp.eqa, eqL, eq1, Nat.reduceAdd, Nat.reduceEqDiff, Nat.reduceLeDiff, Nat.reduceMul, reduceCtorEq, Int.reduceLT, Int.reduceLE, Int.reduceGT, Int.reduceGE, Int.reduceEq, Int.reduceNeg]))) | (intro _; intros) | ((refine And.intro ?_ ?_; focus (first | omega | (first | exact Sub.refl _ | ((repeat (first | exact Sub.refl _ | (refine Sub.drop ?_ ?_; focus (simp only [none_upd, none_set, not_false_eq_true, true_and, and_true, *]; done)) | refine Sub.both ?_)); done)) | ((simp only [decide_eq_true_eq, decide_eq_false_iff_not] at *); omega) | (simp_all; done) | (simp_all; omega))); (try (simp (config := { contextual := true, dsimp := false }) only [*, ↓reduceIte, ↓evP, evQ, if_true, if_false, eq_self, binv, eqv, lenv, fillO, splice, fldv, Sp.eqa, eqL, eq1, Nat.reduceAdd, Nat.reduceEqDiff, Nat.reduceLeDiff, Nat.reduceMul, reduceCtorEq, Int.reduceLT, Int.reduceLE, Int.reduceGT, Int.reduceGE, Int.reduceEq, Int.reduceNeg])))))
  all_goals (try simp only [decide_eq_true_eq, decide_eq_false_iff_not] at *)
  · refine nextF_of (key.size - (i + 1)) (by omega) (Sub.refl _) ⟨i + 1, by omega, rfl, ?_, ?_, (by first | rfl | (simp only [↓putO_get, ↓putO_no, init_zero, init_succ, Nat.reduceEqDiff, ↓reduceIte, *]; done) | (simp only [↓putO_get, ↓putO_no, init_zero, init_succ, Nat.reduceEqDiff, ↓reduceIte, *]; rfl)), rfl⟩
    · show Value.int .i64 (IntKind.i64.wrap _) = _; rw [wi64 (by omega)]; rfl
    · rw [hashN_succ _ _ (by rw [← size_len]; omega)]; unfold hstep; rw [← or_and']; rfl
  · obtain rfl : i = key.size := by omega
    exact endF_sub (by (first | exact Sub.refl _ | ((repeat (first | exact Sub.refl _ | (refine Sub.drop ?_ ?_; focus (simp only [none_upd, none_set, not_false_eq_true, true_and, and_true, *]; done)) | refine Sub.both ?_)); done))) ⟨by rw [size_len]; rfl, rfl⟩
theorem hashN_range (l : List UInt8) (i : Nat) : 0 ≤ hashN l i ∧ hashN l i < 18446744073709551616 := by
  induction i with
  | zero => simp only [hashN, List.take_zero, List.foldl_nil]; decide
  | succ i ih =>
    by_cases h : i < l.length
    · rw [hashN_succ l i h]; unfold hstep
      simp only [IntKind.wrap_u64]; omega
    · have e : hashN l (i + 1) = hashN l i := by unfold hashN; rw [List.take_of_length_le (by omega), List.take_of_length_le (by omega)]
      rw [e]; exact ih
/-- The node of a key. -/
def toN (key : ByteArray) (n : Int) : Int := if n < 1 ∨ n > 8 then -1 else (hashK key) % n
theorem to33 (key : ByteArray) (n : Int) (σ : Hp) (hsz : key.size ≤ 140737488351232) : ACalls Try.prog 33 #[.string key, .int .i64 n] σ fun v σ' => v = .int .i64 (toN key n) ∧ σ' = σ := by
  have hr := hashN_range key.data.toList key.data.toList.length
  have e1 : ∀ h : ¬ (n < 1 ∨ n > 8), IntKind.u64.wrap n = n := fun h => by rw [IntKind.wrap_u64]; omega
  (refine acalls_F ok33 (by simp) ?_; unfold c33 r33; simp (config := { contextual := true, dsimp := false }) only [↓reduceIte, ↓evP, evQ, if_true, if_false, eq_self, binv, eqv, lenv, fillO, splice, fldv, Sp.eqa, eqL, eq1, Nat.reduceAdd, Nat.reduceEqDiff, Nat.reduceLeDiff, Nat.reduceMul, reduceCtorEq, Int.reduceLT, Int.reduceLE, Int.reduceGT, Int.reduceGE, Int.reduceEq, Int.reduceNeg])
  (repeat' (first | (refine condF_split (fun hc => ?_) (fun hc => ?_) <;> (try simp only [Bool.not_eq_true', Bool.not_eq_false', Bool.and_eq_true, Bool.or_eq_false_iff] at hc) <;> (try (simp (config := { contextual := true, dsimp := false }) only [*, ↓reduceIte, ↓evP, evQ, if_true, if_false, eq_self, binv, eqv, lenv, fillO, splice, fldv, Sp.eqa, eqL, eq1, Nat.reduceAdd, Nat.reduceEqDiff, Nat.reduceLeDiff, Nat.reduceMul, reduceCtorEq, Int.reduceLT, Int.reduceLE, Int.reduceGT, Int.reduceGE, Int.reduceEq, Int.reduceNeg]))) | (refine callF_v (hash42 _ _ (by assumption)) ?_; (try (simp (config := { contextual := true, dsimp := false }) only [*, ↓reduceIte, ↓evP, evQ, if_true, if_false, eq_self, binv, eqv, lenv, fillO, splice, fldv, Sp.eqa, eqL, eq1, Nat.reduceAdd, Nat.reduceEqDiff, Nat.reduceLeDiff, Nat.reduceMul, reduceCtorEq, Int.reduceLT, Int.reduceLE, Int.reduceGT, Int.reduceGE, Int.reduceEq, Int.reduceNeg]))) | (refine ccallF_of (hash42 _ _ (by assumption)) ?_; (try (simp (config := { contextual := true, dsimp := false }) only [*, ↓reduceIte, ↓evP, evQ, if_true, if_false, eq_self, binv, eqv, lenv, fillO, splice, fldv, Sp.eqa, eqL, eq1, Nat.reduceAdd, Nat.reduceEqDiff, Nat.reduceLeDiff, Nat.reduceMul, reduceCtorEq, Int.reduceLT, Int.reduceLE, Int.reduceGT, Int.reduceGE, Int.reduceEq, Int.reduceNeg]))) | (refine gcallF_of (hash42 _ _ (by assumption)) ?_; (try (simp (config := { contextual := true, dsimp := false }) only [*, ↓reduceIte, ↓evP, evQ, if_true, if_false, eq_self, binv, eqv, lenv, fillO, splice, fldv, Sp.eqa, eqL, eq1, Nat.reduceAdd, Nat.reduceEqDiff, Nat.reduceLeDiff, Nat.reduceMul, reduceCtorEq, Int.reduceLT, Int.reduceLE, Int.reduceGT, Int.reduceGE, Int.reduceEq, Int.reduceNeg]))) | (intro _; intros) | ((refine And.intro ?_ ?_; focus (first | omega | (first | exact Sub.refl _ | ((repeat (first | exact Sub.refl _ | (refine Sub.drop ?_ ?_; focus (simp only [none_upd, none_set, not_false_eq_true, true_and, and_true, *]; done)) | refine Sub.both ?_)); done)) | ((simp only [decide_eq_true_eq, decide_eq_false_iff_not] at *); omega) | (simp_all; done) | (simp_all; omega))); (try (simp (config := { contextual := true, dsimp := false }) only [*, ↓reduceIte, ↓evP, evQ, if_true, if_false, eq_self, binv, eqv, lenv, fillO, splice, fldv, Sp.eqa, eqL, eq1, Nat.reduceAdd, Nat.reduceEqDiff, Nat.reduceLeDiff, Nat.reduceMul, reduceCtorEq, Int.reduceLT, Int.reduceLE, Int.reduceGT, Int.reduceGE, Int.reduceEq, Int.reduceNeg])))))
  all_goals (try simp only [decide_eq_true_eq, decide_eq_false_iff_not] at *)
  · exact endF_sub (by (first | exact Sub.refl _ | ((repeat (first | exact Sub.refl _ | (refine Sub.drop ?_ ?_; focus (simp only [none_upd, none_set, not_false_eq_true, true_and, and_true, *]; done)) | refine Sub.both ?_)); done))) ⟨by unfold toN; rw [if_pos (by omega)], rfl⟩
  · exact endF_sub (by (first | exact Sub.refl _ | ((repeat (first | exact Sub.refl _ | (refine Sub.drop ?_ ?_; focus (simp only [none_upd, none_set, not_false_eq_true, true_and, and_true, *]; done)) | refine Sub.both ?_)); done))) ⟨by unfold toN; rw [if_pos (by omega)], rfl⟩
  · rw [e1 (by omega), if_neg (by omega)]
    simp (config := { contextual := true, dsimp := false }) only [*, ↓reduceIte, ↓evP, evQ, if_true, if_false, eq_self, binv, eqv, lenv, fillO, splice, fldv, Sp.eqa, eqL, eq1, Nat.reduceAdd, Nat.reduceEqDiff, Nat.reduceLeDiff, Nat.reduceMul, reduceCtorEq, Int.reduceLT, Int.reduceLE, Int.reduceGT, Int.reduceGE, Int.reduceEq, Int.reduceNeg]
    refine endF_sub (by (first | exact Sub.refl _ | ((repeat (first | exact Sub.refl _ | (refine Sub.drop ?_ ?_; focus (simp only [none_upd, none_set, not_false_eq_true, true_and, and_true, *]; done)) | refine Sub.both ?_)); done))) ⟨?_, rfl⟩
    unfold toN hashK
    have m1 := Int.emod_nonneg (hashN key.data.toList key.data.toList.length) (show n ≠ 0 by omega)
    have m2 := Int.emod_lt_of_pos (hashN key.data.toList key.data.toList.length) (show 0 < n by omega)
    rw [if_neg (by omega), Int.tmod_eq_emod_of_nonneg (by omega), wi64 (by omega)]
theorem to48 (key : ByteArray) (n : Int) (σ : Hp) (hsz : key.size ≤ 140737488351232) : ACalls Try.prog 48 #[.string key, .int .i64 n] σ fun v σ' => v = .int .i64 (toN key n) ∧ σ' = σ := by
  have hr := hashN_range key.data.toList key.data.toList.length
  have e1 : ∀ h : ¬ (n < 1 ∨ n > 8), IntKind.u64.wrap n = n := fun h => by rw [IntKind.wrap_u64]; omega
  (refine acalls_F ok48 (by simp) ?_; unfold c48 r48; simp (config := { contextual := true, dsimp := false }) only [↓reduceIte, ↓evP, evQ, if_true, if_false, eq_self, binv, eqv, lenv, fillO, splice, fldv, Sp.eqa, eqL, eq1, Nat.reduceAdd, Nat.reduceEqDiff, Nat.reduceLeDiff, Nat.reduceMul, reduceCtorEq, Int.reduceLT, Int.reduceLE, Int.reduceGT, Int.reduceGE, Int.reduceEq, Int.reduceNeg])
  (repeat' (first | (refine condF_split (fun hc => ?_) (fun hc => ?_) <;> (try simp only [Bool.not_eq_true', Bool.not_eq_false', Bool.and_eq_true, Bool.or_eq_false_iff] at hc) <;> (try (simp (config := { contextual := true, dsimp := false }) only [*, ↓reduceIte, ↓evP, evQ, if_true, if_false, eq_self, binv, eqv, lenv, fillO, splice, fldv, Sp.eqa, eqL, eq1, Nat.reduceAdd, Nat.reduceEqDiff, Nat.reduceLeDiff, Nat.reduceMul, reduceCtorEq, Int.reduceLT, Int.reduceLE, Int.reduceGT, Int.reduceGE, Int.reduceEq, Int.reduceNeg]))) | (refine callF_v (hash51 _ _ (by assumption)) ?_; (try (simp (config := { contextual := true, dsimp := false }) only [*, ↓reduceIte, ↓evP, evQ, if_true, if_false, eq_self, binv, eqv, lenv, fillO, splice, fldv, Sp.eqa, eqL, eq1, Nat.reduceAdd, Nat.reduceEqDiff, Nat.reduceLeDiff, Nat.reduceMul, reduceCtorEq, Int.reduceLT, Int.reduceLE, Int.reduceGT, Int.reduceGE, Int.reduceEq, Int.reduceNeg]))) | (refine ccallF_of (hash51 _ _ (by assumption)) ?_; (try (simp (config := { contextual := true, dsimp := false }) only [*, ↓reduceIte, ↓evP, evQ, if_true, if_false, eq_self, binv, eqv, lenv, fillO, splice, fldv, Sp.eqa, eqL, eq1, Nat.reduceAdd, Nat.reduceEqDiff, Nat.reduceLeDiff, Nat.reduceMul, reduceCtorEq, Int.reduceLT, Int.reduceLE, Int.reduceGT, Int.reduceGE, Int.reduceEq, Int.reduceNeg]))) | (refine gcallF_of (hash51 _ _ (by assumption)) ?_; (try (simp (config := { contextual := true, dsimp := false }) only [*, ↓reduceIte, ↓evP, evQ, if_true, if_false, eq_self, binv, eqv, lenv, fillO, splice, fldv, Sp.eqa, eqL, eq1, Nat.reduceAdd, Nat.reduceEqDiff, Nat.reduceLeDiff, Nat.reduceMul, reduceCtorEq, Int.reduceLT, Int.reduceLE, Int.reduceGT, Int.reduceGE, Int.reduceEq, Int.reduceNeg]))) | (intro _; intros) | ((refine And.intro ?_ ?_; focus (first | omega | (first | exact Sub.refl _ | ((repeat (first | exact Sub.refl _ | (refine Sub.drop ?_ ?_; focus (simp only [none_upd, none_set, not_false_eq_true, true_and, and_true, *]; done)) | refine Sub.both ?_)); done)) | ((simp only [decide_eq_true_eq, decide_eq_false_iff_not] at *); omega) | (simp_all; done) | (simp_all; omega))); (try (simp (config := { contextual := true, dsimp := false }) only [*, ↓reduceIte, ↓evP, evQ, if_true, if_false, eq_self, binv, eqv, lenv, fillO, splice, fldv, Sp.eqa, eqL, eq1, Nat.reduceAdd, Nat.reduceEqDiff, Nat.reduceLeDiff, Nat.reduceMul, reduceCtorEq, Int.reduceLT, Int.reduceLE, Int.reduceGT, Int.reduceGE, Int.reduceEq, Int.reduceNeg])))))
  all_goals (try simp only [decide_eq_true_eq, decide_eq_false_iff_not] at *)
  · exact endF_sub (by (first | exact Sub.refl _ | ((repeat (first | exact Sub.refl _ | (refine Sub.drop ?_ ?_; focus (simp only [none_upd, none_set, not_false_eq_true, true_and, and_true, *]; done)) | refine Sub.both ?_)); done))) ⟨by unfold toN; rw [if_pos (by omega)], rfl⟩
  · exact endF_sub (by (first | exact Sub.refl _ | ((repeat (first | exact Sub.refl _ | (refine Sub.drop ?_ ?_; focus (simp only [none_upd, none_set, not_false_eq_true, true_and, and_true, *]; done)) | refine Sub.both ?_)); done))) ⟨by unfold toN; rw [if_pos (by omega)], rfl⟩
  · rw [e1 (by omega), if_neg (by omega)]
    simp (config := { contextual := true, dsimp := false }) only [*, ↓reduceIte, ↓evP, evQ, if_true, if_false, eq_self, binv, eqv, lenv, fillO, splice, fldv, Sp.eqa, eqL, eq1, Nat.reduceAdd, Nat.reduceEqDiff, Nat.reduceLeDiff, Nat.reduceMul, reduceCtorEq, Int.reduceLT, Int.reduceLE, Int.reduceGT, Int.reduceGE, Int.reduceEq, Int.reduceNeg]
    refine endF_sub (by (first | exact Sub.refl _ | ((repeat (first | exact Sub.refl _ | (refine Sub.drop ?_ ?_; focus (simp only [none_upd, none_set, not_false_eq_true, true_and, and_true, *]; done)) | refine Sub.both ?_)); done))) ⟨?_, rfl⟩
    unfold toN hashK
    have m1 := Int.emod_nonneg (hashN key.data.toList key.data.toList.length) (show n ≠ 0 by omega)
    have m2 := Int.emod_lt_of_pos (hashN key.data.toList key.data.toList.length) (show 0 < n by omega)
    generalize hashN key.data.toList key.data.toList.length = t at *
    have d0 : 0 ≤ t / n := Int.ediv_nonneg hr.1 (by omega)
    have d1 : t / n ≤ t := Int.ediv_le_self _ hr.1
    have e := Int.emod_add_mul_ediv t n
    rw [if_neg (by omega), Int.tdiv_eq_ediv_of_nonneg hr.1]
    simp only [IntKind.wrap_u64]
    rw [Int.emod_eq_of_lt d0 (by omega), Int.emod_eq_of_lt (a := n) (by omega) (by omega)]
    have d2 : 0 ≤ n * (t / n) := Int.mul_nonneg (by omega) d0
    have e2 : t / n * n = t - t % n := by rw [Int.mul_comm]; omega
    rw [e2, wi64 (by omega)]
    congr 1
    omega
end Go.Proofs.Ytmjpcpipacciiaa
