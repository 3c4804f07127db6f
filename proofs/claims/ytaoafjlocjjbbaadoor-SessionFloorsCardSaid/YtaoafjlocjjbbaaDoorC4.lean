/- A store that is new; rows that are only read, read whole. -/
import Derived.Test.YtaoafjlocjjbbaaDoorC3
namespace Go.Proofs.YtaoafjlocjjbbaaDoor
open Go.Sp
set_option linter.unusedSimpArgs false
set_option linter.unusedVariables false
theorem Wr.cells_len (w : Wr) : w.cells.length = 3 := rfl
theorem new44 (σ : Hp) : ACalls Tryd.prog 44 #[.int .i64 1] σ fun u σ' => ∃ m g, σ m = none ∧ σ g = none ∧ g ≠ m ∧ u = .pointer (some ⟨g, 0, none⟩) ∧ σ' = upd (upd σ m (.mp [])) g (.cells [.map (some m), .int .i64 1, .int .i64 0] 137) := by
  (refine acalls_F ok44 (by simp) ?_; unfold c44 r44; simp (config := { contextual := true, dsimp := false }) only [Wr.cells, ↓reduceIte, ↓evP, evQ, if_true, if_false, eq_self, binv, eqv, lenv, fillO, splice, fldv, Sp.eqa, eqL, eq1, Nat.reduceAdd, Nat.reduceEqDiff, Nat.reduceLeDiff, Nat.reduceMul, reduceCtorEq, Int.reduceLT, Int.reduceLE, Int.reduceGT, Int.reduceGE, Int.reduceEq, Int.reduceNeg])
  (repeat' (first | (refine condF_split (fun hc => ?_) (fun hc => ?_) <;> (try simp only [Bool.not_eq_true', Bool.not_eq_false', Bool.and_eq_true, Bool.or_eq_false_iff] at hc) <;> (try (simp (config := { contextual := true, dsimp := false }) only [*, Wr.cells, ↓reduceIte, ↓evP, evQ, if_true, if_false, eq_self, binv, eqv, lenv, fillO, splice, fldv, Sp.eqa, eqL, eq1, Nat.reduceAdd, Nat.reduceEqDiff, Nat.reduceLeDiff, Nat.reduceMul, reduceCtorEq, Int.reduceLT, Int.reduceLE, Int.reduceGT, Int.reduceGE, Int.reduceEq, Int.reduceNeg]))) | (intro _; intros) | ((refine And.intro ?_ ?_; focus (first | omega | (first | exact Sub.refl _ | ((repeat (first | exact Sub.refl _ | (refine Sub.drop ?_ ?_; focus (simp only [none_upd, none_set, not_false_eq_true, true_and, and_true, *]; done)) | refine Sub.both ?_)); done)) | ((simp only [decide_eq_true_eq, decide_eq_false_iff_not] at *); omega) | (simp_all; done) | (simp_all; omega))); (try (simp (config := { contextual := true, dsimp := false }) only [*, Wr.cells, ↓reduceIte, ↓evP, evQ, if_true, if_false, eq_self, binv, eqv, lenv, fillO, splice, fldv, Sp.eqa, eqL, eq1, Nat.reduceAdd, Nat.reduceEqDiff, Nat.reduceLeDiff, Nat.reduceMul, reduceCtorEq, Int.reduceLT, Int.reduceLE, Int.reduceGT, Int.reduceGE, Int.reduceEq, Int.reduceNeg])))))
  rename_i m hm g n1 n2 hg
  exact endF_at ⟨m, g, hm, hg, n1, rfl, rfl⟩
theorem seg_add {cs xs ys : List Value} {o n m : Nat} (h1 : seg cs o n = some xs) (h2 : seg cs (o + n) m = some ys) : seg cs o (n + m) = some (xs ++ ys) := by
  unfold seg at *
  split at h1
  · split at h2
    · cases h1; cases h2
      rw [if_pos (by omega), List.take_add, List.drop_drop]
    · cases h2
  · cases h1
theorem rdn_add {σ : Hp} {b o n m : Nat} {xs ys : List Value} (h1 : rdn σ b o n = some xs) (h2 : rdn σ b (o + n) m = some ys) : rdn σ b o (n + m) = some (xs ++ ys) := by
  unfold rdn at *
  generalize σ b = q at *
  split at h1
  · exact seg_add h1 h2
  · exact seg_add h1 h2
  · exact seg_add h1 h2
  · cases h1
theorem ro_whole {α : Type} {sz : Nat} {f : α → List Value} {σ : Hp} {b : Nat} : ∀ (l : List α) (o : Nat), l ≠ [] → (∀ i x, l[i]? = some x → rdn σ b (o + i * sz) sz = some (f x)) → rdn σ b o (l.length * sz) = some (l.flatMap f)
  | [], _, h, _ => absurd rfl h
  | [x], o, _, h => by
    have := h 0 x rfl
    simpa using this
  | x :: y :: r, o, _, h => by
    have h0 := h 0 x rfl
    have ih := ro_whole (σ := σ) (b := b) (f := f) (sz := sz) (y :: r) (o + sz) (by simp) (fun i z hz => by
      have := h (i + 1) z (by simpa using hz)
      rw [show o + (i + 1) * sz = o + sz + i * sz by rw [Nat.add_mul]; omega] at this
      exact this)
    have h0 : rdn σ b o sz = some (f x) := by simpa using h0
    have := rdn_add h0 ih
    rw [show (x :: y :: r).length * sz = sz + (y :: r).length * sz by simp only [List.length_cons, Nat.add_mul]; omega]
    exact this
end Go.Proofs.YtaoafjlocjjbbaaDoor
