/- What is seen of a transaction; another one with the same. -/
import Derived.Test.YtmjpcpipacciiaaB8
namespace Go.Proofs.Ytmjpcpipacciiaa
open Go.Sp
set_option linter.unusedSimpArgs false
set_option linter.unusedVariables false
/-- What is seen: eight cells. -/
def TxS.view (T : TxS) (v : Value) : List Value := [.int .i64 T.st, .int .i64 T.er, .int .i64 T.lo, .int .i64 T.hi, .string T.key, .int .i64 T.seq, .int .i64 T.tr, v]
theorem clone26 {σ : Hp} {v : Value} {l : List Got} (hr : RowsAt 60 3 Got.cells σ v l) (hn : l.length * 40 ≤ 140737488355328) :
    ACalls Try.prog 26 #[v] σ fun u σ' => RowsAt 60 3 Got.cells σ' u l ∧ Made σ σ' u := by
  rcases hr with ⟨rfl, hnil⟩ | ⟨b, c, rfl, hcap, hb⟩
  · (refine acalls_F ok26 (by simp) ?_; unfold c26 r26; simp (config := { contextual := true, dsimp := false }) only [TxS.cells, TxS.view, ↓reduceIte, ↓evP, evQ, if_true, if_false, eq_self, binv, eqv, lenv, fillO, splice, fldv, Sp.eqa, eqL, eq1, Nat.reduceAdd, Nat.reduceEqDiff, Nat.reduceLeDiff, Nat.reduceMul, reduceCtorEq, Int.reduceLT, Int.reduceLE, Int.reduceGT, Int.reduceGE, Int.reduceEq, Int.reduceNeg])
    exact endF_at ⟨.inl ⟨rfl, hnil⟩, Same.refl _ _, fun k hk => by cases hk⟩
  · have hsg : seg (l.flatMap Got.cells) 0 (l.length * 3) = some (l.flatMap Got.cells) := by rw [← flat_len Got.cells_len]; exact seg_all _
    have hone : (l.flatMap Got.cells).all one = true := got_one _
    obtain ⟨τ, rfl⟩ := open_upd hb
    clear hb
    (refine acalls_F ok26 (by simp) ?_; unfold c26 r26; simp (config := { contextual := true, dsimp := false }) only [TxS.cells, TxS.view, ↓reduceIte, ↓evP, evQ, if_true, if_false, eq_self, binv, eqv, lenv, fillO, splice, fldv, Sp.eqa, eqL, eq1, Nat.reduceAdd, Nat.reduceEqDiff, Nat.reduceLeDiff, Nat.reduceMul, reduceCtorEq, Int.reduceLT, Int.reduceLE, Int.reduceGT, Int.reduceGE, Int.reduceEq, Int.reduceNeg])
    (repeat' (first | (refine condF_split (fun hc => ?_) (fun hc => ?_) <;> (try simp only [Bool.not_eq_true', Bool.not_eq_false', Bool.and_eq_true, Bool.or_eq_false_iff] at hc) <;> (try (simp (config := { contextual := true, dsimp := false }) only [*, TxS.cells, TxS.view, ↓reduceIte, ↓evP, evQ, if_true, if_false, eq_self, binv, eqv, lenv, fillO, splice, fldv, Sp.eqa, eqL, eq1, Nat.reduceAdd, Nat.reduceEqDiff, Nat.reduceLeDiff, Nat.reduceMul, reduceCtorEq, Int.reduceLT, Int.reduceLE, Int.reduceGT, Int.reduceGE, Int.reduceEq, Int.reduceNeg]))) | (intro _; intros) | ((refine And.intro ?_ ?_; focus (first | omega | (first | exact Sub.refl _ | ((repeat (first | exact Sub.refl _ | (refine Sub.drop ?_ ?_; focus (simp only [none_upd, none_set, not_false_eq_true, true_and, and_true, *]; done)) | refine Sub.both ?_)); done)) | ((simp only [decide_eq_true_eq, decide_eq_false_iff_not] at *); omega) | (simp_all; done) | (simp_all; omega))); (try (simp (config := { contextual := true, dsimp := false }) only [*, TxS.cells, TxS.view, ↓reduceIte, ↓evP, evQ, if_true, if_false, eq_self, binv, eqv, lenv, fillO, splice, fldv, Sp.eqa, eqL, eq1, Nat.reduceAdd, Nat.reduceEqDiff, Nat.reduceLeDiff, Nat.reduceMul, reduceCtorEq, Int.reduceLT, Int.reduceLE, Int.reduceGT, Int.reduceGE, Int.reduceEq, Int.reduceNeg])))))
    refine app_b (by first | (simp only [Nat.reduceMul, Nat.one_mul, Nat.zero_mul, rdn_row, rdn_same, rdn_ne, seg_zero, seg_cons, seg_skip, Option.map_some, not_false_eq_true, *]; done) | (simp only [Nat.reduceMul, Nat.one_mul, Nat.zero_mul, rdn_row, rdn_same, rdn_ne, seg_zero, seg_cons, seg_skip, Option.map_some, not_false_eq_true, *]; exact rfl)) hone (by first | (simp only [upd_at, *, ↓reduceIte]; done) | (simp only [upd_at, *, ↓reduceIte]; rfl)) rfl (by omega) (by omega) (by unfold maxLen; omega) ?_ ?_
    all_goals simp (config := { contextual := true, dsimp := false }) only [*, TxS.cells, TxS.view, ↓reduceIte, ↓evP, evQ, if_true, if_false, eq_self, binv, eqv, lenv, fillO, splice, fldv, Sp.eqa, eqL, eq1, Nat.reduceAdd, Nat.reduceEqDiff, Nat.reduceLeDiff, Nat.reduceMul, reduceCtorEq, Int.reduceLT, Int.reduceLE, Int.reduceGT, Int.reduceGE, Int.reduceEq, Int.reduceNeg]
    all_goals (repeat' (first | (refine condF_split (fun hc => ?_) (fun hc => ?_) <;> (try simp only [Bool.not_eq_true', Bool.not_eq_false', Bool.and_eq_true, Bool.or_eq_false_iff] at hc) <;> (try (simp (config := { contextual := true, dsimp := false }) only [*, TxS.cells, TxS.view, ↓reduceIte, ↓evP, evQ, if_true, if_false, eq_self, binv, eqv, lenv, fillO, splice, fldv, Sp.eqa, eqL, eq1, Nat.reduceAdd, Nat.reduceEqDiff, Nat.reduceLeDiff, Nat.reduceMul, reduceCtorEq, Int.reduceLT, Int.reduceLE, Int.reduceGT, Int.reduceGE, Int.reduceEq, Int.reduceNeg]))) | (intro _; intros) | ((refine And.intro ?_ ?_; focus (first | omega | (first | exact Sub.refl _ | ((repeat (first | exact Sub.refl _ | (refine Sub.drop ?_ ?_; focus (simp only [none_upd, none_set, not_false_eq_true, true_and, and_true, *]; done)) | refine Sub.both ?_)); done)) | ((simp only [decide_eq_true_eq, decide_eq_false_iff_not] at *); omega) | (simp_all; done) | (simp_all; omega))); (try (simp (config := { contextual := true, dsimp := false }) only [*, TxS.cells, TxS.view, ↓reduceIte, ↓evP, evQ, if_true, if_false, eq_self, binv, eqv, lenv, fillO, splice, fldv, Sp.eqa, eqL, eq1, Nat.reduceAdd, Nat.reduceEqDiff, Nat.reduceLeDiff, Nat.reduceMul, reduceCtorEq, Int.reduceLT, Int.reduceLE, Int.reduceGT, Int.reduceGE, Int.reduceEq, Int.reduceNeg])))))
    all_goals (refine endF_at ⟨?_, ?_, ?_⟩; (focus exact rows_mk (by simp) (by omega) (by first | (simp only [upd_at, *, ↓reduceIte, List.nil_append]; done) | (simp only [upd_at, *, ↓reduceIte, List.nil_append]; rfl))); (focus exact (by repeat (first | exact Same.refl _ _ | (refine Same.updNew ?_ ?_; focus (simp only [none_upd, none_set, not_false_eq_true, true_and, and_true, *]; done)) | (refine Same.both ?_ ?_; focus (first | exact rfl | exact .inl rfl | exact .inr rfl)) | (refine Same.updIn ?_ ?_; focus (first | exact rfl | exact .inl rfl | exact .inr rfl)) | refine Same.eq ?_))); (focus (intro k hk; cases hk; exact (by simp only [none_upd, none_set, not_false_eq_true, true_and, and_true, *]; done))))
theorem view15 {σ : Hp} {g : Nat} {T : TxS} {v : Value} (hT : TxAt 67 σ g T v) (hn : T.reads.length * 40 ≤ 140737488355328) :
    ACalls Try.prog 15 #[.pointer (some ⟨g, 0, none⟩)] σ fun u σ' => ∃ v', u = .agg (T.view v').toArray ∧ RowsAt 60 3 Got.cells σ' v' T.reads ∧ Made σ σ' v' := by
  obtain ⟨hg, hr⟩ := hT
  obtain ⟨a, c, rfl⟩ := hr.slice
  unfold TxS.cells at hg
  obtain ⟨τ, rfl⟩ := open_upd hg
  clear hg
  have H : Hid (RowsAt 60 3 Got.cells _ _ _) := ⟨hr⟩
  clear hr
  (refine acalls_F ok15 (by simp) ?_; unfold c15 r15; simp (config := { contextual := true, dsimp := false }) only [TxS.cells, TxS.view, ↓reduceIte, ↓evP, evQ, if_true, if_false, eq_self, binv, eqv, lenv, fillO, splice, fldv, Sp.eqa, eqL, eq1, Nat.reduceAdd, Nat.reduceEqDiff, Nat.reduceLeDiff, Nat.reduceMul, reduceCtorEq, Int.reduceLT, Int.reduceLE, Int.reduceGT, Int.reduceGE, Int.reduceEq, Int.reduceNeg])
  (repeat' (first | (refine condF_split (fun hc => ?_) (fun hc => ?_) <;> (try simp only [Bool.not_eq_true', Bool.not_eq_false', Bool.and_eq_true, Bool.or_eq_false_iff] at hc) <;> (try (simp (config := { contextual := true, dsimp := false }) only [*, TxS.cells, TxS.view, ↓reduceIte, ↓evP, evQ, if_true, if_false, eq_self, binv, eqv, lenv, fillO, splice, fldv, Sp.eqa, eqL, eq1, Nat.reduceAdd, Nat.reduceEqDiff, Nat.reduceLeDiff, Nat.reduceMul, reduceCtorEq, Int.reduceLT, Int.reduceLE, Int.reduceGT, Int.reduceGE, Int.reduceEq, Int.reduceNeg]))) | (intro _; intros) | ((refine And.intro ?_ ?_; focus (first | omega | (first | exact Sub.refl _ | ((repeat (first | exact Sub.refl _ | (refine Sub.drop ?_ ?_; focus (simp only [none_upd, none_set, not_false_eq_true, true_and, and_true, *]; done)) | refine Sub.both ?_)); done)) | ((simp only [decide_eq_true_eq, decide_eq_false_iff_not] at *); omega) | (simp_all; done) | (simp_all; omega))); (try (simp (config := { contextual := true, dsimp := false }) only [*, TxS.cells, TxS.view, ↓reduceIte, ↓evP, evQ, if_true, if_false, eq_self, binv, eqv, lenv, fillO, splice, fldv, Sp.eqa, eqL, eq1, Nat.reduceAdd, Nat.reduceEqDiff, Nat.reduceLeDiff, Nat.reduceMul, reduceCtorEq, Int.reduceLT, Int.reduceLE, Int.reduceGT, Int.reduceGE, Int.reduceEq, Int.reduceNeg])))))
  refine callF_of (ACalls.beside ?_ (ACalls.beside ?_ (clone26 H.out hn))) ?_
  · (simp only [none_upd, none_set, not_false_eq_true, true_and, and_true, *]; done)
  · (simp only [none_upd, none_set, not_false_eq_true, true_and, and_true, *]; done)
  rintro u σ'' ⟨σ1, ⟨σ2, ⟨hR, hM⟩, hn2, rfl⟩, hn1, rfl⟩
  simp only [none_upd] at hn1
  obtain ⟨a', c', rfl⟩ := hR.slice
  have H2 : Hid (RowsAt 60 3 Got.cells _ _ _ ∧ Made _ _ _) := ⟨hR, hM⟩
  clear hR hM
  simp (config := { contextual := true, dsimp := false }) only [*, TxS.cells, TxS.view, ↓reduceIte, ↓evP, evQ, if_true, if_false, eq_self, binv, eqv, lenv, fillO, splice, fldv, Sp.eqa, eqL, eq1, Nat.reduceAdd, Nat.reduceEqDiff, Nat.reduceLeDiff, Nat.reduceMul, reduceCtorEq, Int.reduceLT, Int.reduceLE, Int.reduceGT, Int.reduceGE, Int.reduceEq, Int.reduceNeg]
  (with_reducible refine endF_sub (τ := σ2) ?_ ⟨.slice a' T.reads.length c', ?_⟩)
  · (first | exact Sub.refl _ | ((repeat (first | exact Sub.refl _ | (refine Sub.drop ?_ ?_; focus (simp only [none_upd, none_set, not_false_eq_true, true_and, and_true, *]; done)) | refine Sub.both ?_)); done))
  · exact ⟨rfl, H2.out.1, H2.out.2⟩
theorem clone19 {σ : Hp} {g : Nat} {T : TxS} {v : Value} (hT : TxAt 67 σ g T v) (hn : T.reads.length * 40 ≤ 140737488355328) :
    ACalls Try.prog 19 #[.pointer (some ⟨g, 0, none⟩)] σ fun u σ' => ∃ g' v', u = .pointer (some ⟨g', 0, none⟩) ∧ TxAt 67 σ' g' T v' ∧ Made σ σ' v' ∧ σ g' = none := by
  have hg := hT.1
  unfold TxS.cells at hg
  obtain ⟨τ, rfl⟩ := open_upd hg
  clear hg
  have H : Hid (TxAt 67 _ _ _ _) := ⟨hT⟩
  clear hT
  (refine acalls_F ok19 (by simp) ?_; unfold c19 r19; simp (config := { contextual := true, dsimp := false }) only [TxS.cells, TxS.view, ↓reduceIte, ↓evP, evQ, if_true, if_false, eq_self, binv, eqv, lenv, fillO, splice, fldv, Sp.eqa, eqL, eq1, Nat.reduceAdd, Nat.reduceEqDiff, Nat.reduceLeDiff, Nat.reduceMul, reduceCtorEq, Int.reduceLT, Int.reduceLE, Int.reduceGT, Int.reduceGE, Int.reduceEq, Int.reduceNeg])
  (repeat' (first | (refine condF_split (fun hc => ?_) (fun hc => ?_) <;> (try simp only [Bool.not_eq_true', Bool.not_eq_false', Bool.and_eq_true, Bool.or_eq_false_iff] at hc) <;> (try (simp (config := { contextual := true, dsimp := false }) only [*, TxS.cells, TxS.view, ↓reduceIte, ↓evP, evQ, if_true, if_false, eq_self, binv, eqv, lenv, fillO, splice, fldv, Sp.eqa, eqL, eq1, Nat.reduceAdd, Nat.reduceEqDiff, Nat.reduceLeDiff, Nat.reduceMul, reduceCtorEq, Int.reduceLT, Int.reduceLE, Int.reduceGT, Int.reduceGE, Int.reduceEq, Int.reduceNeg]))) | (intro _; intros) | ((refine And.intro ?_ ?_; focus (first | omega | (first | exact Sub.refl _ | ((repeat (first | exact Sub.refl _ | (refine Sub.drop ?_ ?_; focus (simp only [none_upd, none_set, not_false_eq_true, true_and, and_true, *]; done)) | refine Sub.both ?_)); done)) | ((simp only [decide_eq_true_eq, decide_eq_false_iff_not] at *); omega) | (simp_all; done) | (simp_all; omega))); (try (simp (config := { contextual := true, dsimp := false }) only [*, TxS.cells, TxS.view, ↓reduceIte, ↓evP, evQ, if_true, if_false, eq_self, binv, eqv, lenv, fillO, splice, fldv, Sp.eqa, eqL, eq1, Nat.reduceAdd, Nat.reduceEqDiff, Nat.reduceLeDiff, Nat.reduceMul, reduceCtorEq, Int.reduceLT, Int.reduceLE, Int.reduceGT, Int.reduceGE, Int.reduceEq, Int.reduceNeg])))))
  refine gcallF_first (view15 H.out hn) (fun u σ₁ h => ?_) ?_
  · obtain ⟨v', _, _, hM⟩ := h; exact hM.sub
  rintro u σ₁ ⟨v', rfl, hR, hM⟩
  obtain ⟨a', c', rfl⟩ := hR.slice
  have H2 : Hid (RowsAt 60 3 Got.cells _ _ _ ∧ Made _ _ _) := ⟨hR, hM⟩
  clear hR hM
  simp (config := { contextual := true, dsimp := false }) only [*, TxS.cells, TxS.view, ↓reduceIte, ↓evP, evQ, if_true, if_false, eq_self, binv, eqv, lenv, fillO, splice, fldv, Sp.eqa, eqL, eq1, Nat.reduceAdd, Nat.reduceEqDiff, Nat.reduceLeDiff, Nat.reduceMul, reduceCtorEq, Int.reduceLT, Int.reduceLE, Int.reduceGT, Int.reduceGE, Int.reduceEq, Int.reduceNeg]
  intro b hb
  (with_reducible refine endF_at ⟨b, .slice a' T.reads.length c', ?_⟩)
  exact ⟨rfl, ⟨by rw [upd_same]; rfl, H2.out.1.fresh hb _⟩, H2.out.2.grow hb _, H2.out.2.old hb⟩
end Go.Proofs.Ytmjpcpipacciiaa
