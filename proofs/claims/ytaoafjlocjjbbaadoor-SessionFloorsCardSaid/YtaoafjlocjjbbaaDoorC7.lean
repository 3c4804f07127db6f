/- The commit that is under way, as a message. -/
import Derived.Test.YtaoafjlocjjbbaaDoorC6
namespace Go.Proofs.YtaoafjlocjjbbaaDoor
open Go.Sp
set_option linter.unusedSimpArgs false
set_option linter.unusedVariables false
def SesS.msg (S : SesS) (v : Value) : List Value := [.int .i64 1, .int .i64 0, .int .i64 0, .int .i64 S.id, .int .i64 0, .int .i64 S.seq, .string ⟨#[]⟩, .int .i64 0, .int .i64 0, .bool false, .string ⟨#[]⟩, .bool false, .int .i64 0, .int .i64 0, v, .slice none 0 0]
theorem message47 {σ : Hp} {g : Nat} {S : SesS} {v : Value} {ws : List Wr} (hg : σ g = some (.cells (S.cells v) 101)) (hr : RowsAt 37 3 Wr.cells σ v ws) (hn : ws.length * 40 ≤ 140737488355328) :
    ACalls Tryd.prog 47 #[.pointer (some ⟨g, 0, none⟩)] σ fun u σ' => ∃ v', u = .agg (S.msg v').toArray ∧ RowsAt 37 3 Wr.cells σ' v' ws ∧ Made σ σ' v' := by
  obtain ⟨a, c, rfl⟩ := hr.slice
  unfold SesS.cells at hg
  obtain ⟨τ, rfl⟩ := open_upd hg
  clear hg
  have H : Hid (RowsAt 37 3 Wr.cells _ _ _) := ⟨hr⟩
  clear hr
  (refine acalls_F ok47 (by simp) ?_; unfold c47 r47; simp (config := { contextual := true, dsimp := false }) only [SesS.cells, SesS.view, Wr.cells, SesS.msg, ↓reduceIte, ↓evP, evQ, if_true, if_false, eq_self, binv, eqv, lenv, fillO, splice, fldv, Sp.eqa, eqL, eq1, Nat.reduceAdd, Nat.reduceEqDiff, Nat.reduceLeDiff, Nat.reduceMul, reduceCtorEq, Int.reduceLT, Int.reduceLE, Int.reduceGT, Int.reduceGE, Int.reduceEq, Int.reduceNeg])
  (repeat' (first | (refine condF_split (fun hc => ?_) (fun hc => ?_) <;> (try simp only [Bool.not_eq_true', Bool.not_eq_false', Bool.and_eq_true, Bool.or_eq_false_iff] at hc) <;> (try (simp (config := { contextual := true, dsimp := false }) only [*, SesS.cells, SesS.view, Wr.cells, SesS.msg, ↓reduceIte, ↓evP, evQ, if_true, if_false, eq_self, binv, eqv, lenv, fillO, splice, fldv, Sp.eqa, eqL, eq1, Nat.reduceAdd, Nat.reduceEqDiff, Nat.reduceLeDiff, Nat.reduceMul, reduceCtorEq, Int.reduceLT, Int.reduceLE, Int.reduceGT, Int.reduceGE, Int.reduceEq, Int.reduceNeg]))) | (intro _; intros) | ((refine And.intro ?_ ?_; focus (first | omega | (first | exact Sub.refl _ | ((repeat (first | exact Sub.refl _ | (refine Sub.drop ?_ ?_; focus (simp only [none_upd, none_set, not_false_eq_true, true_and, and_true, *]; done)) | refine Sub.both ?_)); done)) | ((simp only [decide_eq_true_eq, decide_eq_false_iff_not] at *); omega) | (simp_all; done) | (simp_all; omega))); (try (simp (config := { contextual := true, dsimp := false }) only [*, SesS.cells, SesS.view, Wr.cells, SesS.msg, ↓reduceIte, ↓evP, evQ, if_true, if_false, eq_self, binv, eqv, lenv, fillO, splice, fldv, Sp.eqa, eqL, eq1, Nat.reduceAdd, Nat.reduceEqDiff, Nat.reduceLeDiff, Nat.reduceMul, reduceCtorEq, Int.reduceLT, Int.reduceLE, Int.reduceGT, Int.reduceGE, Int.reduceEq, Int.reduceNeg])))))
  refine gcallF_first (ACalls.beside ?_ (clone46 H.out hn)) ?_ ?_
  · (simp only [none_upd, none_set, not_false_eq_true, true_and, and_true, *]; done)
  · rintro u s3 ⟨q0, ⟨_, hM⟩, _, rfl⟩
    exact Sub.both hM.sub
  rintro u σ'' ⟨σ1, ⟨hR, hM⟩, hn1, rfl⟩
  obtain ⟨a', c', rfl⟩ := hR.slice
  have H2 : Hid (RowsAt 37 3 Wr.cells _ _ _ ∧ Made _ _ _) := ⟨hR, hM⟩
  clear hR hM
  simp (config := { contextual := true, dsimp := false }) only [*, SesS.cells, SesS.view, Wr.cells, SesS.msg, ↓reduceIte, ↓evP, evQ, if_true, if_false, eq_self, binv, eqv, lenv, fillO, splice, fldv, Sp.eqa, eqL, eq1, Nat.reduceAdd, Nat.reduceEqDiff, Nat.reduceLeDiff, Nat.reduceMul, reduceCtorEq, Int.reduceLT, Int.reduceLE, Int.reduceGT, Int.reduceGE, Int.reduceEq, Int.reduceNeg]
  (repeat' (first | (refine condF_split (fun hc => ?_) (fun hc => ?_) <;> (try simp only [Bool.not_eq_true', Bool.not_eq_false', Bool.and_eq_true, Bool.or_eq_false_iff] at hc) <;> (try (simp (config := { contextual := true, dsimp := false }) only [*, SesS.cells, SesS.view, Wr.cells, SesS.msg, ↓reduceIte, ↓evP, evQ, if_true, if_false, eq_self, binv, eqv, lenv, fillO, splice, fldv, Sp.eqa, eqL, eq1, Nat.reduceAdd, Nat.reduceEqDiff, Nat.reduceLeDiff, Nat.reduceMul, reduceCtorEq, Int.reduceLT, Int.reduceLE, Int.reduceGT, Int.reduceGE, Int.reduceEq, Int.reduceNeg]))) | (intro _; intros) | ((refine And.intro ?_ ?_; focus (first | omega | (first | exact Sub.refl _ | ((repeat (first | exact Sub.refl _ | (refine Sub.drop ?_ ?_; focus (simp only [none_upd, none_set, not_false_eq_true, true_and, and_true, *]; done)) | refine Sub.both ?_)); done)) | ((simp only [decide_eq_true_eq, decide_eq_false_iff_not] at *); omega) | (simp_all; done) | (simp_all; omega))); (try (simp (config := { contextual := true, dsimp := false }) only [*, SesS.cells, SesS.view, Wr.cells, SesS.msg, ↓reduceIte, ↓evP, evQ, if_true, if_false, eq_self, binv, eqv, lenv, fillO, splice, fldv, Sp.eqa, eqL, eq1, Nat.reduceAdd, Nat.reduceEqDiff, Nat.reduceLeDiff, Nat.reduceMul, reduceCtorEq, Int.reduceLT, Int.reduceLE, Int.reduceGT, Int.reduceGE, Int.reduceEq, Int.reduceNeg])))))
  refine endF_sub (τ := σ1) ?_ ⟨.slice a' ws.length c', rfl, H2.out.1, H2.out.2⟩
  (first | exact Sub.refl _ | ((repeat (first | exact Sub.refl _ | (refine Sub.drop ?_ ?_; focus (simp only [none_upd, none_set, not_false_eq_true, true_and, and_true, *]; done)) | refine Sub.both ?_)); done))
end Go.Proofs.YtaoafjlocjjbbaaDoor
