/- A commit begins, and goes out. -/
import Derived.Test.YtaoafjlocjjbbaaDoorC11
import Derived.Test.YtaoafjlocjjbbaaDoorSpL
namespace Go.Proofs.YtaoafjlocjjbbaaDoor
open Go.Sp
set_option linter.unusedSimpArgs false
set_option linter.unusedVariables false
def SesS.sent (S : SesS) : SesS := { S with busy := true, seq := IntKind.i64.wrap (S.seq + 1), tries := 0 }
theorem checkV_ne {ws : List Wr} (h : checkV ws = 0) : ws ≠ [] := fun e => by
  subst e
  exact absurd h (by show (1 : Int) ≠ 0; decide)
set_option maxRecDepth 100000 in
theorem send15d {τ : Hp} {g : Nat} {S : SesS} {v w : Value} {ws : List Wr} (hg : τ g = none) (hv : RoRows 3 Wr.cells τ w ws) (hn : ws.length * 40 ≤ 140737488355328) (h : S.busy = false) (he : checkV ws = 0) (hs : decide (S.seq ≥ 2147483647) = false) :
    ACalls Tryd.prog 15 #[.pointer (some ⟨g, 0, none⟩), w] (upd τ g (.cells (S.cells v) 101)) fun u σ' => ∃ v1 v2, u = .tuple #[.agg (S.sent.msg v2).toArray, .int .i64 0] ∧ σ' g = some (.cells (S.sent.cells v1) 101) ∧ RowsAt 37 3 Wr.cells σ' v1 ws ∧ RowsAt 37 3 Wr.cells σ' v2 ws ∧
      Same (fun _ => False) τ σ' ∧ New τ v1 ∧ New τ v2 ∧ blk v1 ≠ blk v2 := by
  obtain ⟨i0, fl, bu, sq, tr, la, er⟩ := S
  obtain rfl : bu = false := h
  have hs : decide (sq ≥ 2147483647) = false := hs
  have H0 := Hid.mk hv
  obtain ⟨A, c, rfl, _⟩ := hv
  have HE := Hid.mk he
  (refine acalls_F ok15 (by simp) ?_; unfold c15 r15; simp (config := { contextual := true, dsimp := false }) only [SesS.cells, SesS.view, Wr.cells, SesS.msg, Msg.cells, Bool.not_false, Bool.not_true, ↓reduceIte, ↓evP, evQ, if_true, if_false, eq_self, binv, eqv, lenv, fillO, splice, fldv, Sp.eqa, eqL, eq1, Nat.reduceAdd, Nat.reduceEqDiff, Nat.reduceLeDiff, Nat.reduceMul, reduceCtorEq, Int.reduceLT, Int.reduceLE, Int.reduceGT, Int.reduceGE, Int.reduceEq, Int.reduceNeg])
  (repeat' (first | (refine condF_split (fun hc => ?_) (fun hc => ?_) <;> (try simp only [Bool.not_eq_true', Bool.not_eq_false', Bool.and_eq_true, Bool.or_eq_false_iff] at hc) <;> (try (simp (config := { contextual := true, dsimp := false }) only [*, SesS.cells, SesS.view, Wr.cells, SesS.msg, Msg.cells, Bool.not_false, Bool.not_true, ↓reduceIte, ↓evP, evQ, if_true, if_false, eq_self, binv, eqv, lenv, fillO, splice, fldv, Sp.eqa, eqL, eq1, Nat.reduceAdd, Nat.reduceEqDiff, Nat.reduceLeDiff, Nat.reduceMul, reduceCtorEq, Int.reduceLT, Int.reduceLE, Int.reduceGT, Int.reduceGE, Int.reduceEq, Int.reduceNeg]))) | (intro _; intros) | ((refine And.intro ?_ ?_; focus (first | omega | (first | exact Sub.refl _ | ((repeat (first | exact Sub.refl _ | (refine Sub.drop ?_ ?_; focus (simp only [none_upd, none_set, not_false_eq_true, true_and, and_true, *]; done)) | refine Sub.both ?_)); done)) | ((simp only [decide_eq_true_eq, decide_eq_false_iff_not] at *); omega) | (simp_all; done) | (simp_all; omega))); (try (simp (config := { contextual := true, dsimp := false }) only [*, SesS.cells, SesS.view, Wr.cells, SesS.msg, Msg.cells, Bool.not_false, Bool.not_true, ↓reduceIte, ↓evP, evQ, if_true, if_false, eq_self, binv, eqv, lenv, fillO, splice, fldv, Sp.eqa, eqL, eq1, Nat.reduceAdd, Nat.reduceEqDiff, Nat.reduceLeDiff, Nat.reduceMul, reduceCtorEq, Int.reduceLT, Int.reduceLE, Int.reduceGT, Int.reduceGE, Int.reduceEq, Int.reduceNeg])))))
  refine callF_of (new44 _) ?_
  rintro u σ2 ⟨m, g2, hm, hg2, hne, rfl, rfl⟩
  simp (config := { contextual := true, dsimp := false }) only [*, SesS.cells, SesS.view, Wr.cells, SesS.msg, Msg.cells, Bool.not_false, Bool.not_true, ↓reduceIte, ↓evP, evQ, if_true, if_false, eq_self, binv, eqv, lenv, fillO, splice, fldv, Sp.eqa, eqL, eq1, Nat.reduceAdd, Nat.reduceEqDiff, Nat.reduceLeDiff, Nat.reduceMul, reduceCtorEq, Int.reduceLT, Int.reduceLE, Int.reduceGT, Int.reduceGE, Int.reduceEq, Int.reduceNeg]
  refine callF_of (commit45 hm hg2 hne (H0.out.sub ?_) (by omega)) ?_
  · (first | exact Sub.refl _ | ((repeat (first | exact Sub.refl _ | (refine Sub.drop ?_ ?_; focus (simp only [none_upd, none_set, not_false_eq_true, true_and, and_true, *]; done)) | refine Sub.both ?_)); done))
  rintro u σ3 ⟨rfl, rfl⟩
  rw [he]
  simp (config := { contextual := true, dsimp := false }) only [*, SesS.cells, SesS.view, Wr.cells, SesS.msg, Msg.cells, Bool.not_false, Bool.not_true, ↓reduceIte, ↓evP, evQ, if_true, if_false, eq_self, binv, eqv, lenv, fillO, splice, fldv, Sp.eqa, eqL, eq1, Nat.reduceAdd, Nat.reduceEqDiff, Nat.reduceLeDiff, Nat.reduceMul, reduceCtorEq, Int.reduceLT, Int.reduceLE, Int.reduceGT, Int.reduceGE, Int.reduceEq, Int.reduceNeg]
  (repeat' (first | (refine condF_split (fun hc => ?_) (fun hc => ?_) <;> (try simp only [Bool.not_eq_true', Bool.not_eq_false', Bool.and_eq_true, Bool.or_eq_false_iff] at hc) <;> (try (simp (config := { contextual := true, dsimp := false }) only [*, SesS.cells, SesS.view, Wr.cells, SesS.msg, Msg.cells, Bool.not_false, Bool.not_true, ↓reduceIte, ↓evP, evQ, if_true, if_false, eq_self, binv, eqv, lenv, fillO, splice, fldv, Sp.eqa, eqL, eq1, Nat.reduceAdd, Nat.reduceEqDiff, Nat.reduceLeDiff, Nat.reduceMul, reduceCtorEq, Int.reduceLT, Int.reduceLE, Int.reduceGT, Int.reduceGE, Int.reduceEq, Int.reduceNeg]))) | (intro _; intros) | ((refine And.intro ?_ ?_; focus (first | omega | (first | exact Sub.refl _ | ((repeat (first | exact Sub.refl _ | (refine Sub.drop ?_ ?_; focus (simp only [none_upd, none_set, not_false_eq_true, true_and, and_true, *]; done)) | refine Sub.both ?_)); done)) | ((simp only [decide_eq_true_eq, decide_eq_false_iff_not] at *); omega) | (simp_all; done) | (simp_all; omega))); (try (simp (config := { contextual := true, dsimp := false }) only [*, SesS.cells, SesS.view, Wr.cells, SesS.msg, Msg.cells, Bool.not_false, Bool.not_true, ↓reduceIte, ↓evP, evQ, if_true, if_false, eq_self, binv, eqv, lenv, fillO, splice, fldv, Sp.eqa, eqL, eq1, Nat.reduceAdd, Nat.reduceEqDiff, Nat.reduceLeDiff, Nat.reduceMul, reduceCtorEq, Int.reduceLT, Int.reduceLE, Int.reduceGT, Int.reduceGE, Int.reduceEq, Int.reduceNeg])))))
  rename_i b' hb1 hb2 hb0
  refine callF_of (ACalls.beside ?_ (ACalls.beside ?_ (clone46ro H0.out (checkV_ne HE.out) hn))) ?_
  · (simp only [none_upd, none_set, not_false_eq_true, true_and, and_true, *]; done)
  · (simp only [none_upd, none_set, not_false_eq_true, true_and, and_true, *]; done)
  rintro u σ'' ⟨_, ⟨s1, ⟨hR, hM⟩, n0, rfl⟩, n1, rfl⟩
  simp only [none_upd] at n1
  obtain ⟨a', c', rfl⟩ := hR.slice
  have HR := Hid.mk hR
  have HM := Hid.mk hM
  clear hR hM hm hg2
  simp (config := { contextual := true, dsimp := false }) only [*, SesS.cells, SesS.view, Wr.cells, SesS.msg, Msg.cells, Bool.not_false, Bool.not_true, ↓reduceIte, ↓evP, evQ, if_true, if_false, eq_self, binv, eqv, lenv, fillO, splice, fldv, Sp.eqa, eqL, eq1, Nat.reduceAdd, Nat.reduceEqDiff, Nat.reduceLeDiff, Nat.reduceMul, reduceCtorEq, Int.reduceLT, Int.reduceLE, Int.reduceGT, Int.reduceGE, Int.reduceEq, Int.reduceNeg]
  (repeat' (first | (refine condF_split (fun hc => ?_) (fun hc => ?_) <;> (try simp only [Bool.not_eq_true', Bool.not_eq_false', Bool.and_eq_true, Bool.or_eq_false_iff] at hc) <;> (try (simp (config := { contextual := true, dsimp := false }) only [*, SesS.cells, SesS.view, Wr.cells, SesS.msg, Msg.cells, Bool.not_false, Bool.not_true, ↓reduceIte, ↓evP, evQ, if_true, if_false, eq_self, binv, eqv, lenv, fillO, splice, fldv, Sp.eqa, eqL, eq1, Nat.reduceAdd, Nat.reduceEqDiff, Nat.reduceLeDiff, Nat.reduceMul, reduceCtorEq, Int.reduceLT, Int.reduceLE, Int.reduceGT, Int.reduceGE, Int.reduceEq, Int.reduceNeg]))) | (intro _; intros) | ((refine And.intro ?_ ?_; focus (first | omega | (first | exact Sub.refl _ | ((repeat (first | exact Sub.refl _ | (refine Sub.drop ?_ ?_; focus (simp only [none_upd, none_set, not_false_eq_true, true_and, and_true, *]; done)) | refine Sub.both ?_)); done)) | ((simp only [decide_eq_true_eq, decide_eq_false_iff_not] at *); omega) | (simp_all; done) | (simp_all; omega))); (try (simp (config := { contextual := true, dsimp := false }) only [*, SesS.cells, SesS.view, Wr.cells, SesS.msg, Msg.cells, Bool.not_false, Bool.not_true, ↓reduceIte, ↓evP, evQ, if_true, if_false, eq_self, binv, eqv, lenv, fillO, splice, fldv, Sp.eqa, eqL, eq1, Nat.reduceAdd, Nat.reduceEqDiff, Nat.reduceLeDiff, Nat.reduceMul, reduceCtorEq, Int.reduceLT, Int.reduceLE, Int.reduceGT, Int.reduceGE, Int.reduceEq, Int.reduceNeg])))))
  have HR2 := HR.out.fresh n0 (.cells ((⟨i0, fl, true, IntKind.i64.wrap (sq + 1), 0, la, er⟩ : SesS).cells (.slice a' ws.length c')) 101)
  refine callF_of (ACalls.beside ?_ (message47 (S := ⟨i0, fl, true, IntKind.i64.wrap (sq + 1), 0, la, er⟩) (upd_same _ _ _) HR2 hn)) ?_
  · (simp only [none_upd, none_set, not_false_eq_true, true_and, and_true, *]; done)
  rintro u σ'' ⟨s2, ⟨v', rfl, hR3, hM3⟩, n2, rfl⟩
  obtain ⟨a3, c3, rfl⟩ := hR3.slice
  have HR3 := Hid.mk hR3
  have HM3 := Hid.mk hM3
  clear hR3 hM3
  simp (config := { contextual := true, dsimp := false }) only [*, SesS.cells, SesS.view, Wr.cells, SesS.msg, Msg.cells, Bool.not_false, Bool.not_true, ↓reduceIte, ↓evP, evQ, if_true, if_false, eq_self, binv, eqv, lenv, fillO, splice, fldv, Sp.eqa, eqL, eq1, Nat.reduceAdd, Nat.reduceEqDiff, Nat.reduceLeDiff, Nat.reduceMul, reduceCtorEq, Int.reduceLT, Int.reduceLE, Int.reduceGT, Int.reduceGE, Int.reduceEq, Int.reduceNeg]
  refine endF_sub (τ := s2) (Sub.drop n2 (Sub.refl _)) ⟨_, _, rfl, HM3.out.1.at (upd_same _ _ _) (fun x => x), HR2.sameF HM3.out.1 (fun _ _ x => x), HR3.out, (Same.updNew hg HM.out.1).trans HM3.out.1 (fun _ _ x => x), HM.out.2, fun k hk => ?_, fun e => ?_⟩
  · exact HM.out.old ((none_upd _ _ _ _).1 (HM3.out.2 k hk)).2
  · obtain ⟨k, hk⟩ := HR2.blk_some (checkV_ne HE.out)
    exact HR2.known hk (HM3.out.2 k (e ▸ hk))
end Go.Proofs.YtaoafjlocjjbbaaDoor
