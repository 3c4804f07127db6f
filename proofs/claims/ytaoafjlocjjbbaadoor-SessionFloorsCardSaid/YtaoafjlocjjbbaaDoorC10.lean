/- The commit, sent again: it goes out. -/
import Derived.Test.YtaoafjlocjjbbaaDoorC9
namespace Go.Proofs.YtaoafjlocjjbbaaDoor
open Go.Sp
set_option linter.unusedSimpArgs false
set_option linter.unusedVariables false
def SesS.tried (S : SesS) : SesS := { S with tries := IntKind.i64.wrap (S.tries + 1) }
set_option maxRecDepth 100000 in
theorem again17c {σ : Hp} {g : Nat} {S : SesS} {v : Value} {ws : List Wr} (hg : σ g = some (.cells (S.cells v) 101)) (hr : RowsAt 37 3 Wr.cells σ v ws) (hn : ws.length * 40 ≤ 140737488355328) (r : Int) (h : S.busy = true) (ht : decide (S.tries ≥ r) = false) :
    ACalls Tryd.prog 17 #[.pointer (some ⟨g, 0, none⟩), .int .i64 r] σ fun u σ' => ∃ v' σ1, u = .tuple #[.agg (S.msg v').toArray, .int .i64 0] ∧ σ1 = set σ g (.cells (S.tried.cells v) 101) ∧ RowsAt 37 3 Wr.cells σ' v' ws ∧ Made σ1 σ' v' := by
  obtain ⟨a, c, rfl⟩ := hr.slice
  unfold SesS.cells at hg
  obtain ⟨τ, rfl⟩ := open_upd hg
  have hng := hr.notCells (upd_same _ _ _)
  clear hg
  have H := Hid.mk hr
  have hh := Hid.mk h
  clear hr h
  (refine acalls_F ok17 (by simp) ?_; unfold c17 r17; simp (config := { contextual := true, dsimp := false }) only [SesS.cells, SesS.view, Wr.cells, SesS.msg, Msg.cells, ↓reduceIte, ↓evP, evQ, if_true, if_false, eq_self, binv, eqv, lenv, fillO, splice, fldv, Sp.eqa, eqL, eq1, Nat.reduceAdd, Nat.reduceEqDiff, Nat.reduceLeDiff, Nat.reduceMul, reduceCtorEq, Int.reduceLT, Int.reduceLE, Int.reduceGT, Int.reduceGE, Int.reduceEq, Int.reduceNeg])
  (repeat' (first | (refine condF_split (fun hc => ?_) (fun hc => ?_) <;> (try simp only [Bool.not_eq_true', Bool.not_eq_false', Bool.and_eq_true, Bool.or_eq_false_iff] at hc) <;> (try (simp (config := { contextual := true, dsimp := false }) only [*, SesS.cells, SesS.view, Wr.cells, SesS.msg, Msg.cells, ↓reduceIte, ↓evP, evQ, if_true, if_false, eq_self, binv, eqv, lenv, fillO, splice, fldv, Sp.eqa, eqL, eq1, Nat.reduceAdd, Nat.reduceEqDiff, Nat.reduceLeDiff, Nat.reduceMul, reduceCtorEq, Int.reduceLT, Int.reduceLE, Int.reduceGT, Int.reduceGE, Int.reduceEq, Int.reduceNeg]))) | (intro _; intros) | ((refine And.intro ?_ ?_; focus (first | omega | (first | exact Sub.refl _ | ((repeat (first | exact Sub.refl _ | (refine Sub.drop ?_ ?_; focus (simp only [none_upd, none_set, not_false_eq_true, true_and, and_true, *]; done)) | refine Sub.both ?_)); done)) | ((simp only [decide_eq_true_eq, decide_eq_false_iff_not] at *); omega) | (simp_all; done) | (simp_all; omega))); (try (simp (config := { contextual := true, dsimp := false }) only [*, SesS.cells, SesS.view, Wr.cells, SesS.msg, Msg.cells, ↓reduceIte, ↓evP, evQ, if_true, if_false, eq_self, binv, eqv, lenv, fillO, splice, fldv, Sp.eqa, eqL, eq1, Nat.reduceAdd, Nat.reduceEqDiff, Nat.reduceLeDiff, Nat.reduceMul, reduceCtorEq, Int.reduceLT, Int.reduceLE, Int.reduceGT, Int.reduceGE, Int.reduceEq, Int.reduceNeg])))))
  all_goals try (exact absurd (hh.out.symm.trans ‹S.busy = false›) (by simp))
  have HR : RowsAt 37 3 Wr.cells (upd τ g (.cells (({ S with busy := true } : SesS).tried.cells (.slice a ws.length c)) 101)) (.slice a ws.length c) ws := H.out.keep fun k hk => by
    have hk' : k ≠ g := fun e => hng (by rw [hk, e])
    rw [upd_ne _ _ hk', upd_ne _ _ hk']
  refine callF_of (ACalls.beside ?_ (message47 (S := ({ S with busy := true } : SesS).tried) (upd_same _ _ _) HR hn)) ?_
  · (simp only [none_upd, none_set, not_false_eq_true, true_and, and_true, *]; done)
  rintro u σ'' ⟨σ2, ⟨v', rfl, hR, hM⟩, hn1, rfl⟩
  obtain ⟨a', c', rfl⟩ := hR.slice
  have H2 := Hid.mk hR
  have H3 := Hid.mk hM
  clear hR hM HR H
  simp (config := { contextual := true, dsimp := false }) only [*, SesS.cells, SesS.view, Wr.cells, SesS.msg, Msg.cells, ↓reduceIte, ↓evP, evQ, if_true, if_false, eq_self, binv, eqv, lenv, fillO, splice, fldv, Sp.eqa, eqL, eq1, Nat.reduceAdd, Nat.reduceEqDiff, Nat.reduceLeDiff, Nat.reduceMul, reduceCtorEq, Int.reduceLT, Int.reduceLE, Int.reduceGT, Int.reduceGE, Int.reduceEq, Int.reduceNeg]
  refine endF_sub (τ := σ2) ?_ ⟨.slice a' ws.length c', _, rfl, ?_, H2.out, H3.out⟩
  · (first | exact Sub.refl _ | ((repeat (first | exact Sub.refl _ | (refine Sub.drop ?_ ?_; focus (simp only [none_upd, none_set, not_false_eq_true, true_and, and_true, *]; done)) | refine Sub.both ?_)); done))
  · rw [set_same]
    rw [← hh.out]; rfl
end Go.Proofs.YtaoafjlocjjbbaaDoor
