/- What may be written: the check of a commit's writes. -/
import Derived.Test.YtaoafjlocjjbbaaDoorC1
import Derived.IntWalk
namespace Go.Proofs.YtaoafjlocjjbbaaDoor
open Go.Sp
set_option linter.unusedSimpArgs false
set_option linter.unusedVariables false
theorem wi64 {x : Int} (h : -9223372036854775808 ≤ x ∧ x ≤ 9223372036854775807) : IntKind.i64.wrap x = x := IntWalk.i64_in x (by omega)
def chk : List Wr → Nat → List (ByteArray × Value) → Bool → Int
  | [], _, _, tw => cond tw 22 0
  | w :: r, i, l, tw => cond (goodW w) (chk r (i + 1) (mput l w.key (.int .i64 i)) (tw || (mget l w.key).isSome)) 1
def checkV (ws : List Wr) : Int := cond (decide ((ws.length : Int) = 0) || decide ((ws.length : Int) > 8)) 1 (chk ws 0 [] false)
theorem check70 {σ : Hp} {v : Value} {ws : List Wr} (hv : RoRows 3 Wr.cells σ v ws) (hn : ws.length ≤ 140737488355328) : ACalls Tryd.prog 70 #[v] σ fun u σ' => u = .int .i64 (checkV ws) ∧ σ' = σ := by
  obtain ⟨A, c, rfl, hrow⟩ := hv
  have H := Hid.mk hrow
  clear hrow
  (refine acalls_F ok70 (by simp) ?_; unfold c70 r70; simp (config := { contextual := true, dsimp := false }) only [Wr.cells, ↓reduceIte, ↓evP, evQ, if_true, if_false, eq_self, binv, eqv, lenv, fillO, splice, fldv, Sp.eqa, eqL, eq1, Nat.reduceAdd, Nat.reduceEqDiff, Nat.reduceLeDiff, Nat.reduceMul, reduceCtorEq, Int.reduceLT, Int.reduceLE, Int.reduceGT, Int.reduceGE, Int.reduceEq, Int.reduceNeg])
  (repeat' (first | (refine condF_split (fun hc => ?_) (fun hc => ?_) <;> (try simp only [Bool.not_eq_true', Bool.not_eq_false', Bool.and_eq_true, Bool.or_eq_false_iff] at hc) <;> (try (simp (config := { contextual := true, dsimp := false }) only [*, Wr.cells, ↓reduceIte, ↓evP, evQ, if_true, if_false, eq_self, binv, eqv, lenv, fillO, splice, fldv, Sp.eqa, eqL, eq1, Nat.reduceAdd, Nat.reduceEqDiff, Nat.reduceLeDiff, Nat.reduceMul, reduceCtorEq, Int.reduceLT, Int.reduceLE, Int.reduceGT, Int.reduceGE, Int.reduceEq, Int.reduceNeg]))) | (intro _; intros) | ((refine And.intro ?_ ?_; focus (first | omega | (first | exact Sub.refl _ | ((repeat (first | exact Sub.refl _ | (refine Sub.drop ?_ ?_; focus (simp only [none_upd, none_set, not_false_eq_true, true_and, and_true, *]; done)) | refine Sub.both ?_)); done)) | ((simp only [decide_eq_true_eq, decide_eq_false_iff_not] at *); omega) | (simp_all; done) | (simp_all; omega))); (try (simp (config := { contextual := true, dsimp := false }) only [*, Wr.cells, ↓reduceIte, ↓evP, evQ, if_true, if_false, eq_self, binv, eqv, lenv, fillO, splice, fldv, Sp.eqa, eqL, eq1, Nat.reduceAdd, Nat.reduceEqDiff, Nat.reduceLeDiff, Nat.reduceMul, reduceCtorEq, Int.reduceLT, Int.reduceLE, Int.reduceGT, Int.reduceGE, Int.reduceEq, Int.reduceNeg])))))
  · exact endF_det (by unfold checkV; rw [hc]; rfl) (Sub.refl _)
  · rename_i h1; exact endF_det (by unfold checkV; rw [h1, hc]; rfl) (Sub.refl _)
  rename_i m hm
  have hck : checkV ws = chk ws 0 [] false := by unfold checkV; rw [‹decide ((ws.length : Int) = 0) = false›, ‹decide ((ws.length : Int) > 8) = false›]; rfl
  rw [hck]
  refine loopF_of (fun k s σ' => ∃ (i : Nat) (l : List (ByteArray × Value)) (tw : Bool), i ≤ ws.length ∧ k = ws.length - i ∧ s 20 = .int .i64 i ∧ s 19 = .int .i64 ws.length ∧ s 18 = .slice A ws.length c ∧ s 3 = .map (some m) ∧ s 4 = .bool tw ∧ σ' = upd σ m (.mp l) ∧
    chk (ws.drop i) i l tw = chk ws 0 [] false) ws.length (Sub.refl _) ⟨0, [], false, by omega, rfl, (by first | rfl | (simp only [↓putO_get, ↓putO_no, init_zero, init_succ, Nat.reduceEqDiff, ↓reduceIte, *]; done) | (simp only [↓putO_get, ↓putO_no, init_zero, init_succ, Nat.reduceEqDiff, ↓reduceIte, *]; rfl)), (by first | rfl | (simp only [↓putO_get, ↓putO_no, init_zero, init_succ, Nat.reduceEqDiff, ↓reduceIte, *]; done) | (simp only [↓putO_get, ↓putO_no, init_zero, init_succ, Nat.reduceEqDiff, ↓reduceIte, *]; rfl)), (by first | rfl | (simp only [↓putO_get, ↓putO_no, init_zero, init_succ, Nat.reduceEqDiff, ↓reduceIte, *]; done) | (simp only [↓putO_get, ↓putO_no, init_zero, init_succ, Nat.reduceEqDiff, ↓reduceIte, *]; rfl)), (by first | rfl | (simp only [↓putO_get, ↓putO_no, init_zero, init_succ, Nat.reduceEqDiff, ↓reduceIte, *]; done) | (simp only [↓putO_get, ↓putO_no, init_zero, init_succ, Nat.reduceEqDiff, ↓reduceIte, *]; rfl)), (by first | rfl | (simp only [↓putO_get, ↓putO_no, init_zero, init_succ, Nat.reduceEqDiff, ↓reduceIte, *]; done) | (simp only [↓putO_get, ↓putO_no, init_zero, init_succ, Nat.reduceEqDiff, ↓reduceIte, *]; rfl)), rfl, rfl⟩ ?_
  rintro k s σ' ⟨i, l, tw, hi, hk, h20, h19, h18, h3, h4, rfl, hc⟩
  rcases Nat.lt_or_ge i ws.length with hlt | hge
  · obtain ⟨w, ho⟩ : ∃ w, ws[i]? = some w := ⟨_, List.getElem?_eq_getElem hlt⟩
    obtain ⟨b, off, rfl, hrd⟩ := H.out i w ho
    have hrd := rdn_sub (Sub.drop (o := .mp l) hm (Sub.refl _)) hrd
    have hd : decide ((i : Int) < (ws.length : Int)) = true := by simp; omega
    have hdrop : ws.drop i = w :: ws.drop (i + 1) := by
      rw [List.drop_eq_getElem_cons hlt]
      rw [List.getElem?_eq_getElem hlt] at ho
      cases ho; rfl
    rw [hdrop] at hc
    have HC := Hid.mk hc
    have HK := Hid.mk hck
    clear ho hc hck hdrop H
    simp (config := { contextual := true, dsimp := false }) only [*, Wr.cells, ↓reduceIte, ↓evP, evQ, if_true, if_false, eq_self, binv, eqv, lenv, fillO, splice, fldv, Sp.eqa, eqL, eq1, Nat.reduceAdd, Nat.reduceEqDiff, Nat.reduceLeDiff, Nat.reduceMul, reduceCtorEq, Int.reduceLT, Int.reduceLE, Int.reduceGT, Int.reduceGE, Int.reduceEq, Int.reduceNeg]
    (repeat' (first | (refine condF_split (fun hc => ?_) (fun hc => ?_) <;> (try simp only [Bool.not_eq_true', Bool.not_eq_false', Bool.and_eq_true, Bool.or_eq_false_iff] at hc) <;> (try (simp (config := { contextual := true, dsimp := false }) only [*, Wr.cells, ↓reduceIte, ↓evP, evQ, if_true, if_false, eq_self, binv, eqv, lenv, fillO, splice, fldv, Sp.eqa, eqL, eq1, Nat.reduceAdd, Nat.reduceEqDiff, Nat.reduceLeDiff, Nat.reduceMul, reduceCtorEq, Int.reduceLT, Int.reduceLE, Int.reduceGT, Int.reduceGE, Int.reduceEq, Int.reduceNeg]))) | (refine callF_v (goodWrite85 _ _) ?_; (try (simp (config := { contextual := true, dsimp := false }) only [*, Wr.cells, ↓reduceIte, ↓evP, evQ, if_true, if_false, eq_self, binv, eqv, lenv, fillO, splice, fldv, Sp.eqa, eqL, eq1, Nat.reduceAdd, Nat.reduceEqDiff, Nat.reduceLeDiff, Nat.reduceMul, reduceCtorEq, Int.reduceLT, Int.reduceLE, Int.reduceGT, Int.reduceGE, Int.reduceEq, Int.reduceNeg]))) | (refine ccallF_of (goodWrite85 _ _) ?_; (try (simp (config := { contextual := true, dsimp := false }) only [*, Wr.cells, ↓reduceIte, ↓evP, evQ, if_true, if_false, eq_self, binv, eqv, lenv, fillO, splice, fldv, Sp.eqa, eqL, eq1, Nat.reduceAdd, Nat.reduceEqDiff, Nat.reduceLeDiff, Nat.reduceMul, reduceCtorEq, Int.reduceLT, Int.reduceLE, Int.reduceGT, Int.reduceGE, Int.reduceEq, Int.reduceNeg]))) | (refine gcallF_of (goodWrite85 _ _) ?_; (try (simp (config := { contextual := true, dsimp := false }) only [*, Wr.cells, ↓reduceIte, ↓evP, evQ, if_true, if_false, eq_self, binv, eqv, lenv, fillO, splice, fldv, Sp.eqa, eqL, eq1, Nat.reduceAdd, Nat.reduceEqDiff, Nat.reduceLeDiff, Nat.reduceMul, reduceCtorEq, Int.reduceLT, Int.reduceLE, Int.reduceGT, Int.reduceGE, Int.reduceEq, Int.reduceNeg]))) | (intro _; intros) | ((refine And.intro ?_ ?_; focus (first | omega | (first | exact Sub.refl _ | ((repeat (first | exact Sub.refl _ | (refine Sub.drop ?_ ?_; focus (simp only [none_upd, none_set, not_false_eq_true, true_and, and_true, *]; done)) | refine Sub.both ?_)); done)) | ((simp only [decide_eq_true_eq, decide_eq_false_iff_not] at *); omega) | (simp_all; done) | (simp_all; omega))); (try (simp (config := { contextual := true, dsimp := false }) only [*, Wr.cells, ↓reduceIte, ↓evP, evQ, if_true, if_false, eq_self, binv, eqv, lenv, fillO, splice, fldv, Sp.eqa, eqL, eq1, Nat.reduceAdd, Nat.reduceEqDiff, Nat.reduceLeDiff, Nat.reduceMul, reduceCtorEq, Int.reduceLT, Int.reduceLE, Int.reduceGT, Int.reduceGE, Int.reduceEq, Int.reduceNeg])))))
    · have hg' := Hid.mk (show goodW w = false by assumption)
      refine endF_det ?_ ?_
      · rw [← HC.out]; unfold chk; rw [hg'.out]; rfl
      · refine Sub.drop ?_ (Sub.drop hm (Sub.refl _)); assumption
    · have hg' := Hid.mk (show goodW w = true by assumption)
      have htw' := Hid.mk (show tw = true by assumption)
      refine nextF_of (σ₁ := upd σ m (.mp (mput l w.key (.int .i64 i)))) (ws.length - (i + 1)) (by omega) (by (first | exact Sub.refl _ | ((repeat (first | exact Sub.refl _ | (refine Sub.drop ?_ ?_; focus (simp only [none_upd, none_set, not_false_eq_true, true_and, and_true, *]; done)) | refine Sub.both ?_)); done))) ⟨i + 1, _, true, by omega, rfl, ?_, (by first | rfl | (simp only [↓putO_get, ↓putO_no, init_zero, init_succ, Nat.reduceEqDiff, ↓reduceIte, *]; done) | (simp only [↓putO_get, ↓putO_no, init_zero, init_succ, Nat.reduceEqDiff, ↓reduceIte, *]; rfl)), (by first | rfl | (simp only [↓putO_get, ↓putO_no, init_zero, init_succ, Nat.reduceEqDiff, ↓reduceIte, *]; done) | (simp only [↓putO_get, ↓putO_no, init_zero, init_succ, Nat.reduceEqDiff, ↓reduceIte, *]; rfl)), (by first | rfl | (simp only [↓putO_get, ↓putO_no, init_zero, init_succ, Nat.reduceEqDiff, ↓reduceIte, *]; done) | (simp only [↓putO_get, ↓putO_no, init_zero, init_succ, Nat.reduceEqDiff, ↓reduceIte, *]; rfl)), (by first | rfl | (simp only [↓putO_get, ↓putO_no, init_zero, init_succ, Nat.reduceEqDiff, ↓reduceIte, *]; done) | (simp only [↓putO_get, ↓putO_no, init_zero, init_succ, Nat.reduceEqDiff, ↓reduceIte, *]; rfl)), rfl, ?_⟩
      · show Value.int .i64 (IntKind.i64.wrap _) = _; rw [wi64 (by omega)]; rfl
      · rw [← HC.out]; conv => rhs; unfold chk
        rw [hg'.out, htw'.out]; rfl
    · have hg' := Hid.mk (show goodW w = true by assumption)
      have htw' := Hid.mk (show tw = false by assumption)
      refine nextF_of (σ₁ := upd σ m (.mp (mput l w.key (.int .i64 i)))) (ws.length - (i + 1)) (by omega) (by (first | exact Sub.refl _ | ((repeat (first | exact Sub.refl _ | (refine Sub.drop ?_ ?_; focus (simp only [none_upd, none_set, not_false_eq_true, true_and, and_true, *]; done)) | refine Sub.both ?_)); done))) ⟨i + 1, _, (mget l w.key).isSome, by omega, rfl, ?_, (by first | rfl | (simp only [↓putO_get, ↓putO_no, init_zero, init_succ, Nat.reduceEqDiff, ↓reduceIte, *]; done) | (simp only [↓putO_get, ↓putO_no, init_zero, init_succ, Nat.reduceEqDiff, ↓reduceIte, *]; rfl)), (by first | rfl | (simp only [↓putO_get, ↓putO_no, init_zero, init_succ, Nat.reduceEqDiff, ↓reduceIte, *]; done) | (simp only [↓putO_get, ↓putO_no, init_zero, init_succ, Nat.reduceEqDiff, ↓reduceIte, *]; rfl)), (by first | rfl | (simp only [↓putO_get, ↓putO_no, init_zero, init_succ, Nat.reduceEqDiff, ↓reduceIte, *]; done) | (simp only [↓putO_get, ↓putO_no, init_zero, init_succ, Nat.reduceEqDiff, ↓reduceIte, *]; rfl)), (by first | rfl | (simp only [↓putO_get, ↓putO_no, init_zero, init_succ, Nat.reduceEqDiff, ↓reduceIte, *]; done) | (simp only [↓putO_get, ↓putO_no, init_zero, init_succ, Nat.reduceEqDiff, ↓reduceIte, *]; rfl)), rfl, ?_⟩
      · show Value.int .i64 (IntKind.i64.wrap _) = _; rw [wi64 (by omega)]; rfl
      · rw [← HC.out]; conv => rhs; unfold chk
        rw [hg'.out, htw'.out]; rfl
  · have hd : decide ((i : Int) < (ws.length : Int)) = false := by simp; omega
    have hdrop : ws.drop i = [] := List.drop_eq_nil_of_le hge
    rw [hdrop] at hc
    have HC := Hid.mk hc
    clear hc hck
    cases tw
    all_goals simp (config := { contextual := true, dsimp := false }) only [*, Wr.cells, ↓reduceIte, ↓evP, evQ, if_true, if_false, eq_self, binv, eqv, lenv, fillO, splice, fldv, Sp.eqa, eqL, eq1, Nat.reduceAdd, Nat.reduceEqDiff, Nat.reduceLeDiff, Nat.reduceMul, reduceCtorEq, Int.reduceLT, Int.reduceLE, Int.reduceGT, Int.reduceGE, Int.reduceEq, Int.reduceNeg]
    all_goals exact endF_det (by rw [← HC.out]; rfl) (Sub.drop hm (Sub.refl _))
end Go.Proofs.YtaoafjlocjjbbaaDoor
