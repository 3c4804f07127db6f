/- Every script, on both. -/
import Derived.Test.YtmjpcpipacciiaaB15
namespace Go.Proofs.Ytmjpcpipacciiaa
open Go.Sp
set_option linter.unusedSimpArgs false
set_option linter.unusedVariables false
theorem st0 : 0 ≤ (0 : Int) ∧ (0 : Int) ≤ 4 := by decide
theorem st1 : 0 ≤ (1 : Int) ∧ (1 : Int) ≤ 4 := by decide
theorem st2 : 0 ≤ (2 : Int) ∧ (2 : Int) ≤ 4 := by decide
theorem st3 : 0 ≤ (3 : Int) ∧ (3 : Int) ≤ 4 := by decide
theorem st4 : 0 ≤ (4 : Int) ∧ (4 : Int) ≤ 4 := by decide
theorem keyB_read {T : TxS} {key : ByteArray} (h : T.key.size ≤ 140737488351232) (hk : key.size ≤ 140737488351232) : (T.read key).1.key.size ≤ 140737488351232 := by
  unfold TxS.read
  cases decide (T.st ≥ 3) <;> cases T.busy <;> cases goodK key <;> first | exact h | (cases T.find key <;> first | exact h | exact hk)
theorem Inv.read {T : TxS} {n : Nat} (h : Inv T n) (key : ByteArray) (hk : key.size ≤ 140737488351232) : Inv (T.read key).1 n := by
  refine ⟨?_, keyB_read h.key hk, by rw [reads_read]; exact h.reads⟩
  unfold TxS.read
  cases decide (T.st ≥ 3) <;> cases T.busy <;> cases goodK key <;> first | exact h.st | (cases T.find key <;> first | exact h.st | first | exact st0 | exact st1 | exact st2 | exact st3 | exact st4)
theorem Inv.again {T : TxS} {n : Nat} (h : Inv T n) (r : Int) : Inv (T.again r).1 n := by
  refine ⟨?_, ?_, by rw [reads_again]; exact h.reads⟩
  all_goals unfold TxS.again
  · cases T.busy <;> cases decide (T.tr < r) <;> cases decide (T.st = 1) <;> first | exact h.st | first | exact st0 | exact st1 | exact st2 | exact st3 | exact st4
  · cases T.busy <;> cases decide (T.tr < r) <;> cases decide (T.st = 1) <;> first | exact h.key | (show (⟨#[]⟩ : ByteArray).size ≤ _; decide)
theorem Inv.finish {T : TxS} {n : Nat} (h : Inv T n) : Inv T.finish.1 n := by
  refine ⟨?_, ?_, by rw [reads_finish]; exact h.reads⟩
  all_goals unfold TxS.finish
  · cases decide (T.st = 3) <;> cases decide (T.st = 4) <;> cases T.busy <;> first | exact h.st | first | exact st0 | exact st1 | exact st2 | exact st3 | exact st4
  · cases decide (T.st = 3) <;> cases decide (T.st = 4) <;> cases T.busy <;> first | exact h.key | (show (⟨#[]⟩ : ByteArray).size ≤ _; decide)
theorem Inv.takes {T : TxS} {n : Nat} (h : Inv T n) (has : Bool) (data : ByteArray) (lo hi : Int) : Inv (T.takes has data lo hi) (n + 1) := by
  unfold TxS.takes
  cases T.fits lo hi with
  | false => exact ⟨h.st, h.key, Nat.le_succ_of_le h.reads⟩
  | true => exact ⟨st0, (by show (⟨#[]⟩ : ByteArray).size ≤ _; decide), by show (T.reads ++ [_]).length ≤ _; rw [List.length_append]; exact Nat.succ_le_succ h.reads⟩
theorem Inv.up {T : TxS} {n : Nat} (h : Inv T n) : Inv T (n + 1) := ⟨h.st, h.key, Nat.le_succ_of_le h.reads⟩
theorem Inv.hear {T : TxS} {n : Nat} (h : Inv T n) (m : Msg) : Inv (T.hear m).1 (n + 1) := by
  have a : Inv (T.asks 2 T.key) (n + 1) := ⟨st2, h.key, Nat.le_succ_of_le h.reads⟩
  have b : Inv (T.rests 4 m.err) (n + 1) := ⟨st4, (by show (⟨#[]⟩ : ByteArray).size ≤ _; decide), Nat.le_succ_of_le h.reads⟩
  have c := h.takes m.has m.data m.lo m.hi
  unfold TxS.hear
  cases (T.busy && decide (m.tx = T.id) && decide (m.seq = T.seq)) <;> cases (decide (m.kind = 4) && decide (T.st = 1)) <;> cases (decide (m.kind = 6) && decide (T.st = 2)) <;> cases (m.hit && T.fits m.lo m.hi) <;> cases decide (m.err = 0) <;> first | exact h.up | exact a | exact b | exact c
theorem Inv.step {T : TxS} {n : Nat} (h : Inv T n) (o : Op) (hk : o.key.size ≤ 140737488351232) : Inv (T.step o) (n + 1) := by
  unfold TxS.step
  cases decide (o.kind.tmod 4 = 0) <;> cases decide (o.kind.tmod 4 = 1) <;> cases decide (o.kind.tmod 4 = 2) <;> cases decide (o.kind.tmod 4 = 3) <;> first | exact h.up | exact (h.read o.key hk).up | exact h.hear o.m | exact (h.again o.n).up | exact h.finish.up
theorem newT_inv (id nodes floor : Int) : Inv (newT id nodes floor) 0 := ⟨⟨(by show (0 : Int) ≤ 0; decide), (by show (0 : Int) ≤ 4; decide)⟩, (by show (⟨#[]⟩ : ByteArray).size ≤ _; decide), Nat.le_refl _⟩
theorem Step2.sub {σ σ' σ'' : Hp} {g g' : Nat} {v v' v1 v1' : Value} (h : Step2 σ' g v g' v' σ'' v1 v1') (hs : Sub σ σ') (hg : σ g = none) (hg' : σ g' = none) (hw : ∀ k, blk v = some k → σ k = none) : Sub σ σ'' := fun k => by
  by_cases e : σ k = none
  · exact .inl e
  · rcases hs k with x | x
    · exact .inl x
    · refine .inr (x.trans (h.1 k (by rw [← x]; exact e) fun f => ?_).symm)
      rcases f with f | f | f
      · subst f; exact e hg
      · subst f; exact e hg'
      · exact e (hw k f)
theorem Step2.new {σ σ' σ'' : Hp} {g g' : Nat} {v v' v1 v1' : Value} (h : Step2 σ' g v g' v' σ'' v1 v1') (hs : Sub σ σ') (hw : ∀ k, blk v = some k → σ k = none) : ∀ k, blk v1 = some k → σ k = none := fun k hk => by
  rcases h.2.1 k hk with e | e
  · exact hw k e
  · rcases hs k with x | x
    · exact x
    · rw [x]; exact e
theorem plays5 (id nodes floor : Int) (script : List Op) (v : Value) (σ : Hp) (hv : RoRows 19 Op.cells σ v script) (hk : ∀ o ∈ script, o.key.size ≤ 140737488351232) (hn : (script.length + 1) * 40 ≤ 140737488355328) :
    ACalls Try.prog 5 #[.int .i64 id, .int .i64 nodes, .int .i64 floor, v] σ fun u σ' => u = .bool true ∧ σ' = σ := by
  obtain ⟨A, c, rfl, hrow⟩ := hv
  have H := Hid.mk hrow
  have HK := Hid.mk hk
  clear hrow hk
  (refine acalls_F ok5 (by simp) ?_; unfold c5 r5; simp (config := { contextual := true, dsimp := false }) only [TxS.cells, TxS.view, Msg.cells, Op.cells, ↓reduceIte, ↓evP, evQ, if_true, if_false, eq_self, binv, eqv, lenv, fillO, splice, fldv, Sp.eqa, eqL, eq1, Nat.reduceAdd, Nat.reduceEqDiff, Nat.reduceLeDiff, Nat.reduceMul, reduceCtorEq, Int.reduceLT, Int.reduceLE, Int.reduceGT, Int.reduceGE, Int.reduceEq, Int.reduceNeg])
  (repeat' (first | (refine condF_split (fun hc => ?_) (fun hc => ?_) <;> (try simp only [Bool.not_eq_true', Bool.not_eq_false', Bool.and_eq_true, Bool.or_eq_false_iff] at hc) <;> (try (simp (config := { contextual := true, dsimp := false }) only [*, TxS.cells, TxS.view, Msg.cells, Op.cells, ↓reduceIte, ↓evP, evQ, if_true, if_false, eq_self, binv, eqv, lenv, fillO, splice, fldv, Sp.eqa, eqL, eq1, Nat.reduceAdd, Nat.reduceEqDiff, Nat.reduceLeDiff, Nat.reduceMul, reduceCtorEq, Int.reduceLT, Int.reduceLE, Int.reduceGT, Int.reduceGE, Int.reduceEq, Int.reduceNeg]))) | (refine callF_v (fixed9 _) ?_; (try (simp (config := { contextual := true, dsimp := false }) only [*, TxS.cells, TxS.view, Msg.cells, Op.cells, ↓reduceIte, ↓evP, evQ, if_true, if_false, eq_self, binv, eqv, lenv, fillO, splice, fldv, Sp.eqa, eqL, eq1, Nat.reduceAdd, Nat.reduceEqDiff, Nat.reduceLeDiff, Nat.reduceMul, reduceCtorEq, Int.reduceLT, Int.reduceLE, Int.reduceGT, Int.reduceGE, Int.reduceEq, Int.reduceNeg]))) | (refine ccallF_of (fixed9 _) ?_; (try (simp (config := { contextual := true, dsimp := false }) only [*, TxS.cells, TxS.view, Msg.cells, Op.cells, ↓reduceIte, ↓evP, evQ, if_true, if_false, eq_self, binv, eqv, lenv, fillO, splice, fldv, Sp.eqa, eqL, eq1, Nat.reduceAdd, Nat.reduceEqDiff, Nat.reduceLeDiff, Nat.reduceMul, reduceCtorEq, Int.reduceLT, Int.reduceLE, Int.reduceGT, Int.reduceGE, Int.reduceEq, Int.reduceNeg]))) | (refine gcallF_of (fixed9 _) ?_; (try (simp (config := { contextual := true, dsimp := false }) only [*, TxS.cells, TxS.view, Msg.cells, Op.cells, ↓reduceIte, ↓evP, evQ, if_true, if_false, eq_self, binv, eqv, lenv, fillO, splice, fldv, Sp.eqa, eqL, eq1, Nat.reduceAdd, Nat.reduceEqDiff, Nat.reduceLeDiff, Nat.reduceMul, reduceCtorEq, Int.reduceLT, Int.reduceLE, Int.reduceGT, Int.reduceGE, Int.reduceEq, Int.reduceNeg]))) | (intro _; intros) | ((refine And.intro ?_ ?_; focus (first | omega | (first | exact Sub.refl _ | ((repeat (first | exact Sub.refl _ | (refine Sub.drop ?_ ?_; focus (simp only [none_upd, none_set, not_false_eq_true, true_and, and_true, *]; done)) | refine Sub.both ?_)); done)) | ((simp only [decide_eq_true_eq, decide_eq_false_iff_not] at *); omega) | (simp_all; done) | (simp_all; omega))); (try (simp (config := { contextual := true, dsimp := false }) only [*, TxS.cells, TxS.view, Msg.cells, Op.cells, ↓reduceIte, ↓evP, evQ, if_true, if_false, eq_self, binv, eqv, lenv, fillO, splice, fldv, Sp.eqa, eqL, eq1, Nat.reduceAdd, Nat.reduceEqDiff, Nat.reduceLeDiff, Nat.reduceMul, reduceCtorEq, Int.reduceLT, Int.reduceLE, Int.reduceGT, Int.reduceGE, Int.reduceEq, Int.reduceNeg])))))
  refine callF_of (new10 _ _ _ _) ?_
  rintro u σ1 ⟨g, hg, rfl, rfl⟩
  simp (config := { contextual := true, dsimp := false }) only [*, TxS.cells, TxS.view, Msg.cells, Op.cells, ↓reduceIte, ↓evP, evQ, if_true, if_false, eq_self, binv, eqv, lenv, fillO, splice, fldv, Sp.eqa, eqL, eq1, Nat.reduceAdd, Nat.reduceEqDiff, Nat.reduceLeDiff, Nat.reduceMul, reduceCtorEq, Int.reduceLT, Int.reduceLE, Int.reduceGT, Int.reduceGE, Int.reduceEq, Int.reduceNeg]
  refine callF_of (new16 _ _ _ _) ?_
  rintro u σ2 ⟨g', hg', rfl, rfl⟩
  simp only [none_upd] at hg'
  simp (config := { contextual := true, dsimp := false }) only [*, TxS.cells, TxS.view, Msg.cells, Op.cells, ↓reduceIte, ↓evP, evQ, if_true, if_false, eq_self, binv, eqv, lenv, fillO, splice, fldv, Sp.eqa, eqL, eq1, Nat.reduceAdd, Nat.reduceEqDiff, Nat.reduceLeDiff, Nat.reduceMul, reduceCtorEq, Int.reduceLT, Int.reduceLE, Int.reduceGT, Int.reduceGE, Int.reduceEq, Int.reduceNeg]
  have T0 : Two (upd (upd σ g (.cells ((newT id nodes floor).cells (.slice none 0 0)) 67)) g' (.cells ((newT id nodes floor).cells (.slice none 0 0)) 56)) g (.slice none 0 0) g' (.slice none 0 0) (newT id nodes floor) :=
    ⟨⟨by simp only [upd_at, *, ↓reduceIte], .inl ⟨rfl, rfl⟩⟩, ⟨upd_same _ _ _, .inl ⟨rfl, rfl⟩⟩, fun k hk => by cases hk⟩
  refine loopF_of (fun k s σ' => ∃ (i : Nat) (T : TxS) (v v' : Value), i ≤ script.length ∧ k = script.length - i ∧ s 11 = .int .i64 i ∧ s 9 = .pointer (some ⟨g, 0, none⟩) ∧ s 10 = .pointer (some ⟨g', 0, none⟩) ∧ s 3 = .slice A script.length c ∧
    Two σ' g v g' v' T ∧ Inv T i ∧ Sub σ σ' ∧ ∀ k, blk v = some k → σ k = none) script.length (Sub.refl _) ⟨0, newT id nodes floor, .slice none 0 0, .slice none 0 0, by omega, rfl, (by first | rfl | (simp only [↓putO_get, ↓putO_no, init_zero, init_succ, Nat.reduceEqDiff, ↓reduceIte, *]; done) | (simp only [↓putO_get, ↓putO_no, init_zero, init_succ, Nat.reduceEqDiff, ↓reduceIte, *]; rfl)), (by first | rfl | (simp only [↓putO_get, ↓putO_no, init_zero, init_succ, Nat.reduceEqDiff, ↓reduceIte, *]; done) | (simp only [↓putO_get, ↓putO_no, init_zero, init_succ, Nat.reduceEqDiff, ↓reduceIte, *]; rfl)), (by first | rfl | (simp only [↓putO_get, ↓putO_no, init_zero, init_succ, Nat.reduceEqDiff, ↓reduceIte, *]; done) | (simp only [↓putO_get, ↓putO_no, init_zero, init_succ, Nat.reduceEqDiff, ↓reduceIte, *]; rfl)), (by first | rfl | (simp only [↓putO_get, ↓putO_no, init_zero, init_succ, Nat.reduceEqDiff, ↓reduceIte, *]; done) | (simp only [↓putO_get, ↓putO_no, init_zero, init_succ, Nat.reduceEqDiff, ↓reduceIte, *]; rfl)), T0, newT_inv _ _ _, (by (first | exact Sub.refl _ | ((repeat (first | exact Sub.refl _ | (refine Sub.drop ?_ ?_; focus (simp only [none_upd, none_set, not_false_eq_true, true_and, and_true, *]; done)) | refine Sub.both ?_)); done))), fun k hk => by cases hk⟩ ?_
  rintro k s σ' ⟨i, T, w, w', hi, hk, h11, h9, h10, h3, hT, hI, hs, hw⟩
  rcases Nat.lt_or_ge i script.length with hlt | hge
  · obtain ⟨o, ho⟩ : ∃ o, script[i]? = some o := ⟨_, List.getElem?_eq_getElem hlt⟩
    obtain ⟨b, off, rfl, hrd⟩ := H.out i o ho
    have hrd := rdn_sub hs hrd
    have hok := HK.out o (List.mem_of_getElem? ho)
    have hd : decide ((i : Int) < (script.length : Int)) = true := by simp; omega
    have HT := Hid.mk hT
    have HS := Hid.mk hs
    have HW := Hid.mk hw
    have H' := Hid.mk H
    clear hT hs hw ho H T0
    simp (config := { contextual := true, dsimp := false }) only [*, TxS.cells, TxS.view, Msg.cells, Op.cells, ↓reduceIte, ↓evP, evQ, if_true, if_false, eq_self, binv, eqv, lenv, fillO, splice, fldv, Sp.eqa, eqL, eq1, Nat.reduceAdd, Nat.reduceEqDiff, Nat.reduceLeDiff, Nat.reduceMul, reduceCtorEq, Int.reduceLT, Int.reduceLE, Int.reduceGT, Int.reduceGE, Int.reduceEq, Int.reduceNeg]
    (repeat' (first | (refine condF_split (fun hc => ?_) (fun hc => ?_) <;> (try simp only [Bool.not_eq_true', Bool.not_eq_false', Bool.and_eq_true, Bool.or_eq_false_iff] at hc) <;> (try (simp (config := { contextual := true, dsimp := false }) only [*, TxS.cells, TxS.view, Msg.cells, Op.cells, ↓reduceIte, ↓evP, evQ, if_true, if_false, eq_self, binv, eqv, lenv, fillO, splice, fldv, Sp.eqa, eqL, eq1, Nat.reduceAdd, Nat.reduceEqDiff, Nat.reduceLeDiff, Nat.reduceMul, reduceCtorEq, Int.reduceLT, Int.reduceLE, Int.reduceGT, Int.reduceGE, Int.reduceEq, Int.reduceNeg]))) | (intro _; intros) | ((refine And.intro ?_ ?_; focus (first | omega | (first | exact Sub.refl _ | ((repeat (first | exact Sub.refl _ | (refine Sub.drop ?_ ?_; focus (simp only [none_upd, none_set, not_false_eq_true, true_and, and_true, *]; done)) | refine Sub.both ?_)); done)) | ((simp only [decide_eq_true_eq, decide_eq_false_iff_not] at *); omega) | (simp_all; done) | (simp_all; omega))); (try (simp (config := { contextual := true, dsimp := false }) only [*, TxS.cells, TxS.view, Msg.cells, Op.cells, ↓reduceIte, ↓evP, evQ, if_true, if_false, eq_self, binv, eqv, lenv, fillO, splice, fldv, Sp.eqa, eqL, eq1, Nat.reduceAdd, Nat.reduceEqDiff, Nat.reduceLeDiff, Nat.reduceMul, reduceCtorEq, Int.reduceLT, Int.reduceLE, Int.reduceGT, Int.reduceGE, Int.reduceEq, Int.reduceNeg])))))
    refine callF_of (step17 HT.out hI (by omega) o hok) ?_
    rintro u σ'' ⟨rfl, v1, v1', hT1, hS1⟩
    have hI1 := hI.step o hok
    have hg1 := hT1.2.1.1
    unfold TxS.cells at hg1
    obtain ⟨τ, rfl⟩ := open_upd hg1
    clear hg1
    have HT1 := Hid.mk hT1
    have HS1 := Hid.mk hS1
    clear hT1 hS1 hrd
    obtain ⟨a', c', rfl⟩ := HT1.out.2.1.2.slice
    simp (config := { contextual := true, dsimp := false }) only [*, TxS.cells, TxS.view, Msg.cells, Op.cells, ↓reduceIte, ↓evP, evQ, if_true, if_false, eq_self, binv, eqv, lenv, fillO, splice, fldv, Sp.eqa, eqL, eq1, Nat.reduceAdd, Nat.reduceEqDiff, Nat.reduceLeDiff, Nat.reduceMul, reduceCtorEq, Int.reduceLT, Int.reduceLE, Int.reduceGT, Int.reduceGE, Int.reduceEq, Int.reduceNeg]
    refine gcallF_first (view15 HT1.out.1 (by have := hI1.reads; omega)) (fun u σ₁ h => ?_) ?_
    · obtain ⟨v', _, _, hM⟩ := h; exact hM.sub
    rintro u σ3 ⟨v3, rfl, hR, hM⟩
    simp (config := { contextual := true, dsimp := false }) only [*, TxS.cells, TxS.view, Msg.cells, Op.cells, ↓reduceIte, ↓evP, evQ, if_true, if_false, eq_self, binv, eqv, lenv, fillO, splice, fldv, Sp.eqa, eqL, eq1, Nat.reduceAdd, Nat.reduceEqDiff, Nat.reduceLeDiff, Nat.reduceMul, reduceCtorEq, Int.reduceLT, Int.reduceLE, Int.reduceGT, Int.reduceGE, Int.reduceEq, Int.reduceNeg]
    (repeat' (first | (refine condF_split (fun hc => ?_) (fun hc => ?_) <;> (try simp only [Bool.not_eq_true', Bool.not_eq_false', Bool.and_eq_true, Bool.or_eq_false_iff] at hc) <;> (try (simp (config := { contextual := true, dsimp := false }) only [*, TxS.cells, TxS.view, Msg.cells, Op.cells, ↓reduceIte, ↓evP, evQ, if_true, if_false, eq_self, binv, eqv, lenv, fillO, splice, fldv, Sp.eqa, eqL, eq1, Nat.reduceAdd, Nat.reduceEqDiff, Nat.reduceLeDiff, Nat.reduceMul, reduceCtorEq, Int.reduceLT, Int.reduceLE, Int.reduceGT, Int.reduceGE, Int.reduceEq, Int.reduceNeg]))) | (intro _; intros) | ((refine And.intro ?_ ?_; focus (first | omega | (first | exact Sub.refl _ | ((repeat (first | exact Sub.refl _ | (refine Sub.drop ?_ ?_; focus (simp only [none_upd, none_set, not_false_eq_true, true_and, and_true, *]; done)) | refine Sub.both ?_)); done)) | ((simp only [decide_eq_true_eq, decide_eq_false_iff_not] at *); omega) | (simp_all; done) | (simp_all; omega))); (try (simp (config := { contextual := true, dsimp := false }) only [*, TxS.cells, TxS.view, Msg.cells, Op.cells, ↓reduceIte, ↓evP, evQ, if_true, if_false, eq_self, binv, eqv, lenv, fillO, splice, fldv, Sp.eqa, eqL, eq1, Nat.reduceAdd, Nat.reduceEqDiff, Nat.reduceLeDiff, Nat.reduceMul, reduceCtorEq, Int.reduceLT, Int.reduceLE, Int.reduceGT, Int.reduceGE, Int.reduceEq, Int.reduceNeg])))))
    refine callF_v (same18 hR (HT1.out.2.1.2.sameF hM.1 (fun _ _ h => h)) (by have := hI1.reads; omega)) ?_
    simp (config := { contextual := true, dsimp := false }) only [*, TxS.cells, TxS.view, Msg.cells, Op.cells, ↓reduceIte, ↓evP, evQ, if_true, if_false, eq_self, binv, eqv, lenv, fillO, splice, fldv, Sp.eqa, eqL, eq1, Nat.reduceAdd, Nat.reduceEqDiff, Nat.reduceLeDiff, Nat.reduceMul, reduceCtorEq, Int.reduceLT, Int.reduceLE, Int.reduceGT, Int.reduceGE, Int.reduceEq, Int.reduceNeg]
    refine nextF_of (script.length - (i + 1)) (by omega) hM.sub ⟨i + 1, T.step o, v1, _, by omega, rfl, ?_, (by first | rfl | (simp only [↓putO_get, ↓putO_no, init_zero, init_succ, Nat.reduceEqDiff, ↓reduceIte, *]; done) | (simp only [↓putO_get, ↓putO_no, init_zero, init_succ, Nat.reduceEqDiff, ↓reduceIte, *]; rfl)), (by first | rfl | (simp only [↓putO_get, ↓putO_no, init_zero, init_succ, Nat.reduceEqDiff, ↓reduceIte, *]; done) | (simp only [↓putO_get, ↓putO_no, init_zero, init_succ, Nat.reduceEqDiff, ↓reduceIte, *]; rfl)), (by first | rfl | (simp only [↓putO_get, ↓putO_no, init_zero, init_succ, Nat.reduceEqDiff, ↓reduceIte, *]; done) | (simp only [↓putO_get, ↓putO_no, init_zero, init_succ, Nat.reduceEqDiff, ↓reduceIte, *]; rfl)), HT1.out, hI1, HS1.out.sub HS.out hg hg'.2 HW.out, HS1.out.new HS.out HW.out⟩
    show Value.int .i64 (IntKind.i64.wrap _) = _; rw [wi64 (by omega)]; rfl
  · have hd : decide ((i : Int) < (script.length : Int)) = false := by simp; omega
    simp (config := { contextual := true, dsimp := false }) only [*, TxS.cells, TxS.view, Msg.cells, Op.cells, ↓reduceIte, ↓evP, evQ, if_true, if_false, eq_self, binv, eqv, lenv, fillO, splice, fldv, Sp.eqa, eqL, eq1, Nat.reduceAdd, Nat.reduceEqDiff, Nat.reduceLeDiff, Nat.reduceMul, reduceCtorEq, Int.reduceLT, Int.reduceLE, Int.reduceGT, Int.reduceGE, Int.reduceEq, Int.reduceNeg]
    exact endF_det rfl hs
end Go.Proofs.Ytmjpcpipacciiaa
