/- Whatever calls are made. -/
import Derived.Test.YtaoafjlocjjbbaaDoorC33
namespace Go.Proofs.YtaoafjlocjjbbaaDoor
open Go.Sp
set_option linter.unusedSimpArgs false
set_option linter.unusedVariables false
/-- An operation that can be handed in: its writes lie there, its token is no longer than may be. -/
structure OpOk (σ : Hp) (o : OpS) : Prop where
  kind : 0 ≤ o.kind ∧ o.kind ≤ 255
  token : o.token.size ≤ 281474976710656
  n : -9223372036854775808 ≤ o.n ∧ o.n ≤ 9223372036854775807
  msg : one o.msg.writes = true ∧ one o.msg.keys = true
  writes : ∃ os, RoRows 3 Wr.cells σ o.writes os ∧ os.length * 40 ≤ 140737488355328
theorem OpOk.sub {σ σ' : Hp} {o : OpS} (h : OpOk σ o) (s : Sub σ σ') : OpOk σ' o :=
  ⟨h.kind, h.token, h.n, h.msg, h.writes.imp fun _ k => ⟨k.1.sub s, k.2⟩⟩
theorem raise_seq (S : SesS) (n : Int) : (S.raise n).seq = S.seq := by
  unfold SesS.raise; cases decide (n ≤ 1099511627776) <;> rfl
theorem joined_seq (S : SesS) (s : ByteArray) : (S.joined s).seq = S.seq := by
  unfold SesS.joined; cases decide (parE s = 0)
  · rfl
  · exact raise_seq _ _
theorem acked_seq (S : SesS) (m : Msg) : (S.acked m).seq = S.seq := by
  unfold SesS.acked; cases decide (m.err = 0)
  · rfl
  · exact raise_seq _ _
theorem step27 {τ : Hp} {g h : Nat} {S : SesS} {v w : Value} {ws ws' : List Wr} (hG : Glob τ) (B : Both τ g h S v w ws ws') {o : OpS} (ho : OpOk τ o) (hs : 0 ≤ S.seq ∧ S.seq < 2147483647) :
    ∃ S' : SesS, (0 ≤ S'.seq ∧ S'.seq ≤ S.seq + 1) ∧ ACalls Tryd.prog 27 #[.pointer (some ⟨g, 0, none⟩), .pointer (some ⟨h, 0, none⟩), .agg o.cells.toArray] (both τ g h S v w) (After τ g h S' v w) := by
  obtain ⟨os, hro, hn⟩ := ho.writes
  have hk := ho.kind
  have e : o.kind.tmod 5 = o.kind % 5 := Int.tmod_eq_emod_of_nonneg hk.1
  have h5 : o.kind.tmod 5 = 0 ∨ o.kind.tmod 5 = 1 ∨ o.kind.tmod 5 = 2 ∨ o.kind.tmod 5 = 3 ∨ o.kind.tmod 5 = 4 := by omega
  rcases h5 with h0 | h0 | h0 | h0 | h0
  · cases hb : S.busy with
    | true => exact ⟨S, by omega, step0a B h0 hb⟩
    | false =>
      by_cases he : checkV os = 0
      · refine ⟨S.sent, ?_, step0c B h0 hro hb he (decide_eq_false (by omega))⟩
        show 0 ≤ IntKind.i64.wrap (S.seq + 1) ∧ IntKind.i64.wrap (S.seq + 1) ≤ _
        rw [wi64 (by omega)]; omega
      · exact ⟨S, by omega, step0b B h0 hro hn hb (decide_eq_false he)⟩
  · cases hb : S.busy with
    | false => exact ⟨S, by omega, step1a B h0 hb⟩
    | true =>
      cases ht : decide (S.tries ≥ o.n) with
      | true => exact ⟨S.ended 41, ⟨hs.1, by show S.seq ≤ _; omega⟩, step1b B h0 hb ht⟩
      | false => exact ⟨S.tried, ⟨hs.1, by show S.seq ≤ _; omega⟩, step1c B h0 hb ht⟩
  · cases hm : S.hears o.msg with
    | true => exact ⟨S.acked o.msg, by rw [acked_seq]; omega, step2 B h0 hm⟩
    | false => exact ⟨S, by omega, step2n B h0 hm⟩
  · exact ⟨S.raise o.n, by rw [raise_seq]; omega, step3 B h0⟩
  · exact ⟨S.joined o.token, by rw [joined_seq]; omega, step4 hG B h0 ho.token⟩
def new0 (id : Int) : SesS := ⟨id, 0, false, 0, 0, 0, 0⟩
theorem plays7 {σ : Hp} (hG : Glob σ) (id : Int) {v : Value} {ops : List OpS} (hv : RoRows 20 OpS.cells σ v ops) (ho : ∀ o ∈ ops, OpOk σ o) (hn : ops.length ≤ 1048576) : ACalls Tryd.prog 7 #[.int .i64 id, v] σ fun u σ' => u = .bool true ∧ σ' = σ := by
  have HG := Hid.mk hG
  have HV := Hid.mk hv
  have HO := Hid.mk ho
  clear hG ho
  obtain ⟨A, c, rfl, _⟩ := hv
  (refine acalls_F ok7 (by simp) ?_; unfold c7 r7; simp (config := { contextual := true, dsimp := false }) only [SesS.cells, Bool.not_false, Bool.not_true, OpS.cells, Msg.cells, ↓reduceIte, ↓evP, evQ, if_true, if_false, eq_self, binv, eqv, lenv, fillO, splice, fldv, Sp.eqa, eqL, eq1, Nat.reduceAdd, Nat.reduceEqDiff, Nat.reduceLeDiff, Nat.reduceMul, reduceCtorEq, Int.reduceLT, Int.reduceLE, Int.reduceGT, Int.reduceGE, Int.reduceEq, Int.reduceNeg])
  (repeat' (first | (refine condF_split (fun hc => ?_) (fun hc => ?_) <;> (try simp only [Bool.not_eq_true', Bool.not_eq_false', Bool.and_eq_true, Bool.or_eq_false_iff] at hc) <;> (try (simp (config := { contextual := true, dsimp := false }) only [*, SesS.cells, Bool.not_false, Bool.not_true, OpS.cells, Msg.cells, ↓reduceIte, ↓evP, evQ, if_true, if_false, eq_self, binv, eqv, lenv, fillO, splice, fldv, Sp.eqa, eqL, eq1, Nat.reduceAdd, Nat.reduceEqDiff, Nat.reduceLeDiff, Nat.reduceMul, reduceCtorEq, Int.reduceLT, Int.reduceLE, Int.reduceGT, Int.reduceGE, Int.reduceEq, Int.reduceNeg]))) | (refine callF_v (fixed13 _) ?_; (try (simp (config := { contextual := true, dsimp := false }) only [*, SesS.cells, Bool.not_false, Bool.not_true, OpS.cells, Msg.cells, ↓reduceIte, ↓evP, evQ, if_true, if_false, eq_self, binv, eqv, lenv, fillO, splice, fldv, Sp.eqa, eqL, eq1, Nat.reduceAdd, Nat.reduceEqDiff, Nat.reduceLeDiff, Nat.reduceMul, reduceCtorEq, Int.reduceLT, Int.reduceLE, Int.reduceGT, Int.reduceGE, Int.reduceEq, Int.reduceNeg]))) | (refine ccallF_of (fixed13 _) ?_; (try (simp (config := { contextual := true, dsimp := false }) only [*, SesS.cells, Bool.not_false, Bool.not_true, OpS.cells, Msg.cells, ↓reduceIte, ↓evP, evQ, if_true, if_false, eq_self, binv, eqv, lenv, fillO, splice, fldv, Sp.eqa, eqL, eq1, Nat.reduceAdd, Nat.reduceEqDiff, Nat.reduceLeDiff, Nat.reduceMul, reduceCtorEq, Int.reduceLT, Int.reduceLE, Int.reduceGT, Int.reduceGE, Int.reduceEq, Int.reduceNeg]))) | (refine gcallF_of (fixed13 _) ?_; (try (simp (config := { contextual := true, dsimp := false }) only [*, SesS.cells, Bool.not_false, Bool.not_true, OpS.cells, Msg.cells, ↓reduceIte, ↓evP, evQ, if_true, if_false, eq_self, binv, eqv, lenv, fillO, splice, fldv, Sp.eqa, eqL, eq1, Nat.reduceAdd, Nat.reduceEqDiff, Nat.reduceLeDiff, Nat.reduceMul, reduceCtorEq, Int.reduceLT, Int.reduceLE, Int.reduceGT, Int.reduceGE, Int.reduceEq, Int.reduceNeg]))) | (intro _; intros) | ((refine And.intro ?_ ?_; focus (first | omega | (first | exact Sub.refl _ | ((repeat (first | exact Sub.refl _ | (refine Sub.drop ?_ ?_; focus (simp only [none_upd, none_set, not_false_eq_true, true_and, and_true, *]; done)) | refine Sub.both ?_)); done)) | ((simp only [decide_eq_true_eq, decide_eq_false_iff_not] at *); omega) | (simp_all; done) | (simp_all; omega))); (try (simp (config := { contextual := true, dsimp := false }) only [*, SesS.cells, Bool.not_false, Bool.not_true, OpS.cells, Msg.cells, ↓reduceIte, ↓evP, evQ, if_true, if_false, eq_self, binv, eqv, lenv, fillO, splice, fldv, Sp.eqa, eqL, eq1, Nat.reduceAdd, Nat.reduceEqDiff, Nat.reduceLeDiff, Nat.reduceMul, reduceCtorEq, Int.reduceLT, Int.reduceLE, Int.reduceGT, Int.reduceGE, Int.reduceEq, Int.reduceNeg])))))
  refine callF_of (new14 id σ) ?_
  rintro u _ ⟨g, hg, rfl, rfl⟩
  simp (config := { contextual := true, dsimp := false }) only [*, SesS.cells, Bool.not_false, Bool.not_true, OpS.cells, Msg.cells, ↓reduceIte, ↓evP, evQ, if_true, if_false, eq_self, binv, eqv, lenv, fillO, splice, fldv, Sp.eqa, eqL, eq1, Nat.reduceAdd, Nat.reduceEqDiff, Nat.reduceLeDiff, Nat.reduceMul, reduceCtorEq, Int.reduceLT, Int.reduceLE, Int.reduceGT, Int.reduceGE, Int.reduceEq, Int.reduceNeg]
  (repeat' (first | (refine condF_split (fun hc => ?_) (fun hc => ?_) <;> (try simp only [Bool.not_eq_true', Bool.not_eq_false', Bool.and_eq_true, Bool.or_eq_false_iff] at hc) <;> (try (simp (config := { contextual := true, dsimp := false }) only [*, SesS.cells, Bool.not_false, Bool.not_true, OpS.cells, Msg.cells, ↓reduceIte, ↓evP, evQ, if_true, if_false, eq_self, binv, eqv, lenv, fillO, splice, fldv, Sp.eqa, eqL, eq1, Nat.reduceAdd, Nat.reduceEqDiff, Nat.reduceLeDiff, Nat.reduceMul, reduceCtorEq, Int.reduceLT, Int.reduceLE, Int.reduceGT, Int.reduceGE, Int.reduceEq, Int.reduceNeg]))) | (intro _; intros) | ((refine And.intro ?_ ?_; focus (first | omega | (first | exact Sub.refl _ | ((repeat (first | exact Sub.refl _ | (refine Sub.drop ?_ ?_; focus (simp only [none_upd, none_set, not_false_eq_true, true_and, and_true, *]; done)) | refine Sub.both ?_)); done)) | ((simp only [decide_eq_true_eq, decide_eq_false_iff_not] at *); omega) | (simp_all; done) | (simp_all; omega))); (try (simp (config := { contextual := true, dsimp := false }) only [*, SesS.cells, Bool.not_false, Bool.not_true, OpS.cells, Msg.cells, ↓reduceIte, ↓evP, evQ, if_true, if_false, eq_self, binv, eqv, lenv, fillO, splice, fldv, Sp.eqa, eqL, eq1, Nat.reduceAdd, Nat.reduceEqDiff, Nat.reduceLeDiff, Nat.reduceMul, reduceCtorEq, Int.reduceLT, Int.reduceLE, Int.reduceGT, Int.reduceGE, Int.reduceEq, Int.reduceNeg])))))
  rename_i h h1 h1' h0
  rw [upd_comm _ _ _ h1']
  have hsub : Sub σ σ := Sub.refl σ
  refine loopF_of (fun k s σ' => ∃ (i : Nat) (τ : Hp) (S : SesS) (v w : Value) (ws ws' : List Wr), i ≤ ops.length ∧ k = ops.length - i ∧ s 1 = .slice A ops.length c ∧ s 5 = .pointer (some ⟨g, 0, none⟩) ∧ s 6 = .pointer (some ⟨h, 0, none⟩) ∧ s 7 = .int .i64 i ∧ σ' = both τ g h S v w ∧ Both τ g h S v w ws ws' ∧ Sub σ τ ∧ 0 ≤ S.seq ∧ S.seq ≤ i) ops.length (Sub.refl _)
    ⟨0, σ, new0 id, .slice none 0 0, .slice none 0 0, [], [], by omega, rfl, (by first | rfl | (simp only [↓putO_get, ↓putO_no, init_zero, init_succ, Nat.reduceEqDiff, ↓reduceIte, *]; done) | (simp only [↓putO_get, ↓putO_no, init_zero, init_succ, Nat.reduceEqDiff, ↓reduceIte, *]; rfl)), (by first | rfl | (simp only [↓putO_get, ↓putO_no, init_zero, init_succ, Nat.reduceEqDiff, ↓reduceIte, *]; done) | (simp only [↓putO_get, ↓putO_no, init_zero, init_succ, Nat.reduceEqDiff, ↓reduceIte, *]; rfl)), (by first | rfl | (simp only [↓putO_get, ↓putO_no, init_zero, init_succ, Nat.reduceEqDiff, ↓reduceIte, *]; done) | (simp only [↓putO_get, ↓putO_no, init_zero, init_succ, Nat.reduceEqDiff, ↓reduceIte, *]; rfl)), (by first | rfl | (simp only [↓putO_get, ↓putO_no, init_zero, init_succ, Nat.reduceEqDiff, ↓reduceIte, *]; done) | (simp only [↓putO_get, ↓putO_no, init_zero, init_succ, Nat.reduceEqDiff, ↓reduceIte, *]; rfl)), rfl, ⟨h1', h1, hg, h0, .inl ⟨rfl, rfl⟩, .inl ⟨rfl, rfl⟩, fun _ => rfl, by decide, by decide⟩, Sub.refl _, Int.le_refl 0, Int.le_refl 0⟩ ?_
  rintro k s σ' ⟨i, τ, S, v, w, ws, ws', hi, rfl, s1, s5, s6, s7, rfl, B, hsub, hq0, hq1⟩
  have HB := Hid.mk (And.intro B (And.intro hsub (And.intro hq0 hq1)))
  rcases Nat.lt_or_ge i ops.length with hlt | hge
  · have hd : decide ((i : Int) < (ops.length : Int)) = true := by simp; omega
    obtain ⟨S', hS', hcall⟩ := step27 (HG.out.sub hsub) B ((HO.out _ (List.getElem_mem hlt)).sub hsub) ⟨hq0, by omega⟩
    have hboth : Sub σ (both τ g h S v w) := by
      unfold both
      exact Sub.drop hg (Sub.drop h0 hsub)
    obtain ⟨b1, o1, rfl, r1⟩ := (HV.out.sub hboth).get hlt
    have HC := Hid.mk hcall
    have hlt3 : i + 1 ≤ ops.length := hlt
    generalize ops[i] = o at *
    clear hlt hcall B hsub hboth
    generalize hσ' : both τ g h S v w = σ' at *
    simp (config := { contextual := true, dsimp := false }) only [*, SesS.cells, Bool.not_false, Bool.not_true, OpS.cells, Msg.cells, ↓reduceIte, ↓evP, evQ, if_true, if_false, eq_self, binv, eqv, lenv, fillO, splice, fldv, Sp.eqa, eqL, eq1, Nat.reduceAdd, Nat.reduceEqDiff, Nat.reduceLeDiff, Nat.reduceMul, reduceCtorEq, Int.reduceLT, Int.reduceLE, Int.reduceGT, Int.reduceGE, Int.reduceEq, Int.reduceNeg]
    (repeat' (first | (refine condF_split (fun hc => ?_) (fun hc => ?_) <;> (try simp only [Bool.not_eq_true', Bool.not_eq_false', Bool.and_eq_true, Bool.or_eq_false_iff] at hc) <;> (try (simp (config := { contextual := true, dsimp := false }) only [*, SesS.cells, Bool.not_false, Bool.not_true, OpS.cells, Msg.cells, ↓reduceIte, ↓evP, evQ, if_true, if_false, eq_self, binv, eqv, lenv, fillO, splice, fldv, Sp.eqa, eqL, eq1, Nat.reduceAdd, Nat.reduceEqDiff, Nat.reduceLeDiff, Nat.reduceMul, reduceCtorEq, Int.reduceLT, Int.reduceLE, Int.reduceGT, Int.reduceGE, Int.reduceEq, Int.reduceNeg]))) | (intro _; intros) | ((refine And.intro ?_ ?_; focus (first | omega | (first | exact Sub.refl _ | ((repeat (first | exact Sub.refl _ | (refine Sub.drop ?_ ?_; focus (simp only [none_upd, none_set, not_false_eq_true, true_and, and_true, *]; done)) | refine Sub.both ?_)); done)) | ((simp only [decide_eq_true_eq, decide_eq_false_iff_not] at *); omega) | (simp_all; done) | (simp_all; omega))); (try (simp (config := { contextual := true, dsimp := false }) only [*, SesS.cells, Bool.not_false, Bool.not_true, OpS.cells, Msg.cells, ↓reduceIte, ↓evP, evQ, if_true, if_false, eq_self, binv, eqv, lenv, fillO, splice, fldv, Sp.eqa, eqL, eq1, Nat.reduceAdd, Nat.reduceEqDiff, Nat.reduceLeDiff, Nat.reduceMul, reduceCtorEq, Int.reduceLT, Int.reduceLE, Int.reduceGT, Int.reduceGE, Int.reduceEq, Int.reduceNeg])))))
    refine callF_of HC.out ?_
    rintro u σ'' ⟨rfl, τ', v', w', ws1, ws2, rfl, B', hS2, _, _⟩
    have HB2 := Hid.mk (And.intro B' hS2)
    clear B' hS2
    simp (config := { contextual := true, dsimp := false }) only [*, SesS.cells, Bool.not_false, Bool.not_true, OpS.cells, Msg.cells, ↓reduceIte, ↓evP, evQ, if_true, if_false, eq_self, binv, eqv, lenv, fillO, splice, fldv, Sp.eqa, eqL, eq1, Nat.reduceAdd, Nat.reduceEqDiff, Nat.reduceLeDiff, Nat.reduceMul, reduceCtorEq, Int.reduceLT, Int.reduceLE, Int.reduceGT, Int.reduceGE, Int.reduceEq, Int.reduceNeg]
    refine nextF_of (σ₁ := both τ' g h S' v' w') (ops.length - (i + 1)) (by omega) (Sub.refl _) ⟨i + 1, τ', S', v', w', ws1, ws2, by omega, rfl, (by first | rfl | (simp only [↓putO_get, ↓putO_no, init_zero, init_succ, Nat.reduceEqDiff, ↓reduceIte, *]; done) | (simp only [↓putO_get, ↓putO_no, init_zero, init_succ, Nat.reduceEqDiff, ↓reduceIte, *]; rfl)), (by first | rfl | (simp only [↓putO_get, ↓putO_no, init_zero, init_succ, Nat.reduceEqDiff, ↓reduceIte, *]; done) | (simp only [↓putO_get, ↓putO_no, init_zero, init_succ, Nat.reduceEqDiff, ↓reduceIte, *]; rfl)), (by first | rfl | (simp only [↓putO_get, ↓putO_no, init_zero, init_succ, Nat.reduceEqDiff, ↓reduceIte, *]; done) | (simp only [↓putO_get, ↓putO_no, init_zero, init_succ, Nat.reduceEqDiff, ↓reduceIte, *]; rfl)), ?_, rfl, HB2.out.1, HB.out.2.1.trans (Same.sub HB2.out.2), hS'.1, by omega⟩
    show Value.int .i64 (IntKind.i64.wrap _) = _; rw [wi64 (by omega)]; rfl
  · have hd : decide ((i : Int) < (ops.length : Int)) = false := by simp; omega
    clear B
    simp (config := { contextual := true, dsimp := false }) only [*, SesS.cells, Bool.not_false, Bool.not_true, OpS.cells, Msg.cells, ↓reduceIte, ↓evP, evQ, if_true, if_false, eq_self, binv, eqv, lenv, fillO, splice, fldv, Sp.eqa, eqL, eq1, Nat.reduceAdd, Nat.reduceEqDiff, Nat.reduceLeDiff, Nat.reduceMul, reduceCtorEq, Int.reduceLT, Int.reduceLE, Int.reduceGT, Int.reduceGE, Int.reduceEq, Int.reduceNeg]
    refine endF_det rfl ?_
    unfold both
    exact Sub.drop hg (Sub.drop h0 hsub)
end Go.Proofs.YtaoafjlocjjbbaaDoor
