/- What narrows: the walk. -/
import Derived.Test.YtmjpcpipacciiaaB17
import Derived.Test.YtmjpcpipacciiaaSpK
namespace Go.Proofs.Ytmjpcpipacciiaa
open Go.Sp
set_option linter.unusedSimpArgs false
set_option linter.unusedVariables false
theorem TxAt.sub {ty : TypeId} {σ σ' : Hp} {g : Nat} {T : TxS} {v : Value} (h : TxAt ty σ g T v) (hs : Sub σ σ') : TxAt ty σ' g T v :=
  ⟨by rcases hs g with e | e
      · rw [h.1] at e; cases e
      · rw [← e]; exact h.1, h.2.keep fun k hk => by
    rcases hs k with e | e
    · exact absurd e (h.known hk)
    · exact e.symm⟩
/-- The heap between two rounds: the transaction, what was seen last, what was taken. -/
structure HN (σ0 σ : Hp) (g pw : Nat) (T : TxS) (v vw : Value) (Tw : TxS) (vt : Value) (took : List PinS) : Prop where
  tx : TxAt 67 σ g T v
  was : σ pw = some (.cells (Tw.view vw) 45)
  seen : RowsAt 60 3 Got.cells σ vw Tw.reads
  taken : RowsAt 28 2 PinS.cells σ vt took
  sub : Sub σ0 σ
  ov : ∀ k, blk v = some k → σ0 k = none
  ot : ∀ k, blk vt = some k → σ0 k = none
  d1 : ∀ k, blk v = some k → blk vw ≠ some k ∧ blk vt ≠ some k
  d2 : ∀ k, blk vt = some k → blk vw ≠ some k
theorem HN.subK {σ0 σ σ' : Hp} {g pw : Nat} {T Tw : TxS} {v vw vt : Value} {took : List PinS} (h : HN σ0 σ g pw T v vw Tw vt took) (hs : Sub σ σ') : HN σ0 σ' g pw T v vw Tw vt took :=
  ⟨h.tx.sub hs, by
    rcases hs pw with e | e
    · rw [h.was] at e; cases e
    · rw [← e]; exact h.was, h.seen.subK hs, h.taken.subK hs, h.sub.trans hs, h.ov, h.ot, h.d1, h.d2⟩
/-- The transaction has gone on. -/
theorem HN.step {σ0 σ σ' : Hp} {g pw : Nat} {T T' Tw : TxS} {v v' vw vt : Value} {took : List PinS} (h : HN σ0 σ g pw T v vw Tw vt took) (hg : σ0 g = none) (hgp : ¬ pw = g) (hT : TxAt 67 σ' g T' v') (hS : Step σ g v σ' v') : HN σ0 σ' g pw T' v' vw Tw vt took := by
  have kw : ∀ k, blk vw = some k → ¬ (k = g ∨ blk v = some k) := fun k hk e => by
    rcases e with e | e
    · subst e; exact h.seen.notCells h.tx.1 hk
    · exact (h.d1 k e).1 hk
  have kt : ∀ k, blk vt = some k → ¬ (k = g ∨ blk v = some k) := fun k hk e => by
    rcases e with e | e
    · subst e; exact h.taken.notCells h.tx.1 hk
    · exact (h.d1 k e).2 hk
  refine ⟨hT, ?_, h.seen.sameF hS.1 kw, h.taken.sameF hS.1 kt, fun k => ?_, fun k hk => ?_, h.ot, fun k hk => ?_, h.d2⟩
  · rw [hS.1 pw (by rw [h.was]; simp) (fun e => e.elim hgp fun e => h.tx.2.notCells h.was e)]; exact h.was
  · by_cases e : σ0 k = none
    · exact .inl e
    · rcases h.sub k with x | x
      · exact .inl x
      · refine .inr (x.trans (hS.1 k (by rw [← x]; exact e) fun f => ?_).symm)
        rcases f with f | f
        · subst f; exact e hg
        · exact e (h.ov k f)
  · rcases hS.2 k hk with e | e
    · exact h.ov k e
    · rcases h.sub k with x | x
      · exact x
      · rw [x]; exact e
  · rcases hS.2 k hk with e | e
    · exact h.d1 k e
    · exact ⟨fun x => h.seen.known x e, fun x => h.taken.known x e⟩
theorem HN.keep {σ0 σ σ' : Hp} {g pw : Nat} {T T' Tw : TxS} {v vw vt : Value} {took : List PinS} (h : HN σ0 σ g pw T v vw Tw vt took) (hg : σ0 g = none) (hgp : ¬ pw = g) (hs : Same (fun k => k = g) σ σ') (h1 : σ' g = some (.cells (T'.cells v) 67)) (hr : T'.reads = T.reads) : HN σ0 σ' g pw T' v vw Tw vt took :=
  h.step hg hgp (h.tx.same hs h1 hr) ⟨fun k hk hf => hs k hk fun e => hf (.inl e), fun k hk => .inl hk⟩
/-- One span more is taken. -/
theorem HN.take {σ0 σ σ' : Hp} {g pw : Nat} {T Tw : TxS} {v vw vt vt' : Value} {took took' : List PinS} (h : HN σ0 σ g pw T v vw Tw vt took) (hs : Same (fun k => blk vt = some k) σ σ') (ht : RowsAt 28 2 PinS.cells σ' vt' took') (hn : ∀ k, blk vt' = some k → blk vt = some k ∨ σ k = none) : HN σ0 σ' g pw T v vw Tw vt' took' := by
  have ng := h.taken.notCells h.tx.1
  have np := h.taken.notCells h.was
  refine ⟨h.tx.keepF hs ng (fun k hk => (h.d1 k hk).2), ?_, h.seen.sameF hs (fun k hk e => h.d2 k e hk), ht, fun k => ?_, h.ov, fun k hk => ?_, fun k hk => ⟨(h.d1 k hk).1, fun e => ?_⟩, fun k hk e => ?_⟩
  · rw [hs pw (by rw [h.was]; simp) np]; exact h.was
  · by_cases e : σ0 k = none
    · exact .inl e
    · rcases h.sub k with x | x
      · exact .inl x
      · exact .inr (x.trans (hs k (by rw [← x]; exact e) fun f => e (h.ot k f)).symm)
  · rcases hn k hk with e | e
    · exact h.ot k e
    · rcases h.sub k with x | x
      · exact x
      · rw [x]; exact e
  · rcases hn k e with e | e
    · exact (h.d1 k hk).2 e
    · exact h.tx.known hk e
  · rcases hn k hk with x | x
    · exact h.d2 k x e
    · exact h.seen.known e x
/-- What is seen now is what was seen last. -/
theorem HN.see {σ0 σ σ' : Hp} {g pw : Nat} {T Tw : TxS} {v vw vt v4 : Value} {took : List PinS} (h : HN σ0 σ g pw T v vw Tw vt took) (hp : σ0 pw = none) (hgp : ¬ g = pw) (hs : Same (fun k => k = pw) σ σ') (hw : σ' pw = some (.cells (T.view v4) 45)) (hr : RowsAt 60 3 Got.cells σ v4 T.reads)
    (h1 : ∀ k, blk v = some k → blk v4 ≠ some k) (h2 : ∀ k, blk vt = some k → blk v4 ≠ some k) : HN σ0 σ' g pw T v v4 T vt took := by
  have nw : ∀ {α : Type} {E sz : Nat} {f : α → List Value} {u : Value} {l : List α}, RowsAt E sz f σ u l → ∀ k, blk u = some k → ¬ k = pw := fun hr k hk e => by subst e; exact hr.notCells h.was hk
  refine ⟨h.tx.keepF hs hgp (nw h.tx.2), hw, hr.sameF hs (nw hr), h.taken.sameF hs (nw h.taken), fun k => ?_, h.ov, h.ot, fun k hk => ⟨h1 k hk, (h.d1 k hk).2⟩, h2⟩
  by_cases e : σ0 k = none
  · exact .inl e
  · rcases h.sub k with x | x
    · exact .inl x
    · exact .inr (x.trans (hs k (by rw [← x]; exact e) fun f => by subst f; exact e hp).symm)
theorem nar_finish {T : TxS} {fl : Int} {took : List PinS} {n : Nat} (h : Nar T fl took n) (hfl : 0 ≤ fl) (hhi : T.hi ≤ 4611686018427387904) : (T.st = 0 ∧ ∃ cc, T.finish = (T.rests 3 0, cc, 0) ∧ T.lo ≤ cc ∧ cc < T.hi) ∨ ((T.st = 1 ∨ T.st = 2 ∨ T.st = 4) ∧ ∃ e, T.finish = (T, 0, e) ∧ e ≠ 0) := by
  rw [finish_alt]
  have hs := h.inv.st
  have h3 := h.st3
  have h4 := h.er
  have ho := h.ord
  by_cases e1 : T.st = 1
  · exact .inr ⟨.inl e1, 31, by simp [e1], by decide⟩
  · by_cases e2 : T.st = 2
    · exact .inr ⟨.inr (.inl e2), 31, by simp [e2], by decide⟩
    · by_cases e4 : T.st = 4
      · exact .inr ⟨.inr (.inr e4), T.er, by simp [e4], h4 e4⟩
      · have e0 : T.st = 0 := by omega
        have hb : cond (decide (T.hi = 4611686018427387904)) T.lo (IntKind.i64.wrap (T.hi - 1)) = if T.hi = 4611686018427387904 then T.lo else T.hi - 1 := by
          by_cases e : T.hi = 4611686018427387904
          · simp [e]
          · simp only [e, decide_false, cond_false, if_false]
            exact wi64 (by have := h.low; omega)
        refine .inl ⟨e0, _, by simp only [e0]; rfl, ?_⟩
        show T.lo ≤ cond (decide (T.hi = 4611686018427387904)) T.lo (IntKind.i64.wrap (T.hi - 1)) ∧ cond (decide (T.hi = 4611686018427387904)) T.lo (IntKind.i64.wrap (T.hi - 1)) < T.hi
        rw [hb]
        split <;> omega
/-- Between the call and what is seen behind it. -/
def NJ (σ0 : Hp) (g pw : Nat) (fl : Int) (sv : Value) (i : Nat) (T : TxS) (vw : Value) (s : Sl) (σ : Hp) : Prop :=
  ∃ (T' : TxS) (v' vt' : Value) (took' : List PinS), s 8 = .int .i64 i ∧ s 5 = .pointer (some ⟨g, 0, none⟩) ∧ s 6 = .pointer (some ⟨pw, 0, none⟩) ∧ s 0 = .int .u8 fl ∧ s 1 = sv ∧ s 7 = vt' ∧
    HN σ0 σ g pw T' v' vw T vt' took' ∧ Nar T' fl took' (i + 1) ∧ Less T T'
theorem narrows6 (fl : Int) (h0 : 0 ≤ fl) (h1 : fl ≤ 255) (script : List Op) (v : Value) (σ : Hp) (hv : RoRows 19 Op.cells σ v script) (hk : ∀ o ∈ script, o.key.size ≤ 140737488351232 ∧ one o.m.writes = true ∧ one o.m.keys = true) (hn : (script.length + 1) * 40 ≤ 140737488355328) :
    ACalls Try.prog 6 #[.int .u8 fl, v] σ fun u σ' => u = .bool true ∧ σ' = σ := by
  obtain ⟨A, c, rfl, hrow⟩ := hv
  have H := Hid.mk hrow
  have HK := Hid.mk hk
  clear hrow hk
  have w0 : IntKind.i64.wrap fl = fl := wi64 (by omega)
  (refine acalls_F ok6 (by simp) ?_; unfold c6 r6; simp (config := { contextual := true, dsimp := false }) only [TxS.cells, TxS.view, Msg.cells, Op.cells, ↓reduceIte, ↓evP, evQ, if_true, if_false, eq_self, binv, eqv, lenv, fillO, splice, fldv, Sp.eqa, eqL, eq1, Nat.reduceAdd, Nat.reduceEqDiff, Nat.reduceLeDiff, Nat.reduceMul, reduceCtorEq, Int.reduceLT, Int.reduceLE, Int.reduceGT, Int.reduceGE, Int.reduceEq, Int.reduceNeg])
  (repeat' (first | (refine condF_split (fun hc => ?_) (fun hc => ?_) <;> (try simp only [Bool.not_eq_true', Bool.not_eq_false', Bool.and_eq_true, Bool.or_eq_false_iff] at hc) <;> (try (simp (config := { contextual := true, dsimp := false }) only [*, TxS.cells, TxS.view, Msg.cells, Op.cells, ↓reduceIte, ↓evP, evQ, if_true, if_false, eq_self, binv, eqv, lenv, fillO, splice, fldv, Sp.eqa, eqL, eq1, Nat.reduceAdd, Nat.reduceEqDiff, Nat.reduceLeDiff, Nat.reduceMul, reduceCtorEq, Int.reduceLT, Int.reduceLE, Int.reduceGT, Int.reduceGE, Int.reduceEq, Int.reduceNeg]))) | (refine callF_v (fixed9 _) ?_; (try (simp (config := { contextual := true, dsimp := false }) only [*, TxS.cells, TxS.view, Msg.cells, Op.cells, ↓reduceIte, ↓evP, evQ, if_true, if_false, eq_self, binv, eqv, lenv, fillO, splice, fldv, Sp.eqa, eqL, eq1, Nat.reduceAdd, Nat.reduceEqDiff, Nat.reduceLeDiff, Nat.reduceMul, reduceCtorEq, Int.reduceLT, Int.reduceLE, Int.reduceGT, Int.reduceGE, Int.reduceEq, Int.reduceNeg]))) | (refine ccallF_of (fixed9 _) ?_; (try (simp (config := { contextual := true, dsimp := false }) only [*, TxS.cells, TxS.view, Msg.cells, Op.cells, ↓reduceIte, ↓evP, evQ, if_true, if_false, eq_self, binv, eqv, lenv, fillO, splice, fldv, Sp.eqa, eqL, eq1, Nat.reduceAdd, Nat.reduceEqDiff, Nat.reduceLeDiff, Nat.reduceMul, reduceCtorEq, Int.reduceLT, Int.reduceLE, Int.reduceGT, Int.reduceGE, Int.reduceEq, Int.reduceNeg]))) | (refine gcallF_of (fixed9 _) ?_; (try (simp (config := { contextual := true, dsimp := false }) only [*, TxS.cells, TxS.view, Msg.cells, Op.cells, ↓reduceIte, ↓evP, evQ, if_true, if_false, eq_self, binv, eqv, lenv, fillO, splice, fldv, Sp.eqa, eqL, eq1, Nat.reduceAdd, Nat.reduceEqDiff, Nat.reduceLeDiff, Nat.reduceMul, reduceCtorEq, Int.reduceLT, Int.reduceLE, Int.reduceGT, Int.reduceGE, Int.reduceEq, Int.reduceNeg]))) | (intro _; intros) | ((refine And.intro ?_ ?_; focus (first | omega | (first | exact Sub.refl _ | ((repeat (first | exact Sub.refl _ | (refine Sub.drop ?_ ?_; focus (simp only [none_upd, none_set, not_false_eq_true, true_and, and_true, *]; done)) | refine Sub.both ?_)); done)) | ((simp only [decide_eq_true_eq, decide_eq_false_iff_not] at *); omega) | (simp_all; done) | (simp_all; omega))); (try (simp (config := { contextual := true, dsimp := false }) only [*, TxS.cells, TxS.view, Msg.cells, Op.cells, ↓reduceIte, ↓evP, evQ, if_true, if_false, eq_self, binv, eqv, lenv, fillO, splice, fldv, Sp.eqa, eqL, eq1, Nat.reduceAdd, Nat.reduceEqDiff, Nat.reduceLeDiff, Nat.reduceMul, reduceCtorEq, Int.reduceLT, Int.reduceLE, Int.reduceGT, Int.reduceGE, Int.reduceEq, Int.reduceNeg])))))
  refine callF_of (new10 _ _ _ _) ?_
  rintro u σ1 ⟨g, hg, rfl, rfl⟩
  simp (config := { contextual := true, dsimp := false }) only [*, TxS.cells, TxS.view, Msg.cells, Op.cells, ↓reduceIte, ↓evP, evQ, if_true, if_false, eq_self, binv, eqv, lenv, fillO, splice, fldv, Sp.eqa, eqL, eq1, Nat.reduceAdd, Nat.reduceEqDiff, Nat.reduceLeDiff, Nat.reduceMul, reduceCtorEq, Int.reduceLT, Int.reduceLE, Int.reduceGT, Int.reduceGE, Int.reduceEq, Int.reduceNeg]
  refine callF_of (view15 (T := newT 1 1 fl) (v := .slice none 0 0) ⟨upd_same _ _ _, .inl ⟨rfl, rfl⟩⟩ (by show (0 : Nat) * 40 ≤ _; decide)) ?_
  rintro u σ2 ⟨vw, rfl, hR, hM⟩
  obtain ⟨aw, cw, rfl⟩ := hR.slice
  have hsub2 := hM.sub
  have hMn := Hid.mk hM
  have HR := Hid.mk hR
  clear hM hR
  simp (config := { contextual := true, dsimp := false }) only [*, TxS.cells, TxS.view, Msg.cells, Op.cells, ↓reduceIte, ↓evP, evQ, if_true, if_false, eq_self, binv, eqv, lenv, fillO, splice, fldv, Sp.eqa, eqL, eq1, Nat.reduceAdd, Nat.reduceEqDiff, Nat.reduceLeDiff, Nat.reduceMul, reduceCtorEq, Int.reduceLT, Int.reduceLE, Int.reduceGT, Int.reduceGE, Int.reduceEq, Int.reduceNeg]
  intro pw hpw
  have hs0 : Sub σ σ2 := (Sub.drop hg (Sub.refl σ)).trans hsub2
  have hgs : σ2 g = some (.cells ((newT 1 1 fl).cells (.slice none 0 0)) 67) := by
    rcases hsub2 g with e | e
    · rw [upd_same] at e; cases e
    · rw [← e, upd_same]; rfl
  have hgp : ¬ pw = g := fun e => by subst e; rw [hgs] at hpw; cases hpw
  have hpw0 : σ pw = none := by
    rcases hs0 pw with e | e
    · exact e
    · rw [e]; exact hpw
  have N0 : HN σ (upd σ2 pw (.cells ((newT 1 1 fl).view (.slice aw (newT 1 1 fl).reads.length cw)) 45)) g pw (newT 1 1 fl) (.slice none 0 0) (.slice aw (newT 1 1 fl).reads.length cw) (newT 1 1 fl) (.slice none 0 0) [] :=
    ⟨⟨by rw [upd_ne _ _ (fun e => hgp e.symm)]; exact hgs, .inl ⟨rfl, rfl⟩⟩, upd_same _ _ _, HR.out.fresh hpw _, .inl ⟨rfl, rfl⟩, Sub.drop hpw0 hs0, fun k hk => (by cases hk), fun k hk => (by cases hk), fun k hk => (by cases hk), fun k hk => (by cases hk)⟩
  have e1 : (newT 1 1 fl).lo = fl := by
    show mnI (mxI fl 0) 1099511627776 = fl
    unfold mnI mxI; (repeat' split) <;> omega
  have R0 : Nar (newT 1 1 fl) fl [] 0 := ⟨newT_inv 1 1 fl, (by show (0 : Int) ≠ 3; decide), fun e => absurd (show (0 : Int) = 4 from e) (by decide), by rw [e1]; show fl < 4611686018427387904; omega, by rw [e1]; exact Int.le_refl _, Int.le_refl _, rfl, fun p hp => by cases hp⟩
  refine loopF_of (fun k s σ' => ∃ (i : Nat) (T : TxS) (v vw vt : Value) (took : List PinS), i ≤ script.length ∧ k = script.length - i ∧ s 8 = .int .i64 i ∧ s 5 = .pointer (some ⟨g, 0, none⟩) ∧ s 6 = .pointer (some ⟨pw, 0, none⟩) ∧ s 0 = .int .u8 fl ∧ s 1 = .slice A script.length c ∧ s 7 = vt ∧
    HN σ σ' g pw T v vw T vt took ∧ Nar T fl took i) script.length (Sub.refl _) ⟨0, newT 1 1 fl, .slice none 0 0, _, .slice none 0 0, [], by omega, rfl, (by first | rfl | (simp only [↓putO_get, ↓putO_no, init_zero, init_succ, Nat.reduceEqDiff, ↓reduceIte, *]; done) | (simp only [↓putO_get, ↓putO_no, init_zero, init_succ, Nat.reduceEqDiff, ↓reduceIte, *]; rfl)), (by first | rfl | (simp only [↓putO_get, ↓putO_no, init_zero, init_succ, Nat.reduceEqDiff, ↓reduceIte, *]; done) | (simp only [↓putO_get, ↓putO_no, init_zero, init_succ, Nat.reduceEqDiff, ↓reduceIte, *]; rfl)), (by first | rfl | (simp only [↓putO_get, ↓putO_no, init_zero, init_succ, Nat.reduceEqDiff, ↓reduceIte, *]; done) | (simp only [↓putO_get, ↓putO_no, init_zero, init_succ, Nat.reduceEqDiff, ↓reduceIte, *]; rfl)), (by first | rfl | (simp only [↓putO_get, ↓putO_no, init_zero, init_succ, Nat.reduceEqDiff, ↓reduceIte, *]; done) | (simp only [↓putO_get, ↓putO_no, init_zero, init_succ, Nat.reduceEqDiff, ↓reduceIte, *]; rfl)), (by first | rfl | (simp only [↓putO_get, ↓putO_no, init_zero, init_succ, Nat.reduceEqDiff, ↓reduceIte, *]; done) | (simp only [↓putO_get, ↓putO_no, init_zero, init_succ, Nat.reduceEqDiff, ↓reduceIte, *]; rfl)), (by first | rfl | (simp only [↓putO_get, ↓putO_no, init_zero, init_succ, Nat.reduceEqDiff, ↓reduceIte, *]; done) | (simp only [↓putO_get, ↓putO_no, init_zero, init_succ, Nat.reduceEqDiff, ↓reduceIte, *]; rfl)), N0, R0⟩ ?_
  rintro k s σ' ⟨i, T, v, vw, vt, took, hi, hk, h8, h5, h6, h0', h1', h7, hN, hR⟩
  clear N0 R0 hgs HR hMn hsub2 hs0
  rcases Nat.lt_or_ge i script.length with hlt | hge
  · obtain ⟨o, ho⟩ : ∃ o, script[i]? = some o := ⟨_, List.getElem?_eq_getElem hlt⟩
    obtain ⟨b, off, rfl, hrd⟩ := H.out i o ho
    have hrd := rdn_sub hN.sub hrd
    obtain ⟨hok, hone1, hone2⟩ := HK.out o (List.mem_of_getElem? ho)
    have hd : decide ((i : Int) < (script.length : Int)) = true := by simp; omega
    have HN0 := Hid.mk hN
    clear hN ho H
    simp (config := { contextual := true, dsimp := false }) only [*, TxS.cells, TxS.view, Msg.cells, Op.cells, ↓reduceIte, ↓evP, evQ, if_true, if_false, eq_self, binv, eqv, lenv, fillO, splice, fldv, Sp.eqa, eqL, eq1, Nat.reduceAdd, Nat.reduceEqDiff, Nat.reduceLeDiff, Nat.reduceMul, reduceCtorEq, Int.reduceLT, Int.reduceLE, Int.reduceGT, Int.reduceGE, Int.reduceEq, Int.reduceNeg]
    refine ⟨by omega, fun po hpo => ?_⟩
    refine codeF_cut (a := c6_b2) (b := c6_t2) (NJ σ g pw fl (.slice (some ⟨b, off, none⟩) script.length c) i T vw) ?_ ?_
    · obtain ⟨aw2, cw2, rfl⟩ := HN0.out.seen.slice
      have hwas := HN0.out.was
      have htx := HN0.out.tx
      unfold TxS.view at hwas
      have htg := htx.1
      unfold TxS.cells at htg
      have hne1 : ¬ g = pw := fun e => hgp e.symm
      obtain ⟨τ, rfl⟩ : ∃ τ, σ' = upd (upd τ pw _) g _ := ⟨σ', by rw [upd_self hwas, upd_self htg]⟩
      have HT := Hid.mk htx
      clear hwas htx htg
      simp only [none_upd] at hpo
      unfold c6_b2
      simp (config := { contextual := true, dsimp := false }) only [*, TxS.cells, TxS.view, Msg.cells, Op.cells, ↓reduceIte, ↓evP, evQ, if_true, if_false, eq_self, binv, eqv, lenv, fillO, splice, fldv, Sp.eqa, eqL, eq1, Nat.reduceAdd, Nat.reduceEqDiff, Nat.reduceLeDiff, Nat.reduceMul, reduceCtorEq, Int.reduceLT, Int.reduceLE, Int.reduceGT, Int.reduceGE, Int.reduceEq, Int.reduceNeg]
      (repeat' (first | (refine condF_split (fun hc => ?_) (fun hc => ?_) <;> (try simp only [Bool.not_eq_true', Bool.not_eq_false', Bool.and_eq_true, Bool.or_eq_false_iff] at hc) <;> (try (simp (config := { contextual := true, dsimp := false }) only [*, TxS.cells, TxS.view, Msg.cells, Op.cells, ↓reduceIte, ↓evP, evQ, if_true, if_false, eq_self, binv, eqv, lenv, fillO, splice, fldv, Sp.eqa, eqL, eq1, Nat.reduceAdd, Nat.reduceEqDiff, Nat.reduceLeDiff, Nat.reduceMul, reduceCtorEq, Int.reduceLT, Int.reduceLE, Int.reduceGT, Int.reduceGE, Int.reduceEq, Int.reduceNeg]))) | (intro _; intros) | ((refine And.intro ?_ ?_; focus (first | omega | (first | exact Sub.refl _ | ((repeat (first | exact Sub.refl _ | (refine Sub.drop ?_ ?_; focus (simp only [none_upd, none_set, not_false_eq_true, true_and, and_true, *]; done)) | refine Sub.both ?_)); done)) | ((simp only [decide_eq_true_eq, decide_eq_false_iff_not] at *); omega) | (simp_all; done) | (simp_all; omega))); (try (simp (config := { contextual := true, dsimp := false }) only [*, TxS.cells, TxS.view, Msg.cells, Op.cells, ↓reduceIte, ↓evP, evQ, if_true, if_false, eq_self, binv, eqv, lenv, fillO, splice, fldv, Sp.eqa, eqL, eq1, Nat.reduceAdd, Nat.reduceEqDiff, Nat.reduceLeDiff, Nat.reduceMul, reduceCtorEq, Int.reduceLT, Int.reduceLE, Int.reduceGT, Int.reduceGE, Int.reduceEq, Int.reduceNeg])))))
      · have hl := hR.inv.reads
        have hvF : ∀ k, blk v = some k → ¬ k = g := fun k hk e => by subst e; exact HT.out.2.notCells HT.out.1 hk
        (repeat' (first | (refine condF_split (fun hc => ?_) (fun hc => ?_) <;> (try simp only [Bool.not_eq_true', Bool.not_eq_false', Bool.and_eq_true, Bool.or_eq_false_iff] at hc) <;> (try (simp (config := { contextual := true, dsimp := false }) only [*, TxS.cells, TxS.view, Msg.cells, Op.cells, ↓reduceIte, ↓evP, evQ, if_true, if_false, eq_self, binv, eqv, lenv, fillO, splice, fldv, Sp.eqa, eqL, eq1, Nat.reduceAdd, Nat.reduceEqDiff, Nat.reduceLeDiff, Nat.reduceMul, reduceCtorEq, Int.reduceLT, Int.reduceLE, Int.reduceGT, Int.reduceGE, Int.reduceEq, Int.reduceNeg]))) | (refine callF_v (read11 (T := T) (v := v) (by first | rfl | (simp only [upd_same, upd_at, set_at, *, ↓reduceIte]; done) | (simp only [upd_same, upd_at, set_at, *, ↓reduceIte]; rfl)) (HT.out.2.sameF (F := fun k => k = g) (by repeat (first | exact Same.refl _ _ | (refine Same.updNew ?_ ?_; focus (simp only [none_upd, none_set, not_false_eq_true, true_and, and_true, *]; done)) | (refine Same.both ?_ ?_; focus (first | exact rfl | exact .inl rfl | exact .inr rfl)) | (refine Same.updIn ?_ ?_; focus (first | exact rfl | exact .inl rfl | exact .inr rfl)) | refine Same.eq ?_)) hvF) o.key hok (by omega)) ?_; (try (simp (config := { contextual := true, dsimp := false }) only [*, TxS.cells, TxS.view, Msg.cells, Op.cells, ↓reduceIte, ↓evP, evQ, if_true, if_false, eq_self, binv, eqv, lenv, fillO, splice, fldv, Sp.eqa, eqL, eq1, Nat.reduceAdd, Nat.reduceEqDiff, Nat.reduceLeDiff, Nat.reduceMul, reduceCtorEq, Int.reduceLT, Int.reduceLE, Int.reduceGT, Int.reduceGE, Int.reduceEq, Int.reduceNeg]))) | (refine ccallF_of (read11 (T := T) (v := v) (by first | rfl | (simp only [upd_same, upd_at, set_at, *, ↓reduceIte]; done) | (simp only [upd_same, upd_at, set_at, *, ↓reduceIte]; rfl)) (HT.out.2.sameF (F := fun k => k = g) (by repeat (first | exact Same.refl _ _ | (refine Same.updNew ?_ ?_; focus (simp only [none_upd, none_set, not_false_eq_true, true_and, and_true, *]; done)) | (refine Same.both ?_ ?_; focus (first | exact rfl | exact .inl rfl | exact .inr rfl)) | (refine Same.updIn ?_ ?_; focus (first | exact rfl | exact .inl rfl | exact .inr rfl)) | refine Same.eq ?_)) hvF) o.key hok (by omega)) ?_; (try (simp (config := { contextual := true, dsimp := false }) only [*, TxS.cells, TxS.view, Msg.cells, Op.cells, ↓reduceIte, ↓evP, evQ, if_true, if_false, eq_self, binv, eqv, lenv, fillO, splice, fldv, Sp.eqa, eqL, eq1, Nat.reduceAdd, Nat.reduceEqDiff, Nat.reduceLeDiff, Nat.reduceMul, reduceCtorEq, Int.reduceLT, Int.reduceLE, Int.reduceGT, Int.reduceGE, Int.reduceEq, Int.reduceNeg]))) | (refine gcallF_of (read11 (T := T) (v := v) (by first | rfl | (simp only [upd_same, upd_at, set_at, *, ↓reduceIte]; done) | (simp only [upd_same, upd_at, set_at, *, ↓reduceIte]; rfl)) (HT.out.2.sameF (F := fun k => k = g) (by repeat (first | exact Same.refl _ _ | (refine Same.updNew ?_ ?_; focus (simp only [none_upd, none_set, not_false_eq_true, true_and, and_true, *]; done)) | (refine Same.both ?_ ?_; focus (first | exact rfl | exact .inl rfl | exact .inr rfl)) | (refine Same.updIn ?_ ?_; focus (first | exact rfl | exact .inl rfl | exact .inr rfl)) | refine Same.eq ?_)) hvF) o.key hok (by omega)) ?_; (try (simp (config := { contextual := true, dsimp := false }) only [*, TxS.cells, TxS.view, Msg.cells, Op.cells, ↓reduceIte, ↓evP, evQ, if_true, if_false, eq_self, binv, eqv, lenv, fillO, splice, fldv, Sp.eqa, eqL, eq1, Nat.reduceAdd, Nat.reduceEqDiff, Nat.reduceLeDiff, Nat.reduceMul, reduceCtorEq, Int.reduceLT, Int.reduceLE, Int.reduceGT, Int.reduceGE, Int.reduceEq, Int.reduceNeg]))) | (intro _; intros) | ((refine And.intro ?_ ?_; focus (first | omega | (first | exact Sub.refl _ | ((repeat (first | exact Sub.refl _ | (refine Sub.drop ?_ ?_; focus (simp only [none_upd, none_set, not_false_eq_true, true_and, and_true, *]; done)) | refine Sub.both ?_)); done)) | ((simp only [decide_eq_true_eq, decide_eq_false_iff_not] at *); omega) | (simp_all; done) | (simp_all; omega))); (try (simp (config := { contextual := true, dsimp := false }) only [*, TxS.cells, TxS.view, Msg.cells, Op.cells, ↓reduceIte, ↓evP, evQ, if_true, if_false, eq_self, binv, eqv, lenv, fillO, splice, fldv, Sp.eqa, eqL, eq1, Nat.reduceAdd, Nat.reduceEqDiff, Nat.reduceLeDiff, Nat.reduceMul, reduceCtorEq, Int.reduceLT, Int.reduceLE, Int.reduceGT, Int.reduceGE, Int.reduceEq, Int.reduceNeg])))))
        obtain ⟨n1, n2⟩ := hR.read o.key hok
        unfold NJ
        refine ⟨(T.read o.key).1, v, vt, took, (by first | rfl | (simp only [↓putO_get, ↓putO_no, init_zero, init_succ, Nat.reduceEqDiff, ↓reduceIte, *]; done) | (simp only [↓putO_get, ↓putO_no, init_zero, init_succ, Nat.reduceEqDiff, ↓reduceIte, *]; rfl)), (by first | rfl | (simp only [↓putO_get, ↓putO_no, init_zero, init_succ, Nat.reduceEqDiff, ↓reduceIte, *]; done) | (simp only [↓putO_get, ↓putO_no, init_zero, init_succ, Nat.reduceEqDiff, ↓reduceIte, *]; rfl)), (by first | rfl | (simp only [↓putO_get, ↓putO_no, init_zero, init_succ, Nat.reduceEqDiff, ↓reduceIte, *]; done) | (simp only [↓putO_get, ↓putO_no, init_zero, init_succ, Nat.reduceEqDiff, ↓reduceIte, *]; rfl)), (by first | rfl | (simp only [↓putO_get, ↓putO_no, init_zero, init_succ, Nat.reduceEqDiff, ↓reduceIte, *]; done) | (simp only [↓putO_get, ↓putO_no, init_zero, init_succ, Nat.reduceEqDiff, ↓reduceIte, *]; rfl)), (by first | rfl | (simp only [↓putO_get, ↓putO_no, init_zero, init_succ, Nat.reduceEqDiff, ↓reduceIte, *]; done) | (simp only [↓putO_get, ↓putO_no, init_zero, init_succ, Nat.reduceEqDiff, ↓reduceIte, *]; rfl)), (by first | rfl | (simp only [↓putO_get, ↓putO_no, init_zero, init_succ, Nat.reduceEqDiff, ↓reduceIte, *]; done) | (simp only [↓putO_get, ↓putO_no, init_zero, init_succ, Nat.reduceEqDiff, ↓reduceIte, *]; rfl)), HN0.out.keep hg hgp (by repeat (first | exact Same.refl _ _ | (refine Same.updNew ?_ ?_; focus (simp only [none_upd, none_set, not_false_eq_true, true_and, and_true, *]; done)) | (refine Same.both ?_ ?_; focus (first | exact rfl | exact .inl rfl | exact .inr rfl)) | (refine Same.updIn ?_ ?_; focus (first | exact rfl | exact .inl rfl | exact .inr rfl)) | refine Same.eq ?_)) (by first | (simp only [upd_at, *, ↓reduceIte]; done) | (simp only [upd_at, *, ↓reduceIte]; rfl)) (reads_read T o.key), n1.up, n2⟩
      · refine callF_of (ACalls.beside ?_ (ACalls.beside ?_ (hear14 HT.out { o.m with tx := 1, seq := T.seq } hR.inv.key (by have := hR.inv.reads; omega)))) ?_
        · (simp only [none_upd, none_set, not_false_eq_true, true_and, and_true, *]; done)
        · (simp only [none_upd, none_set, not_false_eq_true, true_and, and_true, *]; done)
        rintro u σ'' ⟨s0, ⟨s1, ⟨rfl, v1, hT1, hS1⟩, n0, rfl⟩, n1, rfl⟩
        have N1 := HN0.out.step hg hgp hT1 hS1
        have hlen := hR.hear h0 { o.m with tx := 1, seq := T.seq }
        generalize hT' : (T.hear { o.m with tx := 1, seq := T.seq }).1 = T' at *
        have hwas1 := N1.was
        unfold TxS.view at hwas1
        obtain ⟨τ1, rfl⟩ := open_upd hwas1
        have HN1 := Hid.mk N1
        have HT1 := Hid.mk hT1
        clear hwas1 N1 hS1 hT1
        simp only [none_upd] at n0 n1
        have hl' : T'.reads.length ≤ script.length := by
          have := hR.inv.reads
          rcases hlen.2 with ⟨e, _⟩ | ⟨e, _⟩ <;> omega
        simp (config := { contextual := true, dsimp := false }) only [*, TxS.cells, TxS.view, Msg.cells, Op.cells, ↓reduceIte, ↓evP, evQ, if_true, if_false, eq_self, binv, eqv, lenv, fillO, splice, fldv, Sp.eqa, eqL, eq1, Nat.reduceAdd, Nat.reduceEqDiff, Nat.reduceLeDiff, Nat.reduceMul, reduceCtorEq, Int.reduceLT, Int.reduceLE, Int.reduceGT, Int.reduceGE, Int.reduceEq, Int.reduceNeg]
        refine gcallF_first (ACalls.beside ?_ (ACalls.beside ?_ (view15 HT1.out (by omega)))) ?_ ?_
        · (simp only [none_upd, none_set, not_false_eq_true, true_and, and_true, *]; done)
        · (simp only [none_upd, none_set, not_false_eq_true, true_and, and_true, *]; done)
        · rintro u s3 ⟨q0, ⟨q1, ⟨v3, _, _, hM3⟩, _, rfl⟩, _, rfl⟩
          exact Sub.both (Sub.both hM3.sub)
        rintro u s3 ⟨q0, ⟨q1, ⟨v3, rfl, hR3, hM3⟩, m0, rfl⟩, m1, rfl⟩
        obtain ⟨a3, c3, rfl⟩ := hR3.slice
        have N3 := Hid.mk (HN1.out.subK hM3.sub)
        clear hR3 hM3
        simp only [none_upd] at m0 m1
        obtain ⟨hless, hlen⟩ := hlen
        rcases hlen with ⟨hlen, hnar⟩ | ⟨hlen, hnar⟩ <;> replace hlen := Hid.mk hlen
        · have hd2 : decide ((T'.reads.length : Int) > (T.reads.length : Int)) = false := by have := hlen.out; simp; omega
          simp (config := { contextual := true, dsimp := false }) only [*, TxS.cells, TxS.view, Msg.cells, Op.cells, ↓reduceIte, ↓evP, evQ, if_true, if_false, eq_self, binv, eqv, lenv, fillO, splice, fldv, Sp.eqa, eqL, eq1, Nat.reduceAdd, Nat.reduceEqDiff, Nat.reduceLeDiff, Nat.reduceMul, reduceCtorEq, Int.reduceLT, Int.reduceLE, Int.reduceGT, Int.reduceGE, Int.reduceEq, Int.reduceNeg]
          unfold NJ
          refine ⟨T', v1, vt, took, (by first | rfl | (simp only [↓putO_get, ↓putO_no, init_zero, init_succ, Nat.reduceEqDiff, ↓reduceIte, *]; done) | (simp only [↓putO_get, ↓putO_no, init_zero, init_succ, Nat.reduceEqDiff, ↓reduceIte, *]; rfl)), (by first | rfl | (simp only [↓putO_get, ↓putO_no, init_zero, init_succ, Nat.reduceEqDiff, ↓reduceIte, *]; done) | (simp only [↓putO_get, ↓putO_no, init_zero, init_succ, Nat.reduceEqDiff, ↓reduceIte, *]; rfl)), (by first | rfl | (simp only [↓putO_get, ↓putO_no, init_zero, init_succ, Nat.reduceEqDiff, ↓reduceIte, *]; done) | (simp only [↓putO_get, ↓putO_no, init_zero, init_succ, Nat.reduceEqDiff, ↓reduceIte, *]; rfl)), (by first | rfl | (simp only [↓putO_get, ↓putO_no, init_zero, init_succ, Nat.reduceEqDiff, ↓reduceIte, *]; done) | (simp only [↓putO_get, ↓putO_no, init_zero, init_succ, Nat.reduceEqDiff, ↓reduceIte, *]; rfl)), (by first | rfl | (simp only [↓putO_get, ↓putO_no, init_zero, init_succ, Nat.reduceEqDiff, ↓reduceIte, *]; done) | (simp only [↓putO_get, ↓putO_no, init_zero, init_succ, Nat.reduceEqDiff, ↓reduceIte, *]; rfl)), (by first | rfl | (simp only [↓putO_get, ↓putO_no, init_zero, init_succ, Nat.reduceEqDiff, ↓reduceIte, *]; done) | (simp only [↓putO_get, ↓putO_no, init_zero, init_succ, Nat.reduceEqDiff, ↓reduceIte, *]; rfl)), N3.out.subK ?_, hnar, hless⟩
          (first | exact Sub.refl _ | ((repeat (first | exact Sub.refl _ | (refine Sub.drop ?_ ?_; focus (simp only [none_upd, none_set, not_false_eq_true, true_and, and_true, *]; done)) | refine Sub.both ?_)); done))
        · have hd2 : decide ((T'.reads.length : Int) > (T.reads.length : Int)) = true := by have := hlen.out; simp; omega
          have hl3 : took.flatMap PinS.cells ++ [.int .i64 o.m.lo, .int .i64 o.m.hi] = (took ++ [(⟨o.m.lo, o.m.hi⟩ : PinS)]).flatMap PinS.cells := by simp only [List.flatMap_append, List.flatMap_cons, List.flatMap_nil, PinS.cells, List.append_nil]
          have htl := hnar.len
          have htl2 : took.length + 1 ≤ script.length := by simp only [List.length_append, List.length_cons, List.length_nil] at htl; omega
          clear htl
          rcases N3.out.taken with ⟨rfl, htn⟩ | ⟨b', c', rfl, hcap, hb'⟩
          · simp (config := { contextual := true, dsimp := false }) only [*, TxS.cells, TxS.view, Msg.cells, Op.cells, ↓reduceIte, ↓evP, evQ, if_true, if_false, eq_self, binv, eqv, lenv, fillO, splice, fldv, Sp.eqa, eqL, eq1, Nat.reduceAdd, Nat.reduceEqDiff, Nat.reduceLeDiff, Nat.reduceMul, reduceCtorEq, Int.reduceLT, Int.reduceLE, Int.reduceGT, Int.reduceGE, Int.reduceEq, Int.reduceNeg]
            (repeat' (first | (refine condF_split (fun hc => ?_) (fun hc => ?_) <;> (try simp only [Bool.not_eq_true', Bool.not_eq_false', Bool.and_eq_true, Bool.or_eq_false_iff] at hc) <;> (try (simp (config := { contextual := true, dsimp := false }) only [*, TxS.cells, TxS.view, Msg.cells, Op.cells, ↓reduceIte, ↓evP, evQ, if_true, if_false, eq_self, binv, eqv, lenv, fillO, splice, fldv, Sp.eqa, eqL, eq1, Nat.reduceAdd, Nat.reduceEqDiff, Nat.reduceLeDiff, Nat.reduceMul, reduceCtorEq, Int.reduceLT, Int.reduceLE, Int.reduceGT, Int.reduceGE, Int.reduceEq, Int.reduceNeg]))) | (intro _; intros) | ((refine And.intro ?_ ?_; focus (first | omega | (first | exact Sub.refl _ | ((repeat (first | exact Sub.refl _ | (refine Sub.drop ?_ ?_; focus (simp only [none_upd, none_set, not_false_eq_true, true_and, and_true, *]; done)) | refine Sub.both ?_)); done)) | ((simp only [decide_eq_true_eq, decide_eq_false_iff_not] at *); omega) | (simp_all; done) | (simp_all; omega))); (try (simp (config := { contextual := true, dsimp := false }) only [*, TxS.cells, TxS.view, Msg.cells, Op.cells, ↓reduceIte, ↓evP, evQ, if_true, if_false, eq_self, binv, eqv, lenv, fillO, splice, fldv, Sp.eqa, eqL, eq1, Nat.reduceAdd, Nat.reduceEqDiff, Nat.reduceLeDiff, Nat.reduceMul, reduceCtorEq, Int.reduceLT, Int.reduceLE, Int.reduceGT, Int.reduceGE, Int.reduceEq, Int.reduceNeg])))))
            refine app_n (by first | (simp only [Nat.reduceMul, Nat.one_mul, Nat.zero_mul, rdn_row, rdn_same, rdn_ne, seg_zero, seg_cons, seg_skip, Option.map_some, not_false_eq_true, *]; done) | (simp only [Nat.reduceMul, Nat.one_mul, Nat.zero_mul, rdn_row, rdn_same, rdn_ne, seg_zero, seg_cons, seg_skip, Option.map_some, not_false_eq_true, *]; exact rfl)) rfl (by omega) (by omega) (by unfold maxLen; omega) ?_
            simp (config := { contextual := true, dsimp := false }) only [*, TxS.cells, TxS.view, Msg.cells, Op.cells, ↓reduceIte, ↓evP, evQ, if_true, if_false, eq_self, binv, eqv, lenv, fillO, splice, fldv, Sp.eqa, eqL, eq1, Nat.reduceAdd, Nat.reduceEqDiff, Nat.reduceLeDiff, Nat.reduceMul, reduceCtorEq, Int.reduceLT, Int.reduceLE, Int.reduceGT, Int.reduceGE, Int.reduceEq, Int.reduceNeg]
            (repeat' (first | (refine condF_split (fun hc => ?_) (fun hc => ?_) <;> (try simp only [Bool.not_eq_true', Bool.not_eq_false', Bool.and_eq_true, Bool.or_eq_false_iff] at hc) <;> (try (simp (config := { contextual := true, dsimp := false }) only [*, TxS.cells, TxS.view, Msg.cells, Op.cells, ↓reduceIte, ↓evP, evQ, if_true, if_false, eq_self, binv, eqv, lenv, fillO, splice, fldv, Sp.eqa, eqL, eq1, Nat.reduceAdd, Nat.reduceEqDiff, Nat.reduceLeDiff, Nat.reduceMul, reduceCtorEq, Int.reduceLT, Int.reduceLE, Int.reduceGT, Int.reduceGE, Int.reduceEq, Int.reduceNeg]))) | (intro _; intros) | ((refine And.intro ?_ ?_; focus (first | omega | (first | exact Sub.refl _ | ((repeat (first | exact Sub.refl _ | (refine Sub.drop ?_ ?_; focus (simp only [none_upd, none_set, not_false_eq_true, true_and, and_true, *]; done)) | refine Sub.both ?_)); done)) | ((simp only [decide_eq_true_eq, decide_eq_false_iff_not] at *); omega) | (simp_all; done) | (simp_all; omega))); (try (simp (config := { contextual := true, dsimp := false }) only [*, TxS.cells, TxS.view, Msg.cells, Op.cells, ↓reduceIte, ↓evP, evQ, if_true, if_false, eq_self, binv, eqv, lenv, fillO, splice, fldv, Sp.eqa, eqL, eq1, Nat.reduceAdd, Nat.reduceEqDiff, Nat.reduceLeDiff, Nat.reduceMul, reduceCtorEq, Int.reduceLT, Int.reduceLE, Int.reduceGT, Int.reduceGE, Int.reduceEq, Int.reduceNeg])))))
            have hl3' : [Value.int .i64 o.m.lo, .int .i64 o.m.hi] = (took ++ [(⟨o.m.lo, o.m.hi⟩ : PinS)]).flatMap PinS.cells := by rw [htn]; rfl
            unfold NJ
            refine ⟨T', v1, _, took ++ [⟨o.m.lo, o.m.hi⟩], (by first | rfl | (simp only [↓putO_get, ↓putO_no, init_zero, init_succ, Nat.reduceEqDiff, ↓reduceIte, *]; done) | (simp only [↓putO_get, ↓putO_no, init_zero, init_succ, Nat.reduceEqDiff, ↓reduceIte, *]; rfl)), (by first | rfl | (simp only [↓putO_get, ↓putO_no, init_zero, init_succ, Nat.reduceEqDiff, ↓reduceIte, *]; done) | (simp only [↓putO_get, ↓putO_no, init_zero, init_succ, Nat.reduceEqDiff, ↓reduceIte, *]; rfl)), (by first | rfl | (simp only [↓putO_get, ↓putO_no, init_zero, init_succ, Nat.reduceEqDiff, ↓reduceIte, *]; done) | (simp only [↓putO_get, ↓putO_no, init_zero, init_succ, Nat.reduceEqDiff, ↓reduceIte, *]; rfl)), (by first | rfl | (simp only [↓putO_get, ↓putO_no, init_zero, init_succ, Nat.reduceEqDiff, ↓reduceIte, *]; done) | (simp only [↓putO_get, ↓putO_no, init_zero, init_succ, Nat.reduceEqDiff, ↓reduceIte, *]; rfl)), (by first | rfl | (simp only [↓putO_get, ↓putO_no, init_zero, init_succ, Nat.reduceEqDiff, ↓reduceIte, *]; done) | (simp only [↓putO_get, ↓putO_no, init_zero, init_succ, Nat.reduceEqDiff, ↓reduceIte, *]; rfl)), rfl, HN.take N3.out (by repeat (first | exact Same.refl _ _ | (refine Same.updNew ?_ ?_; focus (simp only [none_upd, none_set, not_false_eq_true, true_and, and_true, *]; done)) | (refine Same.both ?_ ?_; focus (first | exact rfl | exact .inl rfl | exact .inr rfl)) | (refine Same.updIn ?_ ?_; focus (first | exact rfl | exact .inl rfl | exact .inr rfl)) | refine Same.eq ?_)) ?_ ?_, hnar, hless⟩
            · exact rows_mk (by rw [htn]; rfl) (by omega) (by rw [upd_same, hl3'])
            · intro k hk; cases hk; exact .inr (by simp only [none_upd, none_set, not_false_eq_true, true_and, and_true, *]; done)
          · obtain ⟨τ3, rfl⟩ := open_upd hb'
            clear hb'
            simp only [none_upd] at m0 m1
            simp (config := { contextual := true, dsimp := false }) only [*, TxS.cells, TxS.view, Msg.cells, Op.cells, ↓reduceIte, ↓evP, evQ, if_true, if_false, eq_self, binv, eqv, lenv, fillO, splice, fldv, Sp.eqa, eqL, eq1, Nat.reduceAdd, Nat.reduceEqDiff, Nat.reduceLeDiff, Nat.reduceMul, reduceCtorEq, Int.reduceLT, Int.reduceLE, Int.reduceGT, Int.reduceGE, Int.reduceEq, Int.reduceNeg]
            (repeat' (first | (refine condF_split (fun hc => ?_) (fun hc => ?_) <;> (try simp only [Bool.not_eq_true', Bool.not_eq_false', Bool.and_eq_true, Bool.or_eq_false_iff] at hc) <;> (try (simp (config := { contextual := true, dsimp := false }) only [*, TxS.cells, TxS.view, Msg.cells, Op.cells, ↓reduceIte, ↓evP, evQ, if_true, if_false, eq_self, binv, eqv, lenv, fillO, splice, fldv, Sp.eqa, eqL, eq1, Nat.reduceAdd, Nat.reduceEqDiff, Nat.reduceLeDiff, Nat.reduceMul, reduceCtorEq, Int.reduceLT, Int.reduceLE, Int.reduceGT, Int.reduceGE, Int.reduceEq, Int.reduceNeg]))) | (intro _; intros) | ((refine And.intro ?_ ?_; focus (first | omega | (first | exact Sub.refl _ | ((repeat (first | exact Sub.refl _ | (refine Sub.drop ?_ ?_; focus (simp only [none_upd, none_set, not_false_eq_true, true_and, and_true, *]; done)) | refine Sub.both ?_)); done)) | ((simp only [decide_eq_true_eq, decide_eq_false_iff_not] at *); omega) | (simp_all; done) | (simp_all; omega))); (try (simp (config := { contextual := true, dsimp := false }) only [*, TxS.cells, TxS.view, Msg.cells, Op.cells, ↓reduceIte, ↓evP, evQ, if_true, if_false, eq_self, binv, eqv, lenv, fillO, splice, fldv, Sp.eqa, eqL, eq1, Nat.reduceAdd, Nat.reduceEqDiff, Nat.reduceLeDiff, Nat.reduceMul, reduceCtorEq, Int.reduceLT, Int.reduceLE, Int.reduceGT, Int.reduceGE, Int.reduceEq, Int.reduceNeg])))))
            refine app_b (by first | (simp only [Nat.reduceMul, Nat.one_mul, Nat.zero_mul, rdn_row, rdn_same, rdn_ne, seg_zero, seg_cons, seg_skip, Option.map_some, not_false_eq_true, *]; done) | (simp only [Nat.reduceMul, Nat.one_mul, Nat.zero_mul, rdn_row, rdn_same, rdn_ne, seg_zero, seg_cons, seg_skip, Option.map_some, not_false_eq_true, *]; exact rfl)) rfl (by first | (simp only [upd_at, *, ↓reduceIte]; done) | (simp only [upd_at, *, ↓reduceIte]; rfl)) (flat_len PinS.cells_len _) (by omega) (by omega) (by unfold maxLen; omega) ?_ ?_
            · rw [hl3]
              simp (config := { contextual := true, dsimp := false }) only [*, TxS.cells, TxS.view, Msg.cells, Op.cells, ↓reduceIte, ↓evP, evQ, if_true, if_false, eq_self, binv, eqv, lenv, fillO, splice, fldv, Sp.eqa, eqL, eq1, Nat.reduceAdd, Nat.reduceEqDiff, Nat.reduceLeDiff, Nat.reduceMul, reduceCtorEq, Int.reduceLT, Int.reduceLE, Int.reduceGT, Int.reduceGE, Int.reduceEq, Int.reduceNeg]
              (repeat' (first | (refine condF_split (fun hc => ?_) (fun hc => ?_) <;> (try simp only [Bool.not_eq_true', Bool.not_eq_false', Bool.and_eq_true, Bool.or_eq_false_iff] at hc) <;> (try (simp (config := { contextual := true, dsimp := false }) only [*, TxS.cells, TxS.view, Msg.cells, Op.cells, ↓reduceIte, ↓evP, evQ, if_true, if_false, eq_self, binv, eqv, lenv, fillO, splice, fldv, Sp.eqa, eqL, eq1, Nat.reduceAdd, Nat.reduceEqDiff, Nat.reduceLeDiff, Nat.reduceMul, reduceCtorEq, Int.reduceLT, Int.reduceLE, Int.reduceGT, Int.reduceGE, Int.reduceEq, Int.reduceNeg]))) | (intro _; intros) | ((refine And.intro ?_ ?_; focus (first | omega | (first | exact Sub.refl _ | ((repeat (first | exact Sub.refl _ | (refine Sub.drop ?_ ?_; focus (simp only [none_upd, none_set, not_false_eq_true, true_and, and_true, *]; done)) | refine Sub.both ?_)); done)) | ((simp only [decide_eq_true_eq, decide_eq_false_iff_not] at *); omega) | (simp_all; done) | (simp_all; omega))); (try (simp (config := { contextual := true, dsimp := false }) only [*, TxS.cells, TxS.view, Msg.cells, Op.cells, ↓reduceIte, ↓evP, evQ, if_true, if_false, eq_self, binv, eqv, lenv, fillO, splice, fldv, Sp.eqa, eqL, eq1, Nat.reduceAdd, Nat.reduceEqDiff, Nat.reduceLeDiff, Nat.reduceMul, reduceCtorEq, Int.reduceLT, Int.reduceLE, Int.reduceGT, Int.reduceGE, Int.reduceEq, Int.reduceNeg])))))
              unfold NJ
              refine ⟨T', v1, _, took ++ [⟨o.m.lo, o.m.hi⟩], (by first | rfl | (simp only [↓putO_get, ↓putO_no, init_zero, init_succ, Nat.reduceEqDiff, ↓reduceIte, *]; done) | (simp only [↓putO_get, ↓putO_no, init_zero, init_succ, Nat.reduceEqDiff, ↓reduceIte, *]; rfl)), (by first | rfl | (simp only [↓putO_get, ↓putO_no, init_zero, init_succ, Nat.reduceEqDiff, ↓reduceIte, *]; done) | (simp only [↓putO_get, ↓putO_no, init_zero, init_succ, Nat.reduceEqDiff, ↓reduceIte, *]; rfl)), (by first | rfl | (simp only [↓putO_get, ↓putO_no, init_zero, init_succ, Nat.reduceEqDiff, ↓reduceIte, *]; done) | (simp only [↓putO_get, ↓putO_no, init_zero, init_succ, Nat.reduceEqDiff, ↓reduceIte, *]; rfl)), (by first | rfl | (simp only [↓putO_get, ↓putO_no, init_zero, init_succ, Nat.reduceEqDiff, ↓reduceIte, *]; done) | (simp only [↓putO_get, ↓putO_no, init_zero, init_succ, Nat.reduceEqDiff, ↓reduceIte, *]; rfl)), (by first | rfl | (simp only [↓putO_get, ↓putO_no, init_zero, init_succ, Nat.reduceEqDiff, ↓reduceIte, *]; done) | (simp only [↓putO_get, ↓putO_no, init_zero, init_succ, Nat.reduceEqDiff, ↓reduceIte, *]; rfl)), rfl, HN.take N3.out (by repeat (first | exact Same.refl _ _ | (refine Same.updNew ?_ ?_; focus (simp only [none_upd, none_set, not_false_eq_true, true_and, and_true, *]; done)) | (refine Same.both ?_ ?_; focus (first | exact rfl | exact .inl rfl | exact .inr rfl)) | (refine Same.updIn ?_ ?_; focus (first | exact rfl | exact .inl rfl | exact .inr rfl)) | refine Same.eq ?_)) ?_ ?_, hnar, hless⟩
              · exact rows_mk (by rw [List.length_append]; rfl) (by omega) (by first | (simp only [upd_at, *, ↓reduceIte]; done) | (simp only [upd_at, *, ↓reduceIte]; rfl))
              · intro k hk; exact .inl hk
            · rw [hl3]
              simp (config := { contextual := true, dsimp := false }) only [*, TxS.cells, TxS.view, Msg.cells, Op.cells, ↓reduceIte, ↓evP, evQ, if_true, if_false, eq_self, binv, eqv, lenv, fillO, splice, fldv, Sp.eqa, eqL, eq1, Nat.reduceAdd, Nat.reduceEqDiff, Nat.reduceLeDiff, Nat.reduceMul, reduceCtorEq, Int.reduceLT, Int.reduceLE, Int.reduceGT, Int.reduceGE, Int.reduceEq, Int.reduceNeg]
              (repeat' (first | (refine condF_split (fun hc => ?_) (fun hc => ?_) <;> (try simp only [Bool.not_eq_true', Bool.not_eq_false', Bool.and_eq_true, Bool.or_eq_false_iff] at hc) <;> (try (simp (config := { contextual := true, dsimp := false }) only [*, TxS.cells, TxS.view, Msg.cells, Op.cells, ↓reduceIte, ↓evP, evQ, if_true, if_false, eq_self, binv, eqv, lenv, fillO, splice, fldv, Sp.eqa, eqL, eq1, Nat.reduceAdd, Nat.reduceEqDiff, Nat.reduceLeDiff, Nat.reduceMul, reduceCtorEq, Int.reduceLT, Int.reduceLE, Int.reduceGT, Int.reduceGE, Int.reduceEq, Int.reduceNeg]))) | (intro _; intros) | ((refine And.intro ?_ ?_; focus (first | omega | (first | exact Sub.refl _ | ((repeat (first | exact Sub.refl _ | (refine Sub.drop ?_ ?_; focus (simp only [none_upd, none_set, not_false_eq_true, true_and, and_true, *]; done)) | refine Sub.both ?_)); done)) | ((simp only [decide_eq_true_eq, decide_eq_false_iff_not] at *); omega) | (simp_all; done) | (simp_all; omega))); (try (simp (config := { contextual := true, dsimp := false }) only [*, TxS.cells, TxS.view, Msg.cells, Op.cells, ↓reduceIte, ↓evP, evQ, if_true, if_false, eq_self, binv, eqv, lenv, fillO, splice, fldv, Sp.eqa, eqL, eq1, Nat.reduceAdd, Nat.reduceEqDiff, Nat.reduceLeDiff, Nat.reduceMul, reduceCtorEq, Int.reduceLT, Int.reduceLE, Int.reduceGT, Int.reduceGE, Int.reduceEq, Int.reduceNeg])))))
              unfold NJ
              refine ⟨T', v1, _, took ++ [⟨o.m.lo, o.m.hi⟩], (by first | rfl | (simp only [↓putO_get, ↓putO_no, init_zero, init_succ, Nat.reduceEqDiff, ↓reduceIte, *]; done) | (simp only [↓putO_get, ↓putO_no, init_zero, init_succ, Nat.reduceEqDiff, ↓reduceIte, *]; rfl)), (by first | rfl | (simp only [↓putO_get, ↓putO_no, init_zero, init_succ, Nat.reduceEqDiff, ↓reduceIte, *]; done) | (simp only [↓putO_get, ↓putO_no, init_zero, init_succ, Nat.reduceEqDiff, ↓reduceIte, *]; rfl)), (by first | rfl | (simp only [↓putO_get, ↓putO_no, init_zero, init_succ, Nat.reduceEqDiff, ↓reduceIte, *]; done) | (simp only [↓putO_get, ↓putO_no, init_zero, init_succ, Nat.reduceEqDiff, ↓reduceIte, *]; rfl)), (by first | rfl | (simp only [↓putO_get, ↓putO_no, init_zero, init_succ, Nat.reduceEqDiff, ↓reduceIte, *]; done) | (simp only [↓putO_get, ↓putO_no, init_zero, init_succ, Nat.reduceEqDiff, ↓reduceIte, *]; rfl)), (by first | rfl | (simp only [↓putO_get, ↓putO_no, init_zero, init_succ, Nat.reduceEqDiff, ↓reduceIte, *]; done) | (simp only [↓putO_get, ↓putO_no, init_zero, init_succ, Nat.reduceEqDiff, ↓reduceIte, *]; rfl)), rfl, HN.take N3.out (by repeat (first | exact Same.refl _ _ | (refine Same.updNew ?_ ?_; focus (simp only [none_upd, none_set, not_false_eq_true, true_and, and_true, *]; done)) | (refine Same.both ?_ ?_; focus (first | exact rfl | exact .inl rfl | exact .inr rfl)) | (refine Same.updIn ?_ ?_; focus (first | exact rfl | exact .inl rfl | exact .inr rfl)) | refine Same.eq ?_)) ?_ ?_, hnar, hless⟩
              · exact rows_mk (by rw [List.length_append]; rfl) (by omega) (by first | (simp only [upd_at, *, ↓reduceIte]; done) | (simp only [upd_at, *, ↓reduceIte]; rfl))
              · intro k hk; cases hk; exact .inr (by simp only [none_upd, none_set, not_false_eq_true, true_and, and_true, *]; done)
      · (repeat' (first | (refine condF_split (fun hc => ?_) (fun hc => ?_) <;> (try simp only [Bool.not_eq_true', Bool.not_eq_false', Bool.and_eq_true, Bool.or_eq_false_iff] at hc) <;> (try (simp (config := { contextual := true, dsimp := false }) only [*, TxS.cells, TxS.view, Msg.cells, Op.cells, ↓reduceIte, ↓evP, evQ, if_true, if_false, eq_self, binv, eqv, lenv, fillO, splice, fldv, Sp.eqa, eqL, eq1, Nat.reduceAdd, Nat.reduceEqDiff, Nat.reduceLeDiff, Nat.reduceMul, reduceCtorEq, Int.reduceLT, Int.reduceLE, Int.reduceGT, Int.reduceGE, Int.reduceEq, Int.reduceNeg]))) | (refine callF_v (again12 (T := T) (v := v) (by first | rfl | (simp only [upd_same, upd_at, set_at, *, ↓reduceIte]; done) | (simp only [upd_same, upd_at, set_at, *, ↓reduceIte]; rfl)) o.n hR.inv.key) ?_; (try (simp (config := { contextual := true, dsimp := false }) only [*, TxS.cells, TxS.view, Msg.cells, Op.cells, ↓reduceIte, ↓evP, evQ, if_true, if_false, eq_self, binv, eqv, lenv, fillO, splice, fldv, Sp.eqa, eqL, eq1, Nat.reduceAdd, Nat.reduceEqDiff, Nat.reduceLeDiff, Nat.reduceMul, reduceCtorEq, Int.reduceLT, Int.reduceLE, Int.reduceGT, Int.reduceGE, Int.reduceEq, Int.reduceNeg]))) | (refine ccallF_of (again12 (T := T) (v := v) (by first | rfl | (simp only [upd_same, upd_at, set_at, *, ↓reduceIte]; done) | (simp only [upd_same, upd_at, set_at, *, ↓reduceIte]; rfl)) o.n hR.inv.key) ?_; (try (simp (config := { contextual := true, dsimp := false }) only [*, TxS.cells, TxS.view, Msg.cells, Op.cells, ↓reduceIte, ↓evP, evQ, if_true, if_false, eq_self, binv, eqv, lenv, fillO, splice, fldv, Sp.eqa, eqL, eq1, Nat.reduceAdd, Nat.reduceEqDiff, Nat.reduceLeDiff, Nat.reduceMul, reduceCtorEq, Int.reduceLT, Int.reduceLE, Int.reduceGT, Int.reduceGE, Int.reduceEq, Int.reduceNeg]))) | (refine gcallF_of (again12 (T := T) (v := v) (by first | rfl | (simp only [upd_same, upd_at, set_at, *, ↓reduceIte]; done) | (simp only [upd_same, upd_at, set_at, *, ↓reduceIte]; rfl)) o.n hR.inv.key) ?_; (try (simp (config := { contextual := true, dsimp := false }) only [*, TxS.cells, TxS.view, Msg.cells, Op.cells, ↓reduceIte, ↓evP, evQ, if_true, if_false, eq_self, binv, eqv, lenv, fillO, splice, fldv, Sp.eqa, eqL, eq1, Nat.reduceAdd, Nat.reduceEqDiff, Nat.reduceLeDiff, Nat.reduceMul, reduceCtorEq, Int.reduceLT, Int.reduceLE, Int.reduceGT, Int.reduceGE, Int.reduceEq, Int.reduceNeg]))) | (intro _; intros) | ((refine And.intro ?_ ?_; focus (first | omega | (first | exact Sub.refl _ | ((repeat (first | exact Sub.refl _ | (refine Sub.drop ?_ ?_; focus (simp only [none_upd, none_set, not_false_eq_true, true_and, and_true, *]; done)) | refine Sub.both ?_)); done)) | ((simp only [decide_eq_true_eq, decide_eq_false_iff_not] at *); omega) | (simp_all; done) | (simp_all; omega))); (try (simp (config := { contextual := true, dsimp := false }) only [*, TxS.cells, TxS.view, Msg.cells, Op.cells, ↓reduceIte, ↓evP, evQ, if_true, if_false, eq_self, binv, eqv, lenv, fillO, splice, fldv, Sp.eqa, eqL, eq1, Nat.reduceAdd, Nat.reduceEqDiff, Nat.reduceLeDiff, Nat.reduceMul, reduceCtorEq, Int.reduceLT, Int.reduceLE, Int.reduceGT, Int.reduceGE, Int.reduceEq, Int.reduceNeg])))))
        obtain ⟨n1, n2⟩ := hR.again o.n
        unfold NJ
        refine ⟨(T.again o.n).1, v, vt, took, (by first | rfl | (simp only [↓putO_get, ↓putO_no, init_zero, init_succ, Nat.reduceEqDiff, ↓reduceIte, *]; done) | (simp only [↓putO_get, ↓putO_no, init_zero, init_succ, Nat.reduceEqDiff, ↓reduceIte, *]; rfl)), (by first | rfl | (simp only [↓putO_get, ↓putO_no, init_zero, init_succ, Nat.reduceEqDiff, ↓reduceIte, *]; done) | (simp only [↓putO_get, ↓putO_no, init_zero, init_succ, Nat.reduceEqDiff, ↓reduceIte, *]; rfl)), (by first | rfl | (simp only [↓putO_get, ↓putO_no, init_zero, init_succ, Nat.reduceEqDiff, ↓reduceIte, *]; done) | (simp only [↓putO_get, ↓putO_no, init_zero, init_succ, Nat.reduceEqDiff, ↓reduceIte, *]; rfl)), (by first | rfl | (simp only [↓putO_get, ↓putO_no, init_zero, init_succ, Nat.reduceEqDiff, ↓reduceIte, *]; done) | (simp only [↓putO_get, ↓putO_no, init_zero, init_succ, Nat.reduceEqDiff, ↓reduceIte, *]; rfl)), (by first | rfl | (simp only [↓putO_get, ↓putO_no, init_zero, init_succ, Nat.reduceEqDiff, ↓reduceIte, *]; done) | (simp only [↓putO_get, ↓putO_no, init_zero, init_succ, Nat.reduceEqDiff, ↓reduceIte, *]; rfl)), (by first | rfl | (simp only [↓putO_get, ↓putO_no, init_zero, init_succ, Nat.reduceEqDiff, ↓reduceIte, *]; done) | (simp only [↓putO_get, ↓putO_no, init_zero, init_succ, Nat.reduceEqDiff, ↓reduceIte, *]; rfl)), HN0.out.keep hg hgp (by repeat (first | exact Same.refl _ _ | (refine Same.updNew ?_ ?_; focus (simp only [none_upd, none_set, not_false_eq_true, true_and, and_true, *]; done)) | (refine Same.both ?_ ?_; focus (first | exact rfl | exact .inl rfl | exact .inr rfl)) | (refine Same.updIn ?_ ?_; focus (first | exact rfl | exact .inl rfl | exact .inr rfl)) | refine Same.eq ?_)) (by first | (simp only [upd_at, *, ↓reduceIte]; done) | (simp only [upd_at, *, ↓reduceIte]; rfl)) (reads_again T o.n), n1.up, n2⟩
      · unfold NJ
        refine ⟨T, v, vt, took, (by first | rfl | (simp only [↓putO_get, ↓putO_no, init_zero, init_succ, Nat.reduceEqDiff, ↓reduceIte, *]; done) | (simp only [↓putO_get, ↓putO_no, init_zero, init_succ, Nat.reduceEqDiff, ↓reduceIte, *]; rfl)), (by first | rfl | (simp only [↓putO_get, ↓putO_no, init_zero, init_succ, Nat.reduceEqDiff, ↓reduceIte, *]; done) | (simp only [↓putO_get, ↓putO_no, init_zero, init_succ, Nat.reduceEqDiff, ↓reduceIte, *]; rfl)), (by first | rfl | (simp only [↓putO_get, ↓putO_no, init_zero, init_succ, Nat.reduceEqDiff, ↓reduceIte, *]; done) | (simp only [↓putO_get, ↓putO_no, init_zero, init_succ, Nat.reduceEqDiff, ↓reduceIte, *]; rfl)), (by first | rfl | (simp only [↓putO_get, ↓putO_no, init_zero, init_succ, Nat.reduceEqDiff, ↓reduceIte, *]; done) | (simp only [↓putO_get, ↓putO_no, init_zero, init_succ, Nat.reduceEqDiff, ↓reduceIte, *]; rfl)), (by first | rfl | (simp only [↓putO_get, ↓putO_no, init_zero, init_succ, Nat.reduceEqDiff, ↓reduceIte, *]; done) | (simp only [↓putO_get, ↓putO_no, init_zero, init_succ, Nat.reduceEqDiff, ↓reduceIte, *]; rfl)), (by first | rfl | (simp only [↓putO_get, ↓putO_no, init_zero, init_succ, Nat.reduceEqDiff, ↓reduceIte, *]; done) | (simp only [↓putO_get, ↓putO_no, init_zero, init_succ, Nat.reduceEqDiff, ↓reduceIte, *]; rfl)), HN0.out.subK ?_, hR.up, ⟨Int.le_refl _, Int.le_refl _, .inl rfl⟩⟩
        (first | exact Sub.refl _ | ((repeat (first | exact Sub.refl _ | (refine Sub.drop ?_ ?_; focus (simp only [none_upd, none_set, not_false_eq_true, true_and, and_true, *]; done)) | refine Sub.both ?_)); done))
    · clear HN0 hR h8 h5 h6 h0' h1' h7 hrd hone1 hone2 hok hpo
      intro s σ3 hJ
      obtain ⟨T', v1, vt1, took1, h8, h5, h6, h0', h1', h7, N, hR, hL⟩ := hJ
      obtain ⟨a7, c7, rfl⟩ := N.taken.slice
      obtain ⟨aw2, cw2, rfl⟩ := N.seen.slice
      unfold c6_t2
      simp (config := { contextual := true, dsimp := false }) only [*, TxS.cells, TxS.view, Msg.cells, Op.cells, ↓reduceIte, ↓evP, evQ, if_true, if_false, eq_self, binv, eqv, lenv, fillO, splice, fldv, Sp.eqa, eqL, eq1, Nat.reduceAdd, Nat.reduceEqDiff, Nat.reduceLeDiff, Nat.reduceMul, reduceCtorEq, Int.reduceLT, Int.reduceLE, Int.reduceGT, Int.reduceGE, Int.reduceEq, Int.reduceNeg]
      refine callF_of (view15 N.tx (by have := hR.inv.reads; omega)) ?_
      rintro u σ4 ⟨v4, rfl, hR4, hM4⟩
      obtain ⟨a4, c4, rfl⟩ := hR4.slice
      have N4 := N.subK hM4.sub
      have hwas := N4.was
      unfold TxS.view at hwas
      obtain ⟨τ, rfl⟩ := open_upd hwas
      have HN4 := Hid.mk N4
      have HR4 := Hid.mk hR4
      have HM4 := Hid.mk hM4
      have hll : T'.reads.length = T.reads.length ∨ T'.reads.length = T.reads.length + 1 := by
        rcases hL.reads with e | ⟨x, e⟩ <;> rw [e]
        · exact .inl rfl
        · right; rw [List.length_append]; rfl
      have q1 : decide (T'.lo < T.lo) = false := by have := hL.lo; simp; omega
      have q2 : decide (T'.hi > T.hi) = false := by have := hL.hi; simp; omega
      have q3 : decide (T'.lo ≥ T'.hi) = false := by have := hR.ord; simp; omega
      have q4 : decide (T'.lo < fl) = false := by have := hR.low; simp; omega
      have q5 : decide ((T'.reads.length : Int) < (T.reads.length : Int)) = false := by simp; omega
      have q7 : IntKind.i64.wrap ((T.reads.length : Int) + 1) = (T.reads.length : Int) + 1 := by
        have := hR.inv.reads; exact wi64 (by omega)
      have q6 : decide ((T'.reads.length : Int) > (T.reads.length : Int) + 1) = false := by simp; omega
      have q8 : decide ((T'.reads.length : Int) = (took1.length : Int)) = true := by have := hR.len; simp; omega
      have HN3 := Hid.mk N
      clear N N4 hR4 hM4 hwas
      replace hll := Hid.mk hll
      simp (config := { contextual := true, dsimp := false }) only [*, TxS.cells, TxS.view, Msg.cells, Op.cells, ↓reduceIte, ↓evP, evQ, if_true, if_false, eq_self, binv, eqv, lenv, fillO, splice, fldv, Sp.eqa, eqL, eq1, Nat.reduceAdd, Nat.reduceEqDiff, Nat.reduceLeDiff, Nat.reduceMul, reduceCtorEq, Int.reduceLT, Int.reduceLE, Int.reduceGT, Int.reduceGE, Int.reduceEq, Int.reduceNeg]
      (repeat' (first | (refine condF_split (fun hc => ?_) (fun hc => ?_) <;> (try simp only [Bool.not_eq_true', Bool.not_eq_false', Bool.and_eq_true, Bool.or_eq_false_iff] at hc) <;> (try (simp (config := { contextual := true, dsimp := false }) only [*, TxS.cells, TxS.view, Msg.cells, Op.cells, ↓reduceIte, ↓evP, evQ, if_true, if_false, eq_self, binv, eqv, lenv, fillO, splice, fldv, Sp.eqa, eqL, eq1, Nat.reduceAdd, Nat.reduceEqDiff, Nat.reduceLeDiff, Nat.reduceMul, reduceCtorEq, Int.reduceLT, Int.reduceLE, Int.reduceGT, Int.reduceGE, Int.reduceEq, Int.reduceNeg]))) | (intro _; intros) | ((refine And.intro ?_ ?_; focus (first | omega | (first | exact Sub.refl _ | ((repeat (first | exact Sub.refl _ | (refine Sub.drop ?_ ?_; focus (simp only [none_upd, none_set, not_false_eq_true, true_and, and_true, *]; done)) | refine Sub.both ?_)); done)) | ((simp only [decide_eq_true_eq, decide_eq_false_iff_not] at *); omega) | (simp_all; done) | (simp_all; omega))); (try (simp (config := { contextual := true, dsimp := false }) only [*, TxS.cells, TxS.view, Msg.cells, Op.cells, ↓reduceIte, ↓evP, evQ, if_true, if_false, eq_self, binv, eqv, lenv, fillO, splice, fldv, Sp.eqa, eqL, eq1, Nat.reduceAdd, Nat.reduceEqDiff, Nat.reduceLeDiff, Nat.reduceMul, reduceCtorEq, Int.reduceLT, Int.reduceLE, Int.reduceGT, Int.reduceGE, Int.reduceEq, Int.reduceNeg])))))
      rename_i p11 x1 x2 x3
      have hb2 : T.reads.length ≤ script.length := by have := hR.inv.reads; have := hll.out; omega
      refine loopF_keep [0, 1, 5, 6, 7, 8, 11] (fun k s => ∃ j : Nat, j ≤ T.reads.length ∧ k = T.reads.length - j ∧ s 12 = .int .i64 j) T.reads.length ⟨0, by omega, rfl, (by first | rfl | (simp only [↓putO_get, ↓putO_no, init_zero, init_succ, Nat.reduceEqDiff, ↓reduceIte, *]; done) | (simp only [↓putO_get, ↓putO_no, init_zero, init_succ, Nat.reduceEqDiff, ↓reduceIte, *]; rfl))⟩ ?_
      rintro k2 s2 hL2 ⟨j, hj, hk2, h12⟩
      simp only [List.map_cons, List.map_nil, ↓putO_get, ↓putO_no, init_zero, init_succ, Nat.reduceEqDiff, ↓reduceIte, List.cons.injEq, and_true] at hL2
      rcases Nat.lt_or_ge j T.reads.length with hjl | hjl
      · obtain ⟨x, hx⟩ : ∃ x, T.reads[j]? = some x := ⟨_, List.getElem?_eq_getElem hjl⟩
        have hx' : T'.reads[j]? = some x := by
          rcases hL.reads with e | ⟨y, e⟩ <;> rw [e]
          · exact hx
          · rw [List.getElem?_append_left hjl]; exact hx
        have sg := got_row hx
        have sg' := got_row hx'
        have hd : decide ((j : Int) < (T.reads.length : Int)) = true := by simp; omega
        clear hx hx'
        have hkn := fun k (hk : blk (.slice aw2 T.reads.length cw2) = some k) => HN3.out.seen.known hk
        rcases HN4.out.seen with ⟨_, e⟩ | ⟨bw, c2, e2, hcap, hbw⟩
        · rw [e] at hjl; cases hjl
        rcases HR4.out with ⟨_, e⟩ | ⟨b4, c3, e3, hcap4, hb4⟩
        · have := hll.out; rw [e] at this; simp at this; omega
        cases e2
        cases e3
        have hne : ¬ bw = b4 := fun e => by subst e; exact hkn _ rfl (HM4.out.2 _ rfl)
        have hne2 : ¬ b4 = bw := fun e => hne e.symm
        have np : ¬ bw = pw := fun e => by subst e; rw [upd_same] at hbw; cases hbw
        have np4 : ¬ b4 = pw := fun e => by subst e; rw [upd_same] at hb4; cases hb4
        rw [upd_ne _ _ np] at hbw
        rw [upd_ne _ _ np4] at hb4
        obtain ⟨τ', rfl⟩ : ∃ τ', τ = upd (upd τ' bw _) b4 _ := ⟨τ, by rw [upd_self hbw, upd_self hb4]⟩
        clear hbw hb4 hkn
        simp only [none_upd] at x3
        have np' : ¬ pw = bw := fun e => np e.symm
        have np4' : ¬ pw = b4 := fun e => np4 e.symm
        have hjl' : j < T'.reads.length := by have := hll.out; omega
        simp (config := { contextual := true, dsimp := false }) only [*, TxS.cells, TxS.view, Msg.cells, Op.cells, ↓reduceIte, ↓evP, evQ, if_true, if_false, eq_self, binv, eqv, lenv, fillO, splice, fldv, Sp.eqa, eqL, eq1, Nat.reduceAdd, Nat.reduceEqDiff, Nat.reduceLeDiff, Nat.reduceMul, reduceCtorEq, Int.reduceLT, Int.reduceLE, Int.reduceGT, Int.reduceGE, Int.reduceEq, Int.reduceNeg]
        refine ⟨by omega, by omega, keep_of (T.reads.length - (j + 1)) (by omega) (by simp only [List.map_cons, List.map_nil, ↓putO_get, ↓putO_no, init_zero, init_succ, Nat.reduceEqDiff, ↓reduceIte, *]) (by (first | exact Sub.refl _ | ((repeat (first | exact Sub.refl _ | (refine Sub.drop ?_ ?_; focus (simp only [none_upd, none_set, not_false_eq_true, true_and, and_true, *]; done)) | refine Sub.both ?_)); done))) ⟨j + 1, by omega, rfl, ?_⟩⟩
        show Value.int .i64 (IntKind.i64.wrap _) = _; rw [wi64 (by omega)]; rfl
      · have hd : decide ((j : Int) < (T.reads.length : Int)) = false := by simp; omega
        simp (config := { contextual := true, dsimp := false }) only [*, TxS.cells, TxS.view, Msg.cells, Op.cells, ↓reduceIte, ↓evP, evQ, if_true, if_false, eq_self, binv, eqv, lenv, fillO, splice, fldv, Sp.eqa, eqL, eq1, Nat.reduceAdd, Nat.reduceEqDiff, Nat.reduceLeDiff, Nat.reduceMul, reduceCtorEq, Int.reduceLT, Int.reduceLE, Int.reduceGT, Int.reduceGE, Int.reduceEq, Int.reduceNeg]
        refine nextF_of (script.length - (i + 1)) (by omega) (σ₁ := upd τ pw (.cells (T'.view (.slice a4 T'.reads.length c4)) 45)) ?_ ⟨i + 1, T', v1, .slice a4 T'.reads.length c4, .slice a7 took1.length c7, took1, by omega, rfl, ?_, (by first | rfl | (simp only [↓putO_get, ↓putO_no, init_zero, init_succ, Nat.reduceEqDiff, ↓reduceIte, *]; done) | (simp only [↓putO_get, ↓putO_no, init_zero, init_succ, Nat.reduceEqDiff, ↓reduceIte, *]; rfl)), (by first | rfl | (simp only [↓putO_get, ↓putO_no, init_zero, init_succ, Nat.reduceEqDiff, ↓reduceIte, *]; done) | (simp only [↓putO_get, ↓putO_no, init_zero, init_succ, Nat.reduceEqDiff, ↓reduceIte, *]; rfl)), (by first | rfl | (simp only [↓putO_get, ↓putO_no, init_zero, init_succ, Nat.reduceEqDiff, ↓reduceIte, *]; done) | (simp only [↓putO_get, ↓putO_no, init_zero, init_succ, Nat.reduceEqDiff, ↓reduceIte, *]; rfl)), (by first | rfl | (simp only [↓putO_get, ↓putO_no, init_zero, init_succ, Nat.reduceEqDiff, ↓reduceIte, *]; done) | (simp only [↓putO_get, ↓putO_no, init_zero, init_succ, Nat.reduceEqDiff, ↓reduceIte, *]; rfl)), (by first | rfl | (simp only [↓putO_get, ↓putO_no, init_zero, init_succ, Nat.reduceEqDiff, ↓reduceIte, *]; done) | (simp only [↓putO_get, ↓putO_no, init_zero, init_succ, Nat.reduceEqDiff, ↓reduceIte, *]; rfl)), ?_, hR⟩
        · (first | exact Sub.refl _ | ((repeat (first | exact Sub.refl _ | (refine Sub.drop ?_ ?_; focus (simp only [none_upd, none_set, not_false_eq_true, true_and, and_true, *]; done)) | refine Sub.both ?_)); done))
        · show Value.int .i64 (IntKind.i64.wrap _) = _; rw [wi64 (by omega)]; rfl
        · refine HN4.out.see hpw0 (fun e => hgp e.symm) (by repeat (first | exact Same.refl _ _ | (refine Same.updNew ?_ ?_; focus (simp only [none_upd, none_set, not_false_eq_true, true_and, and_true, *]; done)) | (refine Same.both ?_ ?_; focus (first | exact rfl | exact .inl rfl | exact .inr rfl)) | (refine Same.updIn ?_ ?_; focus (first | exact rfl | exact .inl rfl | exact .inr rfl)) | refine Same.eq ?_)) (upd_same _ _ _) HR4.out (fun k hk e => ?_) (fun k hk e => ?_)
          · exact HN3.out.tx.known hk (HM4.out.2 k e)
          · exact HN3.out.taken.known hk (HM4.out.2 k e)
  · have hd : decide ((i : Int) < (script.length : Int)) = false := by simp; omega
    obtain ⟨a7, c7, rfl⟩ := hN.taken.slice
    obtain ⟨aw2, cw2, rfl⟩ := hN.seen.slice
    have hwas := hN.was
    have htg := hN.tx.1
    unfold TxS.view at hwas
    unfold TxS.cells at htg
    have hne1 : ¬ g = pw := fun e => hgp e.symm
    obtain ⟨τ, rfl⟩ : ∃ τ, σ' = upd (upd τ pw _) g _ := ⟨σ', by rw [upd_self hwas, upd_self htg]⟩
    have HNf := Hid.mk hN
    clear hN hwas htg
    have fin : (T.st = 0 ∧ ∃ cc, T.finish = (T.rests 3 0, cc, 0) ∧ T.lo ≤ cc ∧ cc < T.hi) ∨ ((T.st = 1 ∨ T.st = 2 ∨ T.st = 4) ∧ ∃ e, T.finish = (T, 0, e) ∧ e ≠ 0) := nar_finish hR h0 hR.top
    rcases fin with ⟨hst, cc, hf, f1, f2⟩ | ⟨hst, e, hf, he⟩
    · have p0 : decide (T.st = 0) = true := by simp [hst]
      have p1 : decide (cc ≥ T.lo) = true := by simp; omega
      have p2 : decide (cc < T.hi) = true := by simp; omega
      have p3 : decide ((T.rests 3 0).st = 3) = true := rfl
      clear hst
      simp (config := { contextual := true, dsimp := false }) only [*, TxS.cells, TxS.view, Msg.cells, Op.cells, ↓reduceIte, ↓evP, evQ, if_true, if_false, eq_self, binv, eqv, lenv, fillO, splice, fldv, Sp.eqa, eqL, eq1, Nat.reduceAdd, Nat.reduceEqDiff, Nat.reduceLeDiff, Nat.reduceMul, reduceCtorEq, Int.reduceLT, Int.reduceLE, Int.reduceGT, Int.reduceGE, Int.reduceEq, Int.reduceNeg]
      (repeat' (first | (refine condF_split (fun hc => ?_) (fun hc => ?_) <;> (try simp only [Bool.not_eq_true', Bool.not_eq_false', Bool.and_eq_true, Bool.or_eq_false_iff] at hc) <;> (try (simp (config := { contextual := true, dsimp := false }) only [*, TxS.cells, TxS.view, Msg.cells, Op.cells, ↓reduceIte, ↓evP, evQ, if_true, if_false, eq_self, binv, eqv, lenv, fillO, splice, fldv, Sp.eqa, eqL, eq1, Nat.reduceAdd, Nat.reduceEqDiff, Nat.reduceLeDiff, Nat.reduceMul, reduceCtorEq, Int.reduceLT, Int.reduceLE, Int.reduceGT, Int.reduceGE, Int.reduceEq, Int.reduceNeg]))) | (refine callF_v (finish13 (T := T) (v := v) (by first | rfl | (simp only [upd_same, upd_at, set_at, *, ↓reduceIte]; done) | (simp only [upd_same, upd_at, set_at, *, ↓reduceIte]; rfl))) ?_; (try (simp (config := { contextual := true, dsimp := false }) only [*, TxS.cells, TxS.view, Msg.cells, Op.cells, ↓reduceIte, ↓evP, evQ, if_true, if_false, eq_self, binv, eqv, lenv, fillO, splice, fldv, Sp.eqa, eqL, eq1, Nat.reduceAdd, Nat.reduceEqDiff, Nat.reduceLeDiff, Nat.reduceMul, reduceCtorEq, Int.reduceLT, Int.reduceLE, Int.reduceGT, Int.reduceGE, Int.reduceEq, Int.reduceNeg]))) | (refine ccallF_of (finish13 (T := T) (v := v) (by first | rfl | (simp only [upd_same, upd_at, set_at, *, ↓reduceIte]; done) | (simp only [upd_same, upd_at, set_at, *, ↓reduceIte]; rfl))) ?_; (try (simp (config := { contextual := true, dsimp := false }) only [*, TxS.cells, TxS.view, Msg.cells, Op.cells, ↓reduceIte, ↓evP, evQ, if_true, if_false, eq_self, binv, eqv, lenv, fillO, splice, fldv, Sp.eqa, eqL, eq1, Nat.reduceAdd, Nat.reduceEqDiff, Nat.reduceLeDiff, Nat.reduceMul, reduceCtorEq, Int.reduceLT, Int.reduceLE, Int.reduceGT, Int.reduceGE, Int.reduceEq, Int.reduceNeg]))) | (refine gcallF_of (finish13 (T := T) (v := v) (by first | rfl | (simp only [upd_same, upd_at, set_at, *, ↓reduceIte]; done) | (simp only [upd_same, upd_at, set_at, *, ↓reduceIte]; rfl))) ?_; (try (simp (config := { contextual := true, dsimp := false }) only [*, TxS.cells, TxS.view, Msg.cells, Op.cells, ↓reduceIte, ↓evP, evQ, if_true, if_false, eq_self, binv, eqv, lenv, fillO, splice, fldv, Sp.eqa, eqL, eq1, Nat.reduceAdd, Nat.reduceEqDiff, Nat.reduceLeDiff, Nat.reduceMul, reduceCtorEq, Int.reduceLT, Int.reduceLE, Int.reduceGT, Int.reduceGE, Int.reduceEq, Int.reduceNeg]))) | (intro _; intros) | ((refine And.intro ?_ ?_; focus (first | omega | (first | exact Sub.refl _ | ((repeat (first | exact Sub.refl _ | (refine Sub.drop ?_ ?_; focus (simp only [none_upd, none_set, not_false_eq_true, true_and, and_true, *]; done)) | refine Sub.both ?_)); done)) | ((simp only [decide_eq_true_eq, decide_eq_false_iff_not] at *); omega) | (simp_all; done) | (simp_all; omega))); (try (simp (config := { contextual := true, dsimp := false }) only [*, TxS.cells, TxS.view, Msg.cells, Op.cells, ↓reduceIte, ↓evP, evQ, if_true, if_false, eq_self, binv, eqv, lenv, fillO, splice, fldv, Sp.eqa, eqL, eq1, Nat.reduceAdd, Nat.reduceEqDiff, Nat.reduceLeDiff, Nat.reduceMul, reduceCtorEq, Int.reduceLT, Int.reduceLE, Int.reduceGT, Int.reduceGE, Int.reduceEq, Int.reduceNeg])))))
      refine loopF_keep [0, 1, 5, 6, 7, 13] (fun k s => ∃ j : Nat, j ≤ took.length ∧ k = took.length - j ∧ s 15 = .int .i64 j) took.length ⟨0, by omega, rfl, (by first | rfl | (simp only [↓putO_get, ↓putO_no, init_zero, init_succ, Nat.reduceEqDiff, ↓reduceIte, *]; done) | (simp only [↓putO_get, ↓putO_no, init_zero, init_succ, Nat.reduceEqDiff, ↓reduceIte, *]; rfl))⟩ ?_
      rintro k2 s2 hL2 ⟨j, hj, hk2, h15⟩
      simp only [List.map_cons, List.map_nil, ↓putO_get, ↓putO_no, init_zero, init_succ, Nat.reduceEqDiff, ↓reduceIte, List.cons.injEq, and_true] at hL2
      rcases Nat.lt_or_ge j took.length with hjl | hjl
      · obtain ⟨p, hp⟩ : ∃ p, took[j]? = some p := ⟨_, List.getElem?_eq_getElem hjl⟩
        have hpa := hR.all p (List.mem_of_getElem? hp)
        have z1 : decide (cc < p.lo) = false := by have := hpa.1; simp; omega
        have z2 : decide (cc ≥ p.hi) = false := by have := hpa.2; simp; omega
        have sg : (took.flatMap PinS.cells)[j * 2]? = some (.int .i64 p.lo) := get_flat PinS.cells_len hp 0 (by omega)
        have sg2 : (took.flatMap PinS.cells)[j * 2 + 1]? = some (.int .i64 p.hi) := get_flat PinS.cells_len hp 1 (by omega)
        have hd : decide ((j : Int) < (took.length : Int)) = true := by simp; omega
        have htb : took.length ≤ script.length := by have := hR.len; have := hR.inv.reads; omega
        clear hp hpa
        have nt1 := fun k (hk : blk (.slice a7 took.length c7) = some k) => HNf.out.taken.notCells HNf.out.tx.1
        have nt2 := fun k (hk : blk (.slice a7 took.length c7) = some k) => HNf.out.taken.notCells HNf.out.was
        rcases HNf.out.taken with ⟨_, e⟩ | ⟨bt, c2, e2, hcap, hbt⟩
        · rw [e] at hjl; cases hjl
        cases e2
        have n1 : ¬ bt = g := fun e => nt1 bt rfl (by rw [e]; rfl)
        have n2 : ¬ bt = pw := fun e => nt2 bt rfl (by rw [e]; rfl)
        rw [upd_ne _ _ n1, upd_ne _ _ n2] at hbt
        obtain ⟨τ', rfl⟩ := open_upd hbt
        clear hbt nt1 nt2
        simp (config := { contextual := true, dsimp := false }) only [*, TxS.cells, TxS.view, Msg.cells, Op.cells, ↓reduceIte, ↓evP, evQ, if_true, if_false, eq_self, binv, eqv, lenv, fillO, splice, fldv, Sp.eqa, eqL, eq1, Nat.reduceAdd, Nat.reduceEqDiff, Nat.reduceLeDiff, Nat.reduceMul, reduceCtorEq, Int.reduceLT, Int.reduceLE, Int.reduceGT, Int.reduceGE, Int.reduceEq, Int.reduceNeg]
        refine ⟨by omega, by omega, keep_of (took.length - (j + 1)) (by omega) (by simp only [List.map_cons, List.map_nil, ↓putO_get, ↓putO_no, init_zero, init_succ, Nat.reduceEqDiff, ↓reduceIte, *]) (by (first | exact Sub.refl _ | ((repeat (first | exact Sub.refl _ | (refine Sub.drop ?_ ?_; focus (simp only [none_upd, none_set, not_false_eq_true, true_and, and_true, *]; done)) | refine Sub.both ?_)); done))) ⟨j + 1, by omega, rfl, ?_⟩⟩
        show Value.int .i64 (IntKind.i64.wrap _) = _; rw [wi64 (by omega)]; rfl
      · have hd : decide ((j : Int) < (took.length : Int)) = false := by simp; omega
        have N5 : HN σ (upd (upd τ pw (.cells [.int .i64 T.st, .int .i64 T.er, .int .i64 T.lo, .int .i64 T.hi, .string T.key, .int .i64 T.seq, .int .i64 T.tr, .slice aw2 T.reads.length cw2] 45)) g (.cells ((T.rests 3 0).cells v) 67)) g pw (T.rests 3 0) v (.slice aw2 T.reads.length cw2) T (.slice a7 took.length c7) took :=
          HNf.out.keep hg hgp (by repeat (first | exact Same.refl _ _ | (refine Same.updNew ?_ ?_; focus (simp only [none_upd, none_set, not_false_eq_true, true_and, and_true, *]; done)) | (refine Same.both ?_ ?_; focus (first | exact rfl | exact .inl rfl | exact .inr rfl)) | (refine Same.updIn ?_ ?_; focus (first | exact rfl | exact .inl rfl | exact .inr rfl)) | refine Same.eq ?_)) (upd_same _ _ _) rfl
        have hrl : T.reads.length ≤ script.length := by have := hR.inv.reads; omega
        have HN5 := Hid.mk N5
        clear N5
        simp (config := { contextual := true, dsimp := false }) only [*, TxS.cells, TxS.view, Msg.cells, Op.cells, ↓reduceIte, ↓evP, evQ, if_true, if_false, eq_self, binv, eqv, lenv, fillO, splice, fldv, Sp.eqa, eqL, eq1, Nat.reduceAdd, Nat.reduceEqDiff, Nat.reduceLeDiff, Nat.reduceMul, reduceCtorEq, Int.reduceLT, Int.reduceLE, Int.reduceGT, Int.reduceGE, Int.reduceEq, Int.reduceNeg]
        refine callF_of (view15 HN5.out.tx (by show T.reads.length * 40 ≤ _; omega)) ?_
        rintro u σ9 ⟨v9, rfl, hR9, hM9⟩
        simp (config := { contextual := true, dsimp := false }) only [*, TxS.cells, TxS.view, Msg.cells, Op.cells, ↓reduceIte, ↓evP, evQ, if_true, if_false, eq_self, binv, eqv, lenv, fillO, splice, fldv, Sp.eqa, eqL, eq1, Nat.reduceAdd, Nat.reduceEqDiff, Nat.reduceLeDiff, Nat.reduceMul, reduceCtorEq, Int.reduceLT, Int.reduceLE, Int.reduceGT, Int.reduceGE, Int.reduceEq, Int.reduceNeg]
        exact endF_sub (HN5.out.sub.trans hM9.sub) ⟨rfl, rfl⟩
    · have hst := Hid.mk hst
      simp (config := { contextual := true, dsimp := false }) only [*, TxS.cells, TxS.view, Msg.cells, Op.cells, ↓reduceIte, ↓evP, evQ, if_true, if_false, eq_self, binv, eqv, lenv, fillO, splice, fldv, Sp.eqa, eqL, eq1, Nat.reduceAdd, Nat.reduceEqDiff, Nat.reduceLeDiff, Nat.reduceMul, reduceCtorEq, Int.reduceLT, Int.reduceLE, Int.reduceGT, Int.reduceGE, Int.reduceEq, Int.reduceNeg]
      (repeat' (first | (refine condF_split (fun hc => ?_) (fun hc => ?_) <;> (try simp only [Bool.not_eq_true', Bool.not_eq_false', Bool.and_eq_true, Bool.or_eq_false_iff] at hc) <;> (try (simp (config := { contextual := true, dsimp := false }) only [*, TxS.cells, TxS.view, Msg.cells, Op.cells, ↓reduceIte, ↓evP, evQ, if_true, if_false, eq_self, binv, eqv, lenv, fillO, splice, fldv, Sp.eqa, eqL, eq1, Nat.reduceAdd, Nat.reduceEqDiff, Nat.reduceLeDiff, Nat.reduceMul, reduceCtorEq, Int.reduceLT, Int.reduceLE, Int.reduceGT, Int.reduceGE, Int.reduceEq, Int.reduceNeg]))) | (refine callF_v (finish13 (T := T) (v := v) (by first | rfl | (simp only [upd_same, upd_at, set_at, *, ↓reduceIte]; done) | (simp only [upd_same, upd_at, set_at, *, ↓reduceIte]; rfl))) ?_; (try (simp (config := { contextual := true, dsimp := false }) only [*, TxS.cells, TxS.view, Msg.cells, Op.cells, ↓reduceIte, ↓evP, evQ, if_true, if_false, eq_self, binv, eqv, lenv, fillO, splice, fldv, Sp.eqa, eqL, eq1, Nat.reduceAdd, Nat.reduceEqDiff, Nat.reduceLeDiff, Nat.reduceMul, reduceCtorEq, Int.reduceLT, Int.reduceLE, Int.reduceGT, Int.reduceGE, Int.reduceEq, Int.reduceNeg]))) | (refine ccallF_of (finish13 (T := T) (v := v) (by first | rfl | (simp only [upd_same, upd_at, set_at, *, ↓reduceIte]; done) | (simp only [upd_same, upd_at, set_at, *, ↓reduceIte]; rfl))) ?_; (try (simp (config := { contextual := true, dsimp := false }) only [*, TxS.cells, TxS.view, Msg.cells, Op.cells, ↓reduceIte, ↓evP, evQ, if_true, if_false, eq_self, binv, eqv, lenv, fillO, splice, fldv, Sp.eqa, eqL, eq1, Nat.reduceAdd, Nat.reduceEqDiff, Nat.reduceLeDiff, Nat.reduceMul, reduceCtorEq, Int.reduceLT, Int.reduceLE, Int.reduceGT, Int.reduceGE, Int.reduceEq, Int.reduceNeg]))) | (refine gcallF_of (finish13 (T := T) (v := v) (by first | rfl | (simp only [upd_same, upd_at, set_at, *, ↓reduceIte]; done) | (simp only [upd_same, upd_at, set_at, *, ↓reduceIte]; rfl))) ?_; (try (simp (config := { contextual := true, dsimp := false }) only [*, TxS.cells, TxS.view, Msg.cells, Op.cells, ↓reduceIte, ↓evP, evQ, if_true, if_false, eq_self, binv, eqv, lenv, fillO, splice, fldv, Sp.eqa, eqL, eq1, Nat.reduceAdd, Nat.reduceEqDiff, Nat.reduceLeDiff, Nat.reduceMul, reduceCtorEq, Int.reduceLT, Int.reduceLE, Int.reduceGT, Int.reduceGE, Int.reduceEq, Int.reduceNeg]))) | (intro _; intros) | ((refine And.intro ?_ ?_; focus (first | omega | (first | exact Sub.refl _ | ((repeat (first | exact Sub.refl _ | (refine Sub.drop ?_ ?_; focus (simp only [none_upd, none_set, not_false_eq_true, true_and, and_true, *]; done)) | refine Sub.both ?_)); done)) | ((simp only [decide_eq_true_eq, decide_eq_false_iff_not] at *); omega) | (simp_all; done) | (simp_all; omega))); (try (simp (config := { contextual := true, dsimp := false }) only [*, TxS.cells, TxS.view, Msg.cells, Op.cells, ↓reduceIte, ↓evP, evQ, if_true, if_false, eq_self, binv, eqv, lenv, fillO, splice, fldv, Sp.eqa, eqL, eq1, Nat.reduceAdd, Nat.reduceEqDiff, Nat.reduceLeDiff, Nat.reduceMul, reduceCtorEq, Int.reduceLT, Int.reduceLE, Int.reduceGT, Int.reduceGE, Int.reduceEq, Int.reduceNeg])))))
      all_goals (refine endF_sub HNf.out.sub ⟨?_, rfl⟩)
      all_goals (have h := hst.out; clear HNf HK; ((try simp only [decide_eq_true_eq, decide_eq_false_iff_not] at *) <;> first | rfl | (rw [decide_eq_true (by omega)])))
end Go.Proofs.Ytmjpcpipacciiaa
