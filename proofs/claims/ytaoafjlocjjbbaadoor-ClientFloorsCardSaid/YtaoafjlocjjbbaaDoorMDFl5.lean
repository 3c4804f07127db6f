/- Texts of mine, part 5 of 6, laid together: A transaction begun. A client with its sessions and transactions, over a heap; one of them turned. A client's calls: just what its session's or its transaction's do. A client that opens and begins; its calls at real numbers. A client's calls at real numbers: what they answer, and what turns. Tokens, as plain texts: what is parsed of a token is its floor. The reference's tokens. The reference's Par No condition. -/
import Derived.Test.YtaoafjlocjjbbaaDoorMDFl4
-- D12
namespace Go.Proofs.YtaoafjlocjjbbaaDoor
open Go.Sp
set_option linter.unusedSimpArgs false
set_option linter.unusedVariables false
theorem begin32f {σ : Hp} {g : Nat} {c : Cfg} {vs vt vh : Value} {gs : List Nat} {ts : List (Nat × Nat)} (hg : σ g = some (.cells (CliC c vs vt vh) 124)) (hr : RowsAt 23 1 gC σ vs gs) (ht : RowsAt 128 2 rC σ vt ts) {i k : Nat} (hx : gs[i]? = some k) (hn : ts.length ≥ 256) :
    ACalls Tryd.prog 32 #[.pointer (some ⟨g, 0, none⟩), .int .i64 i] σ fun u σ' => u = .tuple #[.int .i64 0, .int .i64 2] ∧ σ' = σ := by
  have h60 := Hid.mk (session60i hg hr hx)
  obtain ⟨a, q, rfl⟩ := ht.slice
  clear hr ht hx
  have h1 : decide ((ts.length : Int) ≥ 256) = true := by simp; omega
  (unfold CliC at hg; obtain ⟨τ, rfl⟩ := open_upd hg; clear hg)
  (refine acalls_F ok32 (by simp) ?_; unfold c32 r32; simp (config := { contextual := true, dsimp := false }) only [CliC, ↓reduceIte, ↓evP, evQ, if_true, if_false, eq_self, binv, eqv, lenv, fillO, splice, fldv, Sp.eqa, eqL, eq1, Nat.reduceAdd, Nat.reduceEqDiff, Nat.reduceLeDiff, Nat.reduceMul, reduceCtorEq, Int.reduceLT, Int.reduceLE, Int.reduceGT, Int.reduceGE, Int.reduceEq, Int.reduceNeg])
  (try simp (config := { contextual := true, dsimp := false }) only [*, CliC, ↓reduceIte, ↓evP, evQ, if_true, if_false, eq_self, binv, eqv, lenv, fillO, splice, fldv, Sp.eqa, eqL, eq1, Nat.reduceAdd, Nat.reduceEqDiff, Nat.reduceLeDiff, Nat.reduceMul, reduceCtorEq, Int.reduceLT, Int.reduceLE, Int.reduceGT, Int.reduceGE, Int.reduceEq, Int.reduceNeg])
  (repeat' (first | (refine condF_split (fun hc => ?_) (fun hc => ?_) <;> (try simp only [Bool.not_eq_true', Bool.not_eq_false', Bool.and_eq_true, Bool.or_eq_false_iff] at hc) <;> (try (simp (config := { contextual := true, dsimp := false }) only [*, CliC, ↓reduceIte, ↓evP, evQ, if_true, if_false, eq_self, binv, eqv, lenv, fillO, splice, fldv, Sp.eqa, eqL, eq1, Nat.reduceAdd, Nat.reduceEqDiff, Nat.reduceLeDiff, Nat.reduceMul, reduceCtorEq, Int.reduceLT, Int.reduceLE, Int.reduceGT, Int.reduceGE, Int.reduceEq, Int.reduceNeg]))) | (refine callF_v (h60.out) ?_; (try (simp (config := { contextual := true, dsimp := false }) only [*, CliC, ↓reduceIte, ↓evP, evQ, if_true, if_false, eq_self, binv, eqv, lenv, fillO, splice, fldv, Sp.eqa, eqL, eq1, Nat.reduceAdd, Nat.reduceEqDiff, Nat.reduceLeDiff, Nat.reduceMul, reduceCtorEq, Int.reduceLT, Int.reduceLE, Int.reduceGT, Int.reduceGE, Int.reduceEq, Int.reduceNeg]))) | (refine ccallF_of (h60.out) ?_; (try (simp (config := { contextual := true, dsimp := false }) only [*, CliC, ↓reduceIte, ↓evP, evQ, if_true, if_false, eq_self, binv, eqv, lenv, fillO, splice, fldv, Sp.eqa, eqL, eq1, Nat.reduceAdd, Nat.reduceEqDiff, Nat.reduceLeDiff, Nat.reduceMul, reduceCtorEq, Int.reduceLT, Int.reduceLE, Int.reduceGT, Int.reduceGE, Int.reduceEq, Int.reduceNeg]))) | (refine gcallF_of (h60.out) ?_; (try (simp (config := { contextual := true, dsimp := false }) only [*, CliC, ↓reduceIte, ↓evP, evQ, if_true, if_false, eq_self, binv, eqv, lenv, fillO, splice, fldv, Sp.eqa, eqL, eq1, Nat.reduceAdd, Nat.reduceEqDiff, Nat.reduceLeDiff, Nat.reduceMul, reduceCtorEq, Int.reduceLT, Int.reduceLE, Int.reduceGT, Int.reduceGE, Int.reduceEq, Int.reduceNeg]))) | (intro _; intros) | ((refine And.intro ?_ ?_; focus (first | omega | (first | exact Sub.refl _ | ((repeat (first | exact Sub.refl _ | (refine Sub.drop ?_ ?_; focus (simp only [none_upd, none_set, not_false_eq_true, true_and, and_true, *]; done)) | refine Sub.both ?_)); done)) | ((simp only [decide_eq_true_eq, decide_eq_false_iff_not] at *); omega) | (simp_all; done) | (simp_all; omega))); (try (simp (config := { contextual := true, dsimp := false }) only [*, CliC, ↓reduceIte, ↓evP, evQ, if_true, if_false, eq_self, binv, eqv, lenv, fillO, splice, fldv, Sp.eqa, eqL, eq1, Nat.reduceAdd, Nat.reduceEqDiff, Nat.reduceLeDiff, Nat.reduceMul, reduceCtorEq, Int.reduceLT, Int.reduceLE, Int.reduceGT, Int.reduceGE, Int.reduceEq, Int.reduceNeg])))))
  all_goals (refine endF_det ?_ ?_; (focus ((try simp only [cond_true, cond_false, *]) <;> ((try simp only [decide_eq_true_eq, decide_eq_false_iff_not] at *) <;> first | rfl | (simp []; done) | (simp_all []; done) | (simp []; omega) | (simp []; (rw [Bool.eq_iff_iff]); simp; omega) | (simp_all [] <;> omega) | ((try unfold id); (rw [Value.bool.injEq, Bool.eq_iff_iff]); simp <;> omega) | ((try unfold id); (repeat' split) <;> simp_all <;> omega) | (simp_all [] <;> (repeat' split) <;> simp_all <;> omega)))); (focus ((try simp only [cond_true, cond_false, set_same, *]); exact (by (first | exact Sub.refl _ | ((repeat (first | exact Sub.refl _ | (refine Sub.drop ?_ ?_; focus (simp only [none_upd, none_set, not_false_eq_true, true_and, and_true, *]; done)) | refine Sub.both ?_)); done))))))
/-- What a beginning leaves: the new transaction at k. -/
def Begun (σ : Hp) (g : Nat) (c : Cfg) (vs vt vh : Value) (ts : List (Nat × Nat)) (hs : List Int) (k : Nat) (i : Int) (floor : Int) (σ' : Hp) : Prop :=
  ∃ t vt' vh', σ t = none ∧ σ' g = some (.cells (CliC c vs vt' vh') 124) ∧ RowsAt 128 2 rC σ' vt' (ts ++ [(t, k)]) ∧ RowsAt 3 1 iC σ' vh' (hs ++ [i]) ∧ σ' t = some (.cells ((newT ts.length c.nodes floor).cells (.slice none 0 0)) 150) ∧
    Same (fun j => j = g ∨ blk vt = some j ∨ blk vh = some j) σ σ' ∧ (∀ j, blk vt' = some j → blk vt = some j ∨ σ j = none) ∧ (∀ j, blk vh' = some j → blk vh = some j ∨ σ j = none)
theorem ts_snoc (ts : List (Nat × Nat)) (t k : Nat) : ts.flatMap rC ++ [.pointer (some ⟨t, 0, none⟩), .pointer (some ⟨k, 0, none⟩)] = (ts ++ [(t, k)]).flatMap rC := by simp [rC]
theorem hs_snoc (hs : List Int) (i : Int) : hs.flatMap iC ++ [.int .i64 i] = (hs ++ [i]).flatMap iC := by simp [iC]
set_option maxHeartbeats 1000000 in
theorem begin32 {σ : Hp} {g : Nat} {c : Cfg} {vs vt vh : Value} {gs : List Nat} {ts : List (Nat × Nat)} {hs : List Int} {S : SesS} {v : Value} (hg : σ g = some (.cells (CliC c vs vt vh) 124)) (hr : RowsAt 23 1 gC σ vs gs) (ht : RowsAt 128 2 rC σ vt ts) (hh : RowsAt 3 1 iC σ vh hs)
    {i k : Nat} (hx : gs[i]? = some k) (hk : σ k = some (.cells (S.cells v) 101)) (hn : ts.length < 256) (hm : hs.length < 256) :
    ACalls Tryd.prog 32 #[.pointer (some ⟨g, 0, none⟩), .int .i64 i] σ fun u σ' => u = .tuple #[.int .i64 ts.length, .int .i64 0] ∧ Begun σ g c vs vt vh ts hs k i S.floor σ' := by
  have h60 := Hid.mk (session60i hg hr hx)
  have h26 := Hid.mk (floor26 hk)
  have h1 : decide ((ts.length : Int) ≥ 256) = false := by simp; omega
  have hgk : ¬ g = k := fun e => by subst e; exact absurd (Blk.cells.inj (Option.some.inj (hg.symm.trans hk))).2 (by decide)
  have hk0 : σ k ≠ none := by rw [hk]; simp
  clear hr hx hk
  unfold CliC at hg
  rcases ht with ⟨rfl, rfl⟩ | ⟨b, q, rfl, hq, hb⟩ <;> rcases hh with ⟨rfl, rfl⟩ | ⟨d, r, rfl, hr, hd⟩
  · obtain ⟨τ, rfl⟩ := open_upd hg
    clear hg
    (refine acalls_F ok32 (by simp) ?_; unfold c32 r32; simp (config := { contextual := true, dsimp := false }) only [CliC, ↓reduceIte, ↓evP, evQ, if_true, if_false, eq_self, binv, eqv, lenv, fillO, splice, fldv, Sp.eqa, eqL, eq1, Nat.reduceAdd, Nat.reduceEqDiff, Nat.reduceLeDiff, Nat.reduceMul, reduceCtorEq, Int.reduceLT, Int.reduceLE, Int.reduceGT, Int.reduceGE, Int.reduceEq, Int.reduceNeg])
    (try simp (config := { contextual := true, dsimp := false }) only [*, CliC, ↓reduceIte, ↓evP, evQ, if_true, if_false, eq_self, binv, eqv, lenv, fillO, splice, fldv, Sp.eqa, eqL, eq1, Nat.reduceAdd, Nat.reduceEqDiff, Nat.reduceLeDiff, Nat.reduceMul, reduceCtorEq, Int.reduceLT, Int.reduceLE, Int.reduceGT, Int.reduceGE, Int.reduceEq, Int.reduceNeg])
    (repeat' (first | (refine condF_split (fun hc => ?_) (fun hc => ?_) <;> (try simp only [Bool.not_eq_true', Bool.not_eq_false', Bool.and_eq_true, Bool.or_eq_false_iff] at hc) <;> (try (simp (config := { contextual := true, dsimp := false }) only [*, CliC, ↓reduceIte, ↓evP, evQ, if_true, if_false, eq_self, binv, eqv, lenv, fillO, splice, fldv, Sp.eqa, eqL, eq1, Nat.reduceAdd, Nat.reduceEqDiff, Nat.reduceLeDiff, Nat.reduceMul, reduceCtorEq, Int.reduceLT, Int.reduceLE, Int.reduceGT, Int.reduceGE, Int.reduceEq, Int.reduceNeg]))) | (refine callF_v (h60.out) ?_; (try (simp (config := { contextual := true, dsimp := false }) only [*, CliC, ↓reduceIte, ↓evP, evQ, if_true, if_false, eq_self, binv, eqv, lenv, fillO, splice, fldv, Sp.eqa, eqL, eq1, Nat.reduceAdd, Nat.reduceEqDiff, Nat.reduceLeDiff, Nat.reduceMul, reduceCtorEq, Int.reduceLT, Int.reduceLE, Int.reduceGT, Int.reduceGE, Int.reduceEq, Int.reduceNeg]))) | (refine callF_v (h26.out) ?_; (try (simp (config := { contextual := true, dsimp := false }) only [*, CliC, ↓reduceIte, ↓evP, evQ, if_true, if_false, eq_self, binv, eqv, lenv, fillO, splice, fldv, Sp.eqa, eqL, eq1, Nat.reduceAdd, Nat.reduceEqDiff, Nat.reduceLeDiff, Nat.reduceMul, reduceCtorEq, Int.reduceLT, Int.reduceLE, Int.reduceGT, Int.reduceGE, Int.reduceEq, Int.reduceNeg]))) | (refine ccallF_of (h60.out) ?_; (try (simp (config := { contextual := true, dsimp := false }) only [*, CliC, ↓reduceIte, ↓evP, evQ, if_true, if_false, eq_self, binv, eqv, lenv, fillO, splice, fldv, Sp.eqa, eqL, eq1, Nat.reduceAdd, Nat.reduceEqDiff, Nat.reduceLeDiff, Nat.reduceMul, reduceCtorEq, Int.reduceLT, Int.reduceLE, Int.reduceGT, Int.reduceGE, Int.reduceEq, Int.reduceNeg]))) | (refine ccallF_of (h26.out) ?_; (try (simp (config := { contextual := true, dsimp := false }) only [*, CliC, ↓reduceIte, ↓evP, evQ, if_true, if_false, eq_self, binv, eqv, lenv, fillO, splice, fldv, Sp.eqa, eqL, eq1, Nat.reduceAdd, Nat.reduceEqDiff, Nat.reduceLeDiff, Nat.reduceMul, reduceCtorEq, Int.reduceLT, Int.reduceLE, Int.reduceGT, Int.reduceGE, Int.reduceEq, Int.reduceNeg]))) | (refine gcallF_of (h60.out) ?_; (try (simp (config := { contextual := true, dsimp := false }) only [*, CliC, ↓reduceIte, ↓evP, evQ, if_true, if_false, eq_self, binv, eqv, lenv, fillO, splice, fldv, Sp.eqa, eqL, eq1, Nat.reduceAdd, Nat.reduceEqDiff, Nat.reduceLeDiff, Nat.reduceMul, reduceCtorEq, Int.reduceLT, Int.reduceLE, Int.reduceGT, Int.reduceGE, Int.reduceEq, Int.reduceNeg]))) | (refine gcallF_of (h26.out) ?_; (try (simp (config := { contextual := true, dsimp := false }) only [*, CliC, ↓reduceIte, ↓evP, evQ, if_true, if_false, eq_self, binv, eqv, lenv, fillO, splice, fldv, Sp.eqa, eqL, eq1, Nat.reduceAdd, Nat.reduceEqDiff, Nat.reduceLeDiff, Nat.reduceMul, reduceCtorEq, Int.reduceLT, Int.reduceLE, Int.reduceGT, Int.reduceGE, Int.reduceEq, Int.reduceNeg]))) | (intro _; intros) | ((refine And.intro ?_ ?_; focus (first | omega | (first | exact Sub.refl _ | ((repeat (first | exact Sub.refl _ | (refine Sub.drop ?_ ?_; focus (simp only [none_upd, none_set, not_false_eq_true, true_and, and_true, *]; done)) | refine Sub.both ?_)); done)) | ((simp only [decide_eq_true_eq, decide_eq_false_iff_not] at *); omega) | (simp_all; done) | (simp_all; omega))); (try (simp (config := { contextual := true, dsimp := false }) only [*, CliC, ↓reduceIte, ↓evP, evQ, if_true, if_false, eq_self, binv, eqv, lenv, fillO, splice, fldv, Sp.eqa, eqL, eq1, Nat.reduceAdd, Nat.reduceEqDiff, Nat.reduceLeDiff, Nat.reduceMul, reduceCtorEq, Int.reduceLT, Int.reduceLE, Int.reduceGT, Int.reduceGE, Int.reduceEq, Int.reduceNeg])))))
    refine gcallF_first (new61 _ _ _ _) (fun u σ₁ h => ?_) ?_
    · obtain ⟨t, ht, _, rfl⟩ := h; exact Sub.drop ht (Sub.refl _)
    rintro u σ₁ ⟨t, ht0, rfl, rfl⟩
    clear h60 h26
    simp only [none_upd] at ht0
    simp (config := { contextual := true, dsimp := false }) only [*, CliC, ↓reduceIte, ↓evP, evQ, if_true, if_false, eq_self, binv, eqv, lenv, fillO, splice, fldv, Sp.eqa, eqL, eq1, Nat.reduceAdd, Nat.reduceEqDiff, Nat.reduceLeDiff, Nat.reduceMul, reduceCtorEq, Int.reduceLT, Int.reduceLE, Int.reduceGT, Int.reduceGE, Int.reduceEq, Int.reduceNeg]
    (repeat' (first | (refine condF_split (fun hc => ?_) (fun hc => ?_) <;> (try simp only [Bool.not_eq_true', Bool.not_eq_false', Bool.and_eq_true, Bool.or_eq_false_iff] at hc) <;> (try (simp (config := { contextual := true, dsimp := false }) only [*, CliC, ↓reduceIte, ↓evP, evQ, if_true, if_false, eq_self, binv, eqv, lenv, fillO, splice, fldv, Sp.eqa, eqL, eq1, Nat.reduceAdd, Nat.reduceEqDiff, Nat.reduceLeDiff, Nat.reduceMul, reduceCtorEq, Int.reduceLT, Int.reduceLE, Int.reduceGT, Int.reduceGE, Int.reduceEq, Int.reduceNeg]))) | (intro _; intros) | ((refine And.intro ?_ ?_; focus (first | omega | (first | exact Sub.refl _ | ((repeat (first | exact Sub.refl _ | (refine Sub.drop ?_ ?_; focus (simp only [none_upd, none_set, not_false_eq_true, true_and, and_true, *]; done)) | refine Sub.both ?_)); done)) | ((simp only [decide_eq_true_eq, decide_eq_false_iff_not] at *); omega) | (simp_all; done) | (simp_all; omega))); (try (simp (config := { contextual := true, dsimp := false }) only [*, CliC, ↓reduceIte, ↓evP, evQ, if_true, if_false, eq_self, binv, eqv, lenv, fillO, splice, fldv, Sp.eqa, eqL, eq1, Nat.reduceAdd, Nat.reduceEqDiff, Nat.reduceLeDiff, Nat.reduceMul, reduceCtorEq, Int.reduceLT, Int.reduceLE, Int.reduceGT, Int.reduceGE, Int.reduceEq, Int.reduceNeg])))))
    refine app_n (by first | (simp only [Nat.reduceMul, Nat.one_mul, Nat.zero_mul, rdn_row, rdn_same, rdn_ne, seg_zero, seg_cons, seg_skip, Option.map_some, not_false_eq_true, *]; done) | (simp only [Nat.reduceMul, Nat.one_mul, Nat.zero_mul, rdn_row, rdn_same, rdn_ne, seg_zero, seg_cons, seg_skip, Option.map_some, not_false_eq_true, *]; exact rfl)) rfl (by omega) (by omega) (by unfold maxLen; omega) ?_
    (try simp (config := { contextual := true, dsimp := false }) only [*, CliC, ↓reduceIte, ↓evP, evQ, if_true, if_false, eq_self, binv, eqv, lenv, fillO, splice, fldv, Sp.eqa, eqL, eq1, Nat.reduceAdd, Nat.reduceEqDiff, Nat.reduceLeDiff, Nat.reduceMul, reduceCtorEq, Int.reduceLT, Int.reduceLE, Int.reduceGT, Int.reduceGE, Int.reduceEq, Int.reduceNeg])
    (repeat' (first | (refine condF_split (fun hc => ?_) (fun hc => ?_) <;> (try simp only [Bool.not_eq_true', Bool.not_eq_false', Bool.and_eq_true, Bool.or_eq_false_iff] at hc) <;> (try (simp (config := { contextual := true, dsimp := false }) only [*, CliC, ↓reduceIte, ↓evP, evQ, if_true, if_false, eq_self, binv, eqv, lenv, fillO, splice, fldv, Sp.eqa, eqL, eq1, Nat.reduceAdd, Nat.reduceEqDiff, Nat.reduceLeDiff, Nat.reduceMul, reduceCtorEq, Int.reduceLT, Int.reduceLE, Int.reduceGT, Int.reduceGE, Int.reduceEq, Int.reduceNeg]))) | (intro _; intros) | ((refine And.intro ?_ ?_; focus (first | omega | (first | exact Sub.refl _ | ((repeat (first | exact Sub.refl _ | (refine Sub.drop ?_ ?_; focus (simp only [none_upd, none_set, not_false_eq_true, true_and, and_true, *]; done)) | refine Sub.both ?_)); done)) | ((simp only [decide_eq_true_eq, decide_eq_false_iff_not] at *); omega) | (simp_all; done) | (simp_all; omega))); (try (simp (config := { contextual := true, dsimp := false }) only [*, CliC, ↓reduceIte, ↓evP, evQ, if_true, if_false, eq_self, binv, eqv, lenv, fillO, splice, fldv, Sp.eqa, eqL, eq1, Nat.reduceAdd, Nat.reduceEqDiff, Nat.reduceLeDiff, Nat.reduceMul, reduceCtorEq, Int.reduceLT, Int.reduceLE, Int.reduceGT, Int.reduceGE, Int.reduceEq, Int.reduceNeg])))))
    all_goals (refine app_n (by first | (simp only [Nat.reduceMul, Nat.one_mul, Nat.zero_mul, rdn_row, rdn_same, rdn_ne, seg_zero, seg_cons, seg_skip, Option.map_some, not_false_eq_true, *]; done) | (simp only [Nat.reduceMul, Nat.one_mul, Nat.zero_mul, rdn_row, rdn_same, rdn_ne, seg_zero, seg_cons, seg_skip, Option.map_some, not_false_eq_true, *]; exact rfl)) rfl (by omega) (by omega) (by unfold maxLen; omega) ?_)
    all_goals (try simp (config := { contextual := true, dsimp := false }) only [*, CliC, ↓reduceIte, ↓evP, evQ, if_true, if_false, eq_self, binv, eqv, lenv, fillO, splice, fldv, Sp.eqa, eqL, eq1, Nat.reduceAdd, Nat.reduceEqDiff, Nat.reduceLeDiff, Nat.reduceMul, reduceCtorEq, Int.reduceLT, Int.reduceLE, Int.reduceGT, Int.reduceGE, Int.reduceEq, Int.reduceNeg])
    all_goals (repeat' (first | (refine condF_split (fun hc => ?_) (fun hc => ?_) <;> (try simp only [Bool.not_eq_true', Bool.not_eq_false', Bool.and_eq_true, Bool.or_eq_false_iff] at hc) <;> (try (simp (config := { contextual := true, dsimp := false }) only [*, CliC, ↓reduceIte, ↓evP, evQ, if_true, if_false, eq_self, binv, eqv, lenv, fillO, splice, fldv, Sp.eqa, eqL, eq1, Nat.reduceAdd, Nat.reduceEqDiff, Nat.reduceLeDiff, Nat.reduceMul, reduceCtorEq, Int.reduceLT, Int.reduceLE, Int.reduceGT, Int.reduceGE, Int.reduceEq, Int.reduceNeg]))) | (intro _; intros) | ((refine And.intro ?_ ?_; focus (first | omega | (first | exact Sub.refl _ | ((repeat (first | exact Sub.refl _ | (refine Sub.drop ?_ ?_; focus (simp only [none_upd, none_set, not_false_eq_true, true_and, and_true, *]; done)) | refine Sub.both ?_)); done)) | ((simp only [decide_eq_true_eq, decide_eq_false_iff_not] at *); omega) | (simp_all; done) | (simp_all; omega))); (try (simp (config := { contextual := true, dsimp := false }) only [*, CliC, ↓reduceIte, ↓evP, evQ, if_true, if_false, eq_self, binv, eqv, lenv, fillO, splice, fldv, Sp.eqa, eqL, eq1, Nat.reduceAdd, Nat.reduceEqDiff, Nat.reduceLeDiff, Nat.reduceMul, reduceCtorEq, Int.reduceLT, Int.reduceLE, Int.reduceGT, Int.reduceGE, Int.reduceEq, Int.reduceNeg])))))
    all_goals (refine endF_at ⟨rfl, t, .slice (some ⟨_, 0, none⟩) 1 _, .slice (some ⟨_, 0, none⟩) 1 _, (by simp only [none_upd, none_set, not_false_eq_true, true_and, and_true, *]; done), (by first | (simp only [upd_at, *, ↓reduceIte]; done) | (simp only [upd_at, *, ↓reduceIte]; rfl)), rows_mk (by simp) (by assumption) (by first | (simp only [upd_at, *, ↓reduceIte]; done) | (simp only [upd_at, *, ↓reduceIte]; rfl)), rows_mk (by simp) (by assumption) (by first | (simp only [upd_at, *, ↓reduceIte]; done) | (simp only [upd_at, *, ↓reduceIte]; rfl)), (by first | (simp only [upd_at, *, ↓reduceIte]; done) | (simp only [upd_at, *, ↓reduceIte]; rfl)), (by repeat (first | exact Same.refl _ _ | (refine Same.updNew ?_ ?_; focus (simp only [none_upd, none_set, not_false_eq_true, true_and, and_true, *]; done)) | (refine Same.both ?_ ?_; focus (first | exact rfl | exact .inl rfl | exact .inr rfl | exact .inr (.inl rfl) | exact .inr (.inr rfl) | exact .inr (.inr (.inl rfl)) | exact .inr (.inr (.inr rfl)))) | (refine Same.updIn ?_ ?_; focus (first | exact rfl | exact .inl rfl | exact .inr rfl | exact .inr (.inl rfl) | exact .inr (.inr rfl) | exact .inr (.inr (.inl rfl)) | exact .inr (.inr (.inr rfl)))) | refine Same.eq ?_)), ?_, ?_⟩)
    all_goals (intro j hj; cases hj; first | exact .inl rfl | exact .inr (by simp only [none_upd, none_set, not_false_eq_true, true_and, and_true, *]; done))
  · obtain ⟨τ, rfl, e1, e2⟩ := open_two hg hd (by simp)
    clear hg hd
    (refine acalls_F ok32 (by simp) ?_; unfold c32 r32; simp (config := { contextual := true, dsimp := false }) only [CliC, ↓reduceIte, ↓evP, evQ, if_true, if_false, eq_self, binv, eqv, lenv, fillO, splice, fldv, Sp.eqa, eqL, eq1, Nat.reduceAdd, Nat.reduceEqDiff, Nat.reduceLeDiff, Nat.reduceMul, reduceCtorEq, Int.reduceLT, Int.reduceLE, Int.reduceGT, Int.reduceGE, Int.reduceEq, Int.reduceNeg])
    (try simp (config := { contextual := true, dsimp := false }) only [*, CliC, ↓reduceIte, ↓evP, evQ, if_true, if_false, eq_self, binv, eqv, lenv, fillO, splice, fldv, Sp.eqa, eqL, eq1, Nat.reduceAdd, Nat.reduceEqDiff, Nat.reduceLeDiff, Nat.reduceMul, reduceCtorEq, Int.reduceLT, Int.reduceLE, Int.reduceGT, Int.reduceGE, Int.reduceEq, Int.reduceNeg])
    (repeat' (first | (refine condF_split (fun hc => ?_) (fun hc => ?_) <;> (try simp only [Bool.not_eq_true', Bool.not_eq_false', Bool.and_eq_true, Bool.or_eq_false_iff] at hc) <;> (try (simp (config := { contextual := true, dsimp := false }) only [*, CliC, ↓reduceIte, ↓evP, evQ, if_true, if_false, eq_self, binv, eqv, lenv, fillO, splice, fldv, Sp.eqa, eqL, eq1, Nat.reduceAdd, Nat.reduceEqDiff, Nat.reduceLeDiff, Nat.reduceMul, reduceCtorEq, Int.reduceLT, Int.reduceLE, Int.reduceGT, Int.reduceGE, Int.reduceEq, Int.reduceNeg]))) | (refine callF_v (h60.out) ?_; (try (simp (config := { contextual := true, dsimp := false }) only [*, CliC, ↓reduceIte, ↓evP, evQ, if_true, if_false, eq_self, binv, eqv, lenv, fillO, splice, fldv, Sp.eqa, eqL, eq1, Nat.reduceAdd, Nat.reduceEqDiff, Nat.reduceLeDiff, Nat.reduceMul, reduceCtorEq, Int.reduceLT, Int.reduceLE, Int.reduceGT, Int.reduceGE, Int.reduceEq, Int.reduceNeg]))) | (refine callF_v (h26.out) ?_; (try (simp (config := { contextual := true, dsimp := false }) only [*, CliC, ↓reduceIte, ↓evP, evQ, if_true, if_false, eq_self, binv, eqv, lenv, fillO, splice, fldv, Sp.eqa, eqL, eq1, Nat.reduceAdd, Nat.reduceEqDiff, Nat.reduceLeDiff, Nat.reduceMul, reduceCtorEq, Int.reduceLT, Int.reduceLE, Int.reduceGT, Int.reduceGE, Int.reduceEq, Int.reduceNeg]))) | (refine ccallF_of (h60.out) ?_; (try (simp (config := { contextual := true, dsimp := false }) only [*, CliC, ↓reduceIte, ↓evP, evQ, if_true, if_false, eq_self, binv, eqv, lenv, fillO, splice, fldv, Sp.eqa, eqL, eq1, Nat.reduceAdd, Nat.reduceEqDiff, Nat.reduceLeDiff, Nat.reduceMul, reduceCtorEq, Int.reduceLT, Int.reduceLE, Int.reduceGT, Int.reduceGE, Int.reduceEq, Int.reduceNeg]))) | (refine ccallF_of (h26.out) ?_; (try (simp (config := { contextual := true, dsimp := false }) only [*, CliC, ↓reduceIte, ↓evP, evQ, if_true, if_false, eq_self, binv, eqv, lenv, fillO, splice, fldv, Sp.eqa, eqL, eq1, Nat.reduceAdd, Nat.reduceEqDiff, Nat.reduceLeDiff, Nat.reduceMul, reduceCtorEq, Int.reduceLT, Int.reduceLE, Int.reduceGT, Int.reduceGE, Int.reduceEq, Int.reduceNeg]))) | (refine gcallF_of (h60.out) ?_; (try (simp (config := { contextual := true, dsimp := false }) only [*, CliC, ↓reduceIte, ↓evP, evQ, if_true, if_false, eq_self, binv, eqv, lenv, fillO, splice, fldv, Sp.eqa, eqL, eq1, Nat.reduceAdd, Nat.reduceEqDiff, Nat.reduceLeDiff, Nat.reduceMul, reduceCtorEq, Int.reduceLT, Int.reduceLE, Int.reduceGT, Int.reduceGE, Int.reduceEq, Int.reduceNeg]))) | (refine gcallF_of (h26.out) ?_; (try (simp (config := { contextual := true, dsimp := false }) only [*, CliC, ↓reduceIte, ↓evP, evQ, if_true, if_false, eq_self, binv, eqv, lenv, fillO, splice, fldv, Sp.eqa, eqL, eq1, Nat.reduceAdd, Nat.reduceEqDiff, Nat.reduceLeDiff, Nat.reduceMul, reduceCtorEq, Int.reduceLT, Int.reduceLE, Int.reduceGT, Int.reduceGE, Int.reduceEq, Int.reduceNeg]))) | (intro _; intros) | ((refine And.intro ?_ ?_; focus (first | omega | (first | exact Sub.refl _ | ((repeat (first | exact Sub.refl _ | (refine Sub.drop ?_ ?_; focus (simp only [none_upd, none_set, not_false_eq_true, true_and, and_true, *]; done)) | refine Sub.both ?_)); done)) | ((simp only [decide_eq_true_eq, decide_eq_false_iff_not] at *); omega) | (simp_all; done) | (simp_all; omega))); (try (simp (config := { contextual := true, dsimp := false }) only [*, CliC, ↓reduceIte, ↓evP, evQ, if_true, if_false, eq_self, binv, eqv, lenv, fillO, splice, fldv, Sp.eqa, eqL, eq1, Nat.reduceAdd, Nat.reduceEqDiff, Nat.reduceLeDiff, Nat.reduceMul, reduceCtorEq, Int.reduceLT, Int.reduceLE, Int.reduceGT, Int.reduceGE, Int.reduceEq, Int.reduceNeg])))))
    refine gcallF_first (new61 _ _ _ _) (fun u σ₁ h => ?_) ?_
    · obtain ⟨t, ht, _, rfl⟩ := h; exact Sub.drop ht (Sub.refl _)
    rintro u σ₁ ⟨t, ht0, rfl, rfl⟩
    clear h60 h26
    simp only [none_upd] at ht0
    simp (config := { contextual := true, dsimp := false }) only [*, CliC, ↓reduceIte, ↓evP, evQ, if_true, if_false, eq_self, binv, eqv, lenv, fillO, splice, fldv, Sp.eqa, eqL, eq1, Nat.reduceAdd, Nat.reduceEqDiff, Nat.reduceLeDiff, Nat.reduceMul, reduceCtorEq, Int.reduceLT, Int.reduceLE, Int.reduceGT, Int.reduceGE, Int.reduceEq, Int.reduceNeg]
    (repeat' (first | (refine condF_split (fun hc => ?_) (fun hc => ?_) <;> (try simp only [Bool.not_eq_true', Bool.not_eq_false', Bool.and_eq_true, Bool.or_eq_false_iff] at hc) <;> (try (simp (config := { contextual := true, dsimp := false }) only [*, CliC, ↓reduceIte, ↓evP, evQ, if_true, if_false, eq_self, binv, eqv, lenv, fillO, splice, fldv, Sp.eqa, eqL, eq1, Nat.reduceAdd, Nat.reduceEqDiff, Nat.reduceLeDiff, Nat.reduceMul, reduceCtorEq, Int.reduceLT, Int.reduceLE, Int.reduceGT, Int.reduceGE, Int.reduceEq, Int.reduceNeg]))) | (intro _; intros) | ((refine And.intro ?_ ?_; focus (first | omega | (first | exact Sub.refl _ | ((repeat (first | exact Sub.refl _ | (refine Sub.drop ?_ ?_; focus (simp only [none_upd, none_set, not_false_eq_true, true_and, and_true, *]; done)) | refine Sub.both ?_)); done)) | ((simp only [decide_eq_true_eq, decide_eq_false_iff_not] at *); omega) | (simp_all; done) | (simp_all; omega))); (try (simp (config := { contextual := true, dsimp := false }) only [*, CliC, ↓reduceIte, ↓evP, evQ, if_true, if_false, eq_self, binv, eqv, lenv, fillO, splice, fldv, Sp.eqa, eqL, eq1, Nat.reduceAdd, Nat.reduceEqDiff, Nat.reduceLeDiff, Nat.reduceMul, reduceCtorEq, Int.reduceLT, Int.reduceLE, Int.reduceGT, Int.reduceGE, Int.reduceEq, Int.reduceNeg])))))
    refine app_n (by first | (simp only [Nat.reduceMul, Nat.one_mul, Nat.zero_mul, rdn_row, rdn_same, rdn_ne, seg_zero, seg_cons, seg_skip, Option.map_some, not_false_eq_true, *]; done) | (simp only [Nat.reduceMul, Nat.one_mul, Nat.zero_mul, rdn_row, rdn_same, rdn_ne, seg_zero, seg_cons, seg_skip, Option.map_some, not_false_eq_true, *]; exact rfl)) rfl (by omega) (by omega) (by unfold maxLen; omega) ?_
    (try simp (config := { contextual := true, dsimp := false }) only [*, CliC, ↓reduceIte, ↓evP, evQ, if_true, if_false, eq_self, binv, eqv, lenv, fillO, splice, fldv, Sp.eqa, eqL, eq1, Nat.reduceAdd, Nat.reduceEqDiff, Nat.reduceLeDiff, Nat.reduceMul, reduceCtorEq, Int.reduceLT, Int.reduceLE, Int.reduceGT, Int.reduceGE, Int.reduceEq, Int.reduceNeg])
    (repeat' (first | (refine condF_split (fun hc => ?_) (fun hc => ?_) <;> (try simp only [Bool.not_eq_true', Bool.not_eq_false', Bool.and_eq_true, Bool.or_eq_false_iff] at hc) <;> (try (simp (config := { contextual := true, dsimp := false }) only [*, CliC, ↓reduceIte, ↓evP, evQ, if_true, if_false, eq_self, binv, eqv, lenv, fillO, splice, fldv, Sp.eqa, eqL, eq1, Nat.reduceAdd, Nat.reduceEqDiff, Nat.reduceLeDiff, Nat.reduceMul, reduceCtorEq, Int.reduceLT, Int.reduceLE, Int.reduceGT, Int.reduceGE, Int.reduceEq, Int.reduceNeg]))) | (intro _; intros) | ((refine And.intro ?_ ?_; focus (first | omega | (first | exact Sub.refl _ | ((repeat (first | exact Sub.refl _ | (refine Sub.drop ?_ ?_; focus (simp only [none_upd, none_set, not_false_eq_true, true_and, and_true, *]; done)) | refine Sub.both ?_)); done)) | ((simp only [decide_eq_true_eq, decide_eq_false_iff_not] at *); omega) | (simp_all; done) | (simp_all; omega))); (try (simp (config := { contextual := true, dsimp := false }) only [*, CliC, ↓reduceIte, ↓evP, evQ, if_true, if_false, eq_self, binv, eqv, lenv, fillO, splice, fldv, Sp.eqa, eqL, eq1, Nat.reduceAdd, Nat.reduceEqDiff, Nat.reduceLeDiff, Nat.reduceMul, reduceCtorEq, Int.reduceLT, Int.reduceLE, Int.reduceGT, Int.reduceGE, Int.reduceEq, Int.reduceNeg])))))
    all_goals (refine app_b (by first | (simp only [Nat.reduceMul, Nat.one_mul, Nat.zero_mul, rdn_row, rdn_same, rdn_ne, seg_zero, seg_cons, seg_skip, Option.map_some, not_false_eq_true, *]; done) | (simp only [Nat.reduceMul, Nat.one_mul, Nat.zero_mul, rdn_row, rdn_same, rdn_ne, seg_zero, seg_cons, seg_skip, Option.map_some, not_false_eq_true, *]; exact rfl)) rfl (by simp only [upd_at, *, ↓reduceIte]) (flat_len iC_len _) (by omega) (by omega) (by unfold maxLen; omega) ?_ ?_)
    all_goals rw [hs_snoc]
    all_goals simp (config := { contextual := true, dsimp := false }) only [*, CliC, ↓reduceIte, ↓evP, evQ, if_true, if_false, eq_self, binv, eqv, lenv, fillO, splice, fldv, Sp.eqa, eqL, eq1, Nat.reduceAdd, Nat.reduceEqDiff, Nat.reduceLeDiff, Nat.reduceMul, reduceCtorEq, Int.reduceLT, Int.reduceLE, Int.reduceGT, Int.reduceGE, Int.reduceEq, Int.reduceNeg]
    all_goals (repeat' (first | (refine condF_split (fun hc => ?_) (fun hc => ?_) <;> (try simp only [Bool.not_eq_true', Bool.not_eq_false', Bool.and_eq_true, Bool.or_eq_false_iff] at hc) <;> (try (simp (config := { contextual := true, dsimp := false }) only [*, CliC, ↓reduceIte, ↓evP, evQ, if_true, if_false, eq_self, binv, eqv, lenv, fillO, splice, fldv, Sp.eqa, eqL, eq1, Nat.reduceAdd, Nat.reduceEqDiff, Nat.reduceLeDiff, Nat.reduceMul, reduceCtorEq, Int.reduceLT, Int.reduceLE, Int.reduceGT, Int.reduceGE, Int.reduceEq, Int.reduceNeg]))) | (intro _; intros) | ((refine And.intro ?_ ?_; focus (first | omega | (first | exact Sub.refl _ | ((repeat (first | exact Sub.refl _ | (refine Sub.drop ?_ ?_; focus (simp only [none_upd, none_set, not_false_eq_true, true_and, and_true, *]; done)) | refine Sub.both ?_)); done)) | ((simp only [decide_eq_true_eq, decide_eq_false_iff_not] at *); omega) | (simp_all; done) | (simp_all; omega))); (try (simp (config := { contextual := true, dsimp := false }) only [*, CliC, ↓reduceIte, ↓evP, evQ, if_true, if_false, eq_self, binv, eqv, lenv, fillO, splice, fldv, Sp.eqa, eqL, eq1, Nat.reduceAdd, Nat.reduceEqDiff, Nat.reduceLeDiff, Nat.reduceMul, reduceCtorEq, Int.reduceLT, Int.reduceLE, Int.reduceGT, Int.reduceGE, Int.reduceEq, Int.reduceNeg])))))
    all_goals (refine endF_at ⟨rfl, t, .slice (some ⟨_, 0, none⟩) 1 _, .slice (some ⟨_, 0, none⟩) (hs.length + 1) _, (by simp only [none_upd, none_set, not_false_eq_true, true_and, and_true, *]; done), (by first | (simp only [upd_at, *, ↓reduceIte]; done) | (simp only [upd_at, *, ↓reduceIte]; rfl)), rows_mk (by simp) (by assumption) (by first | (simp only [upd_at, *, ↓reduceIte]; done) | (simp only [upd_at, *, ↓reduceIte]; rfl)), rows_mk (by simp) (by assumption) (by first | (simp only [upd_at, *, ↓reduceIte]; done) | (simp only [upd_at, *, ↓reduceIte]; rfl)), (by first | (simp only [upd_at, *, ↓reduceIte]; done) | (simp only [upd_at, *, ↓reduceIte]; rfl)), (by repeat (first | exact Same.refl _ _ | (refine Same.updNew ?_ ?_; focus (simp only [none_upd, none_set, not_false_eq_true, true_and, and_true, *]; done)) | (refine Same.both ?_ ?_; focus (first | exact rfl | exact .inl rfl | exact .inr rfl | exact .inr (.inl rfl) | exact .inr (.inr rfl) | exact .inr (.inr (.inl rfl)) | exact .inr (.inr (.inr rfl)))) | (refine Same.updIn ?_ ?_; focus (first | exact rfl | exact .inl rfl | exact .inr rfl | exact .inr (.inl rfl) | exact .inr (.inr rfl) | exact .inr (.inr (.inl rfl)) | exact .inr (.inr (.inr rfl)))) | refine Same.eq ?_)), ?_, ?_⟩)
    all_goals (intro j hj; cases hj; first | exact .inl rfl | exact .inr (by simp only [none_upd, none_set, not_false_eq_true, true_and, and_true, *]; done))
  · obtain ⟨τ, rfl, e1, e2⟩ := open_two hg hb (by simp)
    clear hg hb
    (refine acalls_F ok32 (by simp) ?_; unfold c32 r32; simp (config := { contextual := true, dsimp := false }) only [CliC, ↓reduceIte, ↓evP, evQ, if_true, if_false, eq_self, binv, eqv, lenv, fillO, splice, fldv, Sp.eqa, eqL, eq1, Nat.reduceAdd, Nat.reduceEqDiff, Nat.reduceLeDiff, Nat.reduceMul, reduceCtorEq, Int.reduceLT, Int.reduceLE, Int.reduceGT, Int.reduceGE, Int.reduceEq, Int.reduceNeg])
    (try simp (config := { contextual := true, dsimp := false }) only [*, CliC, ↓reduceIte, ↓evP, evQ, if_true, if_false, eq_self, binv, eqv, lenv, fillO, splice, fldv, Sp.eqa, eqL, eq1, Nat.reduceAdd, Nat.reduceEqDiff, Nat.reduceLeDiff, Nat.reduceMul, reduceCtorEq, Int.reduceLT, Int.reduceLE, Int.reduceGT, Int.reduceGE, Int.reduceEq, Int.reduceNeg])
    (repeat' (first | (refine condF_split (fun hc => ?_) (fun hc => ?_) <;> (try simp only [Bool.not_eq_true', Bool.not_eq_false', Bool.and_eq_true, Bool.or_eq_false_iff] at hc) <;> (try (simp (config := { contextual := true, dsimp := false }) only [*, CliC, ↓reduceIte, ↓evP, evQ, if_true, if_false, eq_self, binv, eqv, lenv, fillO, splice, fldv, Sp.eqa, eqL, eq1, Nat.reduceAdd, Nat.reduceEqDiff, Nat.reduceLeDiff, Nat.reduceMul, reduceCtorEq, Int.reduceLT, Int.reduceLE, Int.reduceGT, Int.reduceGE, Int.reduceEq, Int.reduceNeg]))) | (refine callF_v (h60.out) ?_; (try (simp (config := { contextual := true, dsimp := false }) only [*, CliC, ↓reduceIte, ↓evP, evQ, if_true, if_false, eq_self, binv, eqv, lenv, fillO, splice, fldv, Sp.eqa, eqL, eq1, Nat.reduceAdd, Nat.reduceEqDiff, Nat.reduceLeDiff, Nat.reduceMul, reduceCtorEq, Int.reduceLT, Int.reduceLE, Int.reduceGT, Int.reduceGE, Int.reduceEq, Int.reduceNeg]))) | (refine callF_v (h26.out) ?_; (try (simp (config := { contextual := true, dsimp := false }) only [*, CliC, ↓reduceIte, ↓evP, evQ, if_true, if_false, eq_self, binv, eqv, lenv, fillO, splice, fldv, Sp.eqa, eqL, eq1, Nat.reduceAdd, Nat.reduceEqDiff, Nat.reduceLeDiff, Nat.reduceMul, reduceCtorEq, Int.reduceLT, Int.reduceLE, Int.reduceGT, Int.reduceGE, Int.reduceEq, Int.reduceNeg]))) | (refine ccallF_of (h60.out) ?_; (try (simp (config := { contextual := true, dsimp := false }) only [*, CliC, ↓reduceIte, ↓evP, evQ, if_true, if_false, eq_self, binv, eqv, lenv, fillO, splice, fldv, Sp.eqa, eqL, eq1, Nat.reduceAdd, Nat.reduceEqDiff, Nat.reduceLeDiff, Nat.reduceMul, reduceCtorEq, Int.reduceLT, Int.reduceLE, Int.reduceGT, Int.reduceGE, Int.reduceEq, Int.reduceNeg]))) | (refine ccallF_of (h26.out) ?_; (try (simp (config := { contextual := true, dsimp := false }) only [*, CliC, ↓reduceIte, ↓evP, evQ, if_true, if_false, eq_self, binv, eqv, lenv, fillO, splice, fldv, Sp.eqa, eqL, eq1, Nat.reduceAdd, Nat.reduceEqDiff, Nat.reduceLeDiff, Nat.reduceMul, reduceCtorEq, Int.reduceLT, Int.reduceLE, Int.reduceGT, Int.reduceGE, Int.reduceEq, Int.reduceNeg]))) | (refine gcallF_of (h60.out) ?_; (try (simp (config := { contextual := true, dsimp := false }) only [*, CliC, ↓reduceIte, ↓evP, evQ, if_true, if_false, eq_self, binv, eqv, lenv, fillO, splice, fldv, Sp.eqa, eqL, eq1, Nat.reduceAdd, Nat.reduceEqDiff, Nat.reduceLeDiff, Nat.reduceMul, reduceCtorEq, Int.reduceLT, Int.reduceLE, Int.reduceGT, Int.reduceGE, Int.reduceEq, Int.reduceNeg]))) | (refine gcallF_of (h26.out) ?_; (try (simp (config := { contextual := true, dsimp := false }) only [*, CliC, ↓reduceIte, ↓evP, evQ, if_true, if_false, eq_self, binv, eqv, lenv, fillO, splice, fldv, Sp.eqa, eqL, eq1, Nat.reduceAdd, Nat.reduceEqDiff, Nat.reduceLeDiff, Nat.reduceMul, reduceCtorEq, Int.reduceLT, Int.reduceLE, Int.reduceGT, Int.reduceGE, Int.reduceEq, Int.reduceNeg]))) | (intro _; intros) | ((refine And.intro ?_ ?_; focus (first | omega | (first | exact Sub.refl _ | ((repeat (first | exact Sub.refl _ | (refine Sub.drop ?_ ?_; focus (simp only [none_upd, none_set, not_false_eq_true, true_and, and_true, *]; done)) | refine Sub.both ?_)); done)) | ((simp only [decide_eq_true_eq, decide_eq_false_iff_not] at *); omega) | (simp_all; done) | (simp_all; omega))); (try (simp (config := { contextual := true, dsimp := false }) only [*, CliC, ↓reduceIte, ↓evP, evQ, if_true, if_false, eq_self, binv, eqv, lenv, fillO, splice, fldv, Sp.eqa, eqL, eq1, Nat.reduceAdd, Nat.reduceEqDiff, Nat.reduceLeDiff, Nat.reduceMul, reduceCtorEq, Int.reduceLT, Int.reduceLE, Int.reduceGT, Int.reduceGE, Int.reduceEq, Int.reduceNeg])))))
    refine gcallF_first (new61 _ _ _ _) (fun u σ₁ h => ?_) ?_
    · obtain ⟨t, ht, _, rfl⟩ := h; exact Sub.drop ht (Sub.refl _)
    rintro u σ₁ ⟨t, ht0, rfl, rfl⟩
    clear h60 h26
    simp only [none_upd] at ht0
    simp (config := { contextual := true, dsimp := false }) only [*, CliC, ↓reduceIte, ↓evP, evQ, if_true, if_false, eq_self, binv, eqv, lenv, fillO, splice, fldv, Sp.eqa, eqL, eq1, Nat.reduceAdd, Nat.reduceEqDiff, Nat.reduceLeDiff, Nat.reduceMul, reduceCtorEq, Int.reduceLT, Int.reduceLE, Int.reduceGT, Int.reduceGE, Int.reduceEq, Int.reduceNeg]
    (repeat' (first | (refine condF_split (fun hc => ?_) (fun hc => ?_) <;> (try simp only [Bool.not_eq_true', Bool.not_eq_false', Bool.and_eq_true, Bool.or_eq_false_iff] at hc) <;> (try (simp (config := { contextual := true, dsimp := false }) only [*, CliC, ↓reduceIte, ↓evP, evQ, if_true, if_false, eq_self, binv, eqv, lenv, fillO, splice, fldv, Sp.eqa, eqL, eq1, Nat.reduceAdd, Nat.reduceEqDiff, Nat.reduceLeDiff, Nat.reduceMul, reduceCtorEq, Int.reduceLT, Int.reduceLE, Int.reduceGT, Int.reduceGE, Int.reduceEq, Int.reduceNeg]))) | (intro _; intros) | ((refine And.intro ?_ ?_; focus (first | omega | (first | exact Sub.refl _ | ((repeat (first | exact Sub.refl _ | (refine Sub.drop ?_ ?_; focus (simp only [none_upd, none_set, not_false_eq_true, true_and, and_true, *]; done)) | refine Sub.both ?_)); done)) | ((simp only [decide_eq_true_eq, decide_eq_false_iff_not] at *); omega) | (simp_all; done) | (simp_all; omega))); (try (simp (config := { contextual := true, dsimp := false }) only [*, CliC, ↓reduceIte, ↓evP, evQ, if_true, if_false, eq_self, binv, eqv, lenv, fillO, splice, fldv, Sp.eqa, eqL, eq1, Nat.reduceAdd, Nat.reduceEqDiff, Nat.reduceLeDiff, Nat.reduceMul, reduceCtorEq, Int.reduceLT, Int.reduceLE, Int.reduceGT, Int.reduceGE, Int.reduceEq, Int.reduceNeg])))))
    refine app_b (by first | (simp only [Nat.reduceMul, Nat.one_mul, Nat.zero_mul, rdn_row, rdn_same, rdn_ne, seg_zero, seg_cons, seg_skip, Option.map_some, not_false_eq_true, *]; done) | (simp only [Nat.reduceMul, Nat.one_mul, Nat.zero_mul, rdn_row, rdn_same, rdn_ne, seg_zero, seg_cons, seg_skip, Option.map_some, not_false_eq_true, *]; exact rfl)) rfl (by simp only [upd_at, *, ↓reduceIte]) (flat_len rC_len _) (by omega) (by omega) (by unfold maxLen; omega) ?_ ?_
    all_goals rw [ts_snoc]
    all_goals simp (config := { contextual := true, dsimp := false }) only [*, CliC, ↓reduceIte, ↓evP, evQ, if_true, if_false, eq_self, binv, eqv, lenv, fillO, splice, fldv, Sp.eqa, eqL, eq1, Nat.reduceAdd, Nat.reduceEqDiff, Nat.reduceLeDiff, Nat.reduceMul, reduceCtorEq, Int.reduceLT, Int.reduceLE, Int.reduceGT, Int.reduceGE, Int.reduceEq, Int.reduceNeg]
    all_goals (repeat' (first | (refine condF_split (fun hc => ?_) (fun hc => ?_) <;> (try simp only [Bool.not_eq_true', Bool.not_eq_false', Bool.and_eq_true, Bool.or_eq_false_iff] at hc) <;> (try (simp (config := { contextual := true, dsimp := false }) only [*, CliC, ↓reduceIte, ↓evP, evQ, if_true, if_false, eq_self, binv, eqv, lenv, fillO, splice, fldv, Sp.eqa, eqL, eq1, Nat.reduceAdd, Nat.reduceEqDiff, Nat.reduceLeDiff, Nat.reduceMul, reduceCtorEq, Int.reduceLT, Int.reduceLE, Int.reduceGT, Int.reduceGE, Int.reduceEq, Int.reduceNeg]))) | (intro _; intros) | ((refine And.intro ?_ ?_; focus (first | omega | (first | exact Sub.refl _ | ((repeat (first | exact Sub.refl _ | (refine Sub.drop ?_ ?_; focus (simp only [none_upd, none_set, not_false_eq_true, true_and, and_true, *]; done)) | refine Sub.both ?_)); done)) | ((simp only [decide_eq_true_eq, decide_eq_false_iff_not] at *); omega) | (simp_all; done) | (simp_all; omega))); (try (simp (config := { contextual := true, dsimp := false }) only [*, CliC, ↓reduceIte, ↓evP, evQ, if_true, if_false, eq_self, binv, eqv, lenv, fillO, splice, fldv, Sp.eqa, eqL, eq1, Nat.reduceAdd, Nat.reduceEqDiff, Nat.reduceLeDiff, Nat.reduceMul, reduceCtorEq, Int.reduceLT, Int.reduceLE, Int.reduceGT, Int.reduceGE, Int.reduceEq, Int.reduceNeg])))))
    all_goals (refine app_n (by first | (simp only [Nat.reduceMul, Nat.one_mul, Nat.zero_mul, rdn_row, rdn_same, rdn_ne, seg_zero, seg_cons, seg_skip, Option.map_some, not_false_eq_true, *]; done) | (simp only [Nat.reduceMul, Nat.one_mul, Nat.zero_mul, rdn_row, rdn_same, rdn_ne, seg_zero, seg_cons, seg_skip, Option.map_some, not_false_eq_true, *]; exact rfl)) rfl (by omega) (by omega) (by unfold maxLen; omega) ?_)
    all_goals (try simp (config := { contextual := true, dsimp := false }) only [*, CliC, ↓reduceIte, ↓evP, evQ, if_true, if_false, eq_self, binv, eqv, lenv, fillO, splice, fldv, Sp.eqa, eqL, eq1, Nat.reduceAdd, Nat.reduceEqDiff, Nat.reduceLeDiff, Nat.reduceMul, reduceCtorEq, Int.reduceLT, Int.reduceLE, Int.reduceGT, Int.reduceGE, Int.reduceEq, Int.reduceNeg])
    all_goals (repeat' (first | (refine condF_split (fun hc => ?_) (fun hc => ?_) <;> (try simp only [Bool.not_eq_true', Bool.not_eq_false', Bool.and_eq_true, Bool.or_eq_false_iff] at hc) <;> (try (simp (config := { contextual := true, dsimp := false }) only [*, CliC, ↓reduceIte, ↓evP, evQ, if_true, if_false, eq_self, binv, eqv, lenv, fillO, splice, fldv, Sp.eqa, eqL, eq1, Nat.reduceAdd, Nat.reduceEqDiff, Nat.reduceLeDiff, Nat.reduceMul, reduceCtorEq, Int.reduceLT, Int.reduceLE, Int.reduceGT, Int.reduceGE, Int.reduceEq, Int.reduceNeg]))) | (intro _; intros) | ((refine And.intro ?_ ?_; focus (first | omega | (first | exact Sub.refl _ | ((repeat (first | exact Sub.refl _ | (refine Sub.drop ?_ ?_; focus (simp only [none_upd, none_set, not_false_eq_true, true_and, and_true, *]; done)) | refine Sub.both ?_)); done)) | ((simp only [decide_eq_true_eq, decide_eq_false_iff_not] at *); omega) | (simp_all; done) | (simp_all; omega))); (try (simp (config := { contextual := true, dsimp := false }) only [*, CliC, ↓reduceIte, ↓evP, evQ, if_true, if_false, eq_self, binv, eqv, lenv, fillO, splice, fldv, Sp.eqa, eqL, eq1, Nat.reduceAdd, Nat.reduceEqDiff, Nat.reduceLeDiff, Nat.reduceMul, reduceCtorEq, Int.reduceLT, Int.reduceLE, Int.reduceGT, Int.reduceGE, Int.reduceEq, Int.reduceNeg])))))
    all_goals (refine endF_at ⟨rfl, t, .slice (some ⟨_, 0, none⟩) (ts.length + 1) _, .slice (some ⟨_, 0, none⟩) 1 _, (by simp only [none_upd, none_set, not_false_eq_true, true_and, and_true, *]; done), (by first | (simp only [upd_at, *, ↓reduceIte]; done) | (simp only [upd_at, *, ↓reduceIte]; rfl)), rows_mk (by simp) (by assumption) (by first | (simp only [upd_at, *, ↓reduceIte]; done) | (simp only [upd_at, *, ↓reduceIte]; rfl)), rows_mk (by simp) (by assumption) (by first | (simp only [upd_at, *, ↓reduceIte]; done) | (simp only [upd_at, *, ↓reduceIte]; rfl)), (by first | (simp only [upd_at, *, ↓reduceIte]; done) | (simp only [upd_at, *, ↓reduceIte]; rfl)), (by repeat (first | exact Same.refl _ _ | (refine Same.updNew ?_ ?_; focus (simp only [none_upd, none_set, not_false_eq_true, true_and, and_true, *]; done)) | (refine Same.both ?_ ?_; focus (first | exact rfl | exact .inl rfl | exact .inr rfl | exact .inr (.inl rfl) | exact .inr (.inr rfl) | exact .inr (.inr (.inl rfl)) | exact .inr (.inr (.inr rfl)))) | (refine Same.updIn ?_ ?_; focus (first | exact rfl | exact .inl rfl | exact .inr rfl | exact .inr (.inl rfl) | exact .inr (.inr rfl) | exact .inr (.inr (.inl rfl)) | exact .inr (.inr (.inr rfl)))) | refine Same.eq ?_)), ?_, ?_⟩)
    all_goals (intro j hj; cases hj; first | exact .inl rfl | exact .inr (by simp only [none_upd, none_set, not_false_eq_true, true_and, and_true, *]; done))
  · have e1 : ¬ g = b := fun e => by subst e; rw [hg] at hb; cases hb
    have e2 : ¬ g = d := fun e => by subst e; rw [hg] at hd; cases hd
    have e3 : ¬ b = d := fun e => by subst e; exact absurd (Blk.row.inj (Option.some.inj (hb.symm.trans hd))).2.2 (by decide)
    have e4 : ¬ b = g := fun e => e1 e.symm
    have e5 : ¬ d = g := fun e => e2 e.symm
    have e6 : ¬ d = b := fun e => e3 e.symm
    obtain ⟨τ, rfl⟩ := open_3 hg hb hd
    clear hg hb hd
    (refine acalls_F ok32 (by simp) ?_; unfold c32 r32; simp (config := { contextual := true, dsimp := false }) only [CliC, ↓reduceIte, ↓evP, evQ, if_true, if_false, eq_self, binv, eqv, lenv, fillO, splice, fldv, Sp.eqa, eqL, eq1, Nat.reduceAdd, Nat.reduceEqDiff, Nat.reduceLeDiff, Nat.reduceMul, reduceCtorEq, Int.reduceLT, Int.reduceLE, Int.reduceGT, Int.reduceGE, Int.reduceEq, Int.reduceNeg])
    (try simp (config := { contextual := true, dsimp := false }) only [*, CliC, ↓reduceIte, ↓evP, evQ, if_true, if_false, eq_self, binv, eqv, lenv, fillO, splice, fldv, Sp.eqa, eqL, eq1, Nat.reduceAdd, Nat.reduceEqDiff, Nat.reduceLeDiff, Nat.reduceMul, reduceCtorEq, Int.reduceLT, Int.reduceLE, Int.reduceGT, Int.reduceGE, Int.reduceEq, Int.reduceNeg])
    (repeat' (first | (refine condF_split (fun hc => ?_) (fun hc => ?_) <;> (try simp only [Bool.not_eq_true', Bool.not_eq_false', Bool.and_eq_true, Bool.or_eq_false_iff] at hc) <;> (try (simp (config := { contextual := true, dsimp := false }) only [*, CliC, ↓reduceIte, ↓evP, evQ, if_true, if_false, eq_self, binv, eqv, lenv, fillO, splice, fldv, Sp.eqa, eqL, eq1, Nat.reduceAdd, Nat.reduceEqDiff, Nat.reduceLeDiff, Nat.reduceMul, reduceCtorEq, Int.reduceLT, Int.reduceLE, Int.reduceGT, Int.reduceGE, Int.reduceEq, Int.reduceNeg]))) | (refine callF_v (h60.out) ?_; (try (simp (config := { contextual := true, dsimp := false }) only [*, CliC, ↓reduceIte, ↓evP, evQ, if_true, if_false, eq_self, binv, eqv, lenv, fillO, splice, fldv, Sp.eqa, eqL, eq1, Nat.reduceAdd, Nat.reduceEqDiff, Nat.reduceLeDiff, Nat.reduceMul, reduceCtorEq, Int.reduceLT, Int.reduceLE, Int.reduceGT, Int.reduceGE, Int.reduceEq, Int.reduceNeg]))) | (refine callF_v (h26.out) ?_; (try (simp (config := { contextual := true, dsimp := false }) only [*, CliC, ↓reduceIte, ↓evP, evQ, if_true, if_false, eq_self, binv, eqv, lenv, fillO, splice, fldv, Sp.eqa, eqL, eq1, Nat.reduceAdd, Nat.reduceEqDiff, Nat.reduceLeDiff, Nat.reduceMul, reduceCtorEq, Int.reduceLT, Int.reduceLE, Int.reduceGT, Int.reduceGE, Int.reduceEq, Int.reduceNeg]))) | (refine ccallF_of (h60.out) ?_; (try (simp (config := { contextual := true, dsimp := false }) only [*, CliC, ↓reduceIte, ↓evP, evQ, if_true, if_false, eq_self, binv, eqv, lenv, fillO, splice, fldv, Sp.eqa, eqL, eq1, Nat.reduceAdd, Nat.reduceEqDiff, Nat.reduceLeDiff, Nat.reduceMul, reduceCtorEq, Int.reduceLT, Int.reduceLE, Int.reduceGT, Int.reduceGE, Int.reduceEq, Int.reduceNeg]))) | (refine ccallF_of (h26.out) ?_; (try (simp (config := { contextual := true, dsimp := false }) only [*, CliC, ↓reduceIte, ↓evP, evQ, if_true, if_false, eq_self, binv, eqv, lenv, fillO, splice, fldv, Sp.eqa, eqL, eq1, Nat.reduceAdd, Nat.reduceEqDiff, Nat.reduceLeDiff, Nat.reduceMul, reduceCtorEq, Int.reduceLT, Int.reduceLE, Int.reduceGT, Int.reduceGE, Int.reduceEq, Int.reduceNeg]))) | (refine gcallF_of (h60.out) ?_; (try (simp (config := { contextual := true, dsimp := false }) only [*, CliC, ↓reduceIte, ↓evP, evQ, if_true, if_false, eq_self, binv, eqv, lenv, fillO, splice, fldv, Sp.eqa, eqL, eq1, Nat.reduceAdd, Nat.reduceEqDiff, Nat.reduceLeDiff, Nat.reduceMul, reduceCtorEq, Int.reduceLT, Int.reduceLE, Int.reduceGT, Int.reduceGE, Int.reduceEq, Int.reduceNeg]))) | (refine gcallF_of (h26.out) ?_; (try (simp (config := { contextual := true, dsimp := false }) only [*, CliC, ↓reduceIte, ↓evP, evQ, if_true, if_false, eq_self, binv, eqv, lenv, fillO, splice, fldv, Sp.eqa, eqL, eq1, Nat.reduceAdd, Nat.reduceEqDiff, Nat.reduceLeDiff, Nat.reduceMul, reduceCtorEq, Int.reduceLT, Int.reduceLE, Int.reduceGT, Int.reduceGE, Int.reduceEq, Int.reduceNeg]))) | (intro _; intros) | ((refine And.intro ?_ ?_; focus (first | omega | (first | exact Sub.refl _ | ((repeat (first | exact Sub.refl _ | (refine Sub.drop ?_ ?_; focus (simp only [none_upd, none_set, not_false_eq_true, true_and, and_true, *]; done)) | refine Sub.both ?_)); done)) | ((simp only [decide_eq_true_eq, decide_eq_false_iff_not] at *); omega) | (simp_all; done) | (simp_all; omega))); (try (simp (config := { contextual := true, dsimp := false }) only [*, CliC, ↓reduceIte, ↓evP, evQ, if_true, if_false, eq_self, binv, eqv, lenv, fillO, splice, fldv, Sp.eqa, eqL, eq1, Nat.reduceAdd, Nat.reduceEqDiff, Nat.reduceLeDiff, Nat.reduceMul, reduceCtorEq, Int.reduceLT, Int.reduceLE, Int.reduceGT, Int.reduceGE, Int.reduceEq, Int.reduceNeg])))))
    refine gcallF_first (new61 _ _ _ _) (fun u σ₁ h => ?_) ?_
    · obtain ⟨t, ht, _, rfl⟩ := h; exact Sub.drop ht (Sub.refl _)
    rintro u σ₁ ⟨t, ht0, rfl, rfl⟩
    clear h60 h26
    simp only [none_upd] at ht0
    simp (config := { contextual := true, dsimp := false }) only [*, CliC, ↓reduceIte, ↓evP, evQ, if_true, if_false, eq_self, binv, eqv, lenv, fillO, splice, fldv, Sp.eqa, eqL, eq1, Nat.reduceAdd, Nat.reduceEqDiff, Nat.reduceLeDiff, Nat.reduceMul, reduceCtorEq, Int.reduceLT, Int.reduceLE, Int.reduceGT, Int.reduceGE, Int.reduceEq, Int.reduceNeg]
    (repeat' (first | (refine condF_split (fun hc => ?_) (fun hc => ?_) <;> (try simp only [Bool.not_eq_true', Bool.not_eq_false', Bool.and_eq_true, Bool.or_eq_false_iff] at hc) <;> (try (simp (config := { contextual := true, dsimp := false }) only [*, CliC, ↓reduceIte, ↓evP, evQ, if_true, if_false, eq_self, binv, eqv, lenv, fillO, splice, fldv, Sp.eqa, eqL, eq1, Nat.reduceAdd, Nat.reduceEqDiff, Nat.reduceLeDiff, Nat.reduceMul, reduceCtorEq, Int.reduceLT, Int.reduceLE, Int.reduceGT, Int.reduceGE, Int.reduceEq, Int.reduceNeg]))) | (intro _; intros) | ((refine And.intro ?_ ?_; focus (first | omega | (first | exact Sub.refl _ | ((repeat (first | exact Sub.refl _ | (refine Sub.drop ?_ ?_; focus (simp only [none_upd, none_set, not_false_eq_true, true_and, and_true, *]; done)) | refine Sub.both ?_)); done)) | ((simp only [decide_eq_true_eq, decide_eq_false_iff_not] at *); omega) | (simp_all; done) | (simp_all; omega))); (try (simp (config := { contextual := true, dsimp := false }) only [*, CliC, ↓reduceIte, ↓evP, evQ, if_true, if_false, eq_self, binv, eqv, lenv, fillO, splice, fldv, Sp.eqa, eqL, eq1, Nat.reduceAdd, Nat.reduceEqDiff, Nat.reduceLeDiff, Nat.reduceMul, reduceCtorEq, Int.reduceLT, Int.reduceLE, Int.reduceGT, Int.reduceGE, Int.reduceEq, Int.reduceNeg])))))
    refine app_b (by first | (simp only [Nat.reduceMul, Nat.one_mul, Nat.zero_mul, rdn_row, rdn_same, rdn_ne, seg_zero, seg_cons, seg_skip, Option.map_some, not_false_eq_true, *]; done) | (simp only [Nat.reduceMul, Nat.one_mul, Nat.zero_mul, rdn_row, rdn_same, rdn_ne, seg_zero, seg_cons, seg_skip, Option.map_some, not_false_eq_true, *]; exact rfl)) rfl (by simp only [upd_at, *, ↓reduceIte]) (flat_len rC_len _) (by omega) (by omega) (by unfold maxLen; omega) ?_ ?_
    all_goals rw [ts_snoc]
    all_goals simp (config := { contextual := true, dsimp := false }) only [*, CliC, ↓reduceIte, ↓evP, evQ, if_true, if_false, eq_self, binv, eqv, lenv, fillO, splice, fldv, Sp.eqa, eqL, eq1, Nat.reduceAdd, Nat.reduceEqDiff, Nat.reduceLeDiff, Nat.reduceMul, reduceCtorEq, Int.reduceLT, Int.reduceLE, Int.reduceGT, Int.reduceGE, Int.reduceEq, Int.reduceNeg]
    all_goals (repeat' (first | (refine condF_split (fun hc => ?_) (fun hc => ?_) <;> (try simp only [Bool.not_eq_true', Bool.not_eq_false', Bool.and_eq_true, Bool.or_eq_false_iff] at hc) <;> (try (simp (config := { contextual := true, dsimp := false }) only [*, CliC, ↓reduceIte, ↓evP, evQ, if_true, if_false, eq_self, binv, eqv, lenv, fillO, splice, fldv, Sp.eqa, eqL, eq1, Nat.reduceAdd, Nat.reduceEqDiff, Nat.reduceLeDiff, Nat.reduceMul, reduceCtorEq, Int.reduceLT, Int.reduceLE, Int.reduceGT, Int.reduceGE, Int.reduceEq, Int.reduceNeg]))) | (intro _; intros) | ((refine And.intro ?_ ?_; focus (first | omega | (first | exact Sub.refl _ | ((repeat (first | exact Sub.refl _ | (refine Sub.drop ?_ ?_; focus (simp only [none_upd, none_set, not_false_eq_true, true_and, and_true, *]; done)) | refine Sub.both ?_)); done)) | ((simp only [decide_eq_true_eq, decide_eq_false_iff_not] at *); omega) | (simp_all; done) | (simp_all; omega))); (try (simp (config := { contextual := true, dsimp := false }) only [*, CliC, ↓reduceIte, ↓evP, evQ, if_true, if_false, eq_self, binv, eqv, lenv, fillO, splice, fldv, Sp.eqa, eqL, eq1, Nat.reduceAdd, Nat.reduceEqDiff, Nat.reduceLeDiff, Nat.reduceMul, reduceCtorEq, Int.reduceLT, Int.reduceLE, Int.reduceGT, Int.reduceGE, Int.reduceEq, Int.reduceNeg])))))
    all_goals (refine app_b (by first | (simp only [Nat.reduceMul, Nat.one_mul, Nat.zero_mul, rdn_row, rdn_same, rdn_ne, seg_zero, seg_cons, seg_skip, Option.map_some, not_false_eq_true, *]; done) | (simp only [Nat.reduceMul, Nat.one_mul, Nat.zero_mul, rdn_row, rdn_same, rdn_ne, seg_zero, seg_cons, seg_skip, Option.map_some, not_false_eq_true, *]; exact rfl)) rfl (by simp only [upd_at, *, ↓reduceIte]) (flat_len iC_len _) (by omega) (by omega) (by unfold maxLen; omega) ?_ ?_)
    all_goals rw [hs_snoc]
    all_goals simp (config := { contextual := true, dsimp := false }) only [*, CliC, ↓reduceIte, ↓evP, evQ, if_true, if_false, eq_self, binv, eqv, lenv, fillO, splice, fldv, Sp.eqa, eqL, eq1, Nat.reduceAdd, Nat.reduceEqDiff, Nat.reduceLeDiff, Nat.reduceMul, reduceCtorEq, Int.reduceLT, Int.reduceLE, Int.reduceGT, Int.reduceGE, Int.reduceEq, Int.reduceNeg]
    all_goals (repeat' (first | (refine condF_split (fun hc => ?_) (fun hc => ?_) <;> (try simp only [Bool.not_eq_true', Bool.not_eq_false', Bool.and_eq_true, Bool.or_eq_false_iff] at hc) <;> (try (simp (config := { contextual := true, dsimp := false }) only [*, CliC, ↓reduceIte, ↓evP, evQ, if_true, if_false, eq_self, binv, eqv, lenv, fillO, splice, fldv, Sp.eqa, eqL, eq1, Nat.reduceAdd, Nat.reduceEqDiff, Nat.reduceLeDiff, Nat.reduceMul, reduceCtorEq, Int.reduceLT, Int.reduceLE, Int.reduceGT, Int.reduceGE, Int.reduceEq, Int.reduceNeg]))) | (intro _; intros) | ((refine And.intro ?_ ?_; focus (first | omega | (first | exact Sub.refl _ | ((repeat (first | exact Sub.refl _ | (refine Sub.drop ?_ ?_; focus (simp only [none_upd, none_set, not_false_eq_true, true_and, and_true, *]; done)) | refine Sub.both ?_)); done)) | ((simp only [decide_eq_true_eq, decide_eq_false_iff_not] at *); omega) | (simp_all; done) | (simp_all; omega))); (try (simp (config := { contextual := true, dsimp := false }) only [*, CliC, ↓reduceIte, ↓evP, evQ, if_true, if_false, eq_self, binv, eqv, lenv, fillO, splice, fldv, Sp.eqa, eqL, eq1, Nat.reduceAdd, Nat.reduceEqDiff, Nat.reduceLeDiff, Nat.reduceMul, reduceCtorEq, Int.reduceLT, Int.reduceLE, Int.reduceGT, Int.reduceGE, Int.reduceEq, Int.reduceNeg])))))
    all_goals (refine endF_at ⟨rfl, t, .slice (some ⟨_, 0, none⟩) (ts.length + 1) _, .slice (some ⟨_, 0, none⟩) (hs.length + 1) _, (by simp only [none_upd, none_set, not_false_eq_true, true_and, and_true, *]; done), (by first | (simp only [upd_at, *, ↓reduceIte]; done) | (simp only [upd_at, *, ↓reduceIte]; rfl)), rows_mk (by simp) (by assumption) (by first | (simp only [upd_at, *, ↓reduceIte]; done) | (simp only [upd_at, *, ↓reduceIte]; rfl)), rows_mk (by simp) (by assumption) (by first | (simp only [upd_at, *, ↓reduceIte]; done) | (simp only [upd_at, *, ↓reduceIte]; rfl)), (by first | (simp only [upd_at, *, ↓reduceIte]; done) | (simp only [upd_at, *, ↓reduceIte]; rfl)), (by repeat (first | exact Same.refl _ _ | (refine Same.updNew ?_ ?_; focus (simp only [none_upd, none_set, not_false_eq_true, true_and, and_true, *]; done)) | (refine Same.both ?_ ?_; focus (first | exact rfl | exact .inl rfl | exact .inr rfl | exact .inr (.inl rfl) | exact .inr (.inr rfl) | exact .inr (.inr (.inl rfl)) | exact .inr (.inr (.inr rfl)))) | (refine Same.updIn ?_ ?_; focus (first | exact rfl | exact .inl rfl | exact .inr rfl | exact .inr (.inl rfl) | exact .inr (.inr rfl) | exact .inr (.inr (.inl rfl)) | exact .inr (.inr (.inr rfl)))) | refine Same.eq ?_)), ?_, ?_⟩)
    all_goals (intro j hj; cases hj; first | exact .inl rfl | exact .inr (by simp only [none_upd, none_set, not_false_eq_true, true_and, and_true, *]; done))
end Go.Proofs.YtaoafjlocjjbbaaDoor

-- D13
namespace Go.Proofs.YtaoafjlocjjbbaaDoor
open Go.Sp
set_option linter.unusedSimpArgs false
set_option linter.unusedVariables false
/-- A session: where it lies, what it is, where its writes lie. -/
structure SR where
  g : Nat
  S : SesS
  v : Value
  ws : List Wr
/-- A transaction: where it lies, what it is, where its reads lie, its session's number and place. -/
structure TR where
  g : Nat
  T : TxS
  v : Value
  k : Nat
  h : Nat
structure CL where
  g : Nat
  c : Cfg
  vs : Value
  vt : Value
  vh : Value
  ss : List SR
  ts : List TR
def CL.own (C : CL) (k : Nat) : Prop := k = C.g ∨ blk C.vs = some k ∨ blk C.vt = some k ∨ blk C.vh = some k ∨ (∃ s ∈ C.ss, k = s.g ∨ blk s.v = some k) ∨ ∃ t ∈ C.ts, k = t.g ∨ blk t.v = some k
structure CliAt (σ : Hp) (C : CL) : Prop where
  cli : σ C.g = some (.cells (CliC C.c C.vs C.vt C.vh) 124)
  vs : RowsAt 23 1 gC σ C.vs (C.ss.map (·.g))
  vt : RowsAt 128 2 rC σ C.vt (C.ts.map fun t => (t.g, t.h))
  vh : RowsAt 3 1 iC σ C.vh (C.ts.map fun t => (t.k : Int))
  ses : ∀ (i : Nat) s, C.ss[i]? = some s → σ s.g = some (.cells (s.S.cells s.v) 101) ∧ RowsAt 37 3 Wr.cells σ s.v s.ws
  tx : ∀ (i : Nat) t, C.ts[i]? = some t → TxAt 150 σ t.g t.T t.v
  home : ∀ (i : Nat) t, C.ts[i]? = some t → ∃ s, C.ss[t.k]? = some s ∧ s.g = t.h
  dS : ∀ (i j : Nat) s s', C.ss[i]? = some s → C.ss[j]? = some s' → s.g = s'.g → i = j
  dT : ∀ (i j : Nat) t t', C.ts[i]? = some t → C.ts[j]? = some t' → t.g = t'.g → i = j
  dR : ∀ (i j : Nat) t t' k, C.ts[i]? = some t → C.ts[j]? = some t' → blk t.v = some k → blk t'.v = some k → i = j
/-- From C to C': nothing else that was known has turned, and what is C's now was so or is new. -/
def Moved (σ : Hp) (C : CL) (σ' : Hp) (C' : CL) : Prop := CliAt σ' C' ∧ Same C.own σ σ' ∧ ∀ k, C'.own k → C.own k ∨ σ k = none
theorem _root_.Go.Sp.RowsAt.apart {α β : Type} {E E' sz sz' : Nat} {f : α → List Value} {f' : β → List Value} {σ : Hp} {v v' : Value} {l : List α} {l' : List β} (h : RowsAt E sz f σ v l) (h' : RowsAt E' sz' f' σ v' l') (hE : E ≠ E') {k : Nat} (hk : blk v = some k) : blk v' ≠ some k := fun e => by
  rcases h with ⟨rfl, _⟩ | ⟨b, c, rfl, _, hb⟩
  · cases hk
  · rcases h' with ⟨rfl, _⟩ | ⟨b', c', rfl, _, hb'⟩
    · cases e
    · cases hk; cases e
      rw [hb] at hb'
      exact hE (Blk.row.inj (Option.some.inj hb')).2.2
theorem cells_ne {σ : Hp} {a b : Nat} {A B : List Value} {t u : TypeId} (ha : σ a = some (.cells A t)) (hb : σ b = some (.cells B u)) (h : t ≠ u) : a ≠ b := fun e => by
  subst e; rw [ha] at hb; exact h (Blk.cells.inj (Option.some.inj hb)).2
theorem get_set {α : Type} {l : List α} {i j : Nat} {x y : α} (h : (l.set i x)[j]? = some y) : (j = i ∧ y = x ∧ i < l.length) ∨ (j ≠ i ∧ l[j]? = some y) := by
  rw [List.getElem?_set] at h
  by_cases e : i = j
  · subst e
    rw [if_pos rfl] at h
    split at h
    · exact .inl ⟨rfl, (Option.some.inj h).symm, by assumption⟩
    · cases h
  · rw [if_neg e] at h
    exact .inr ⟨fun x => e x.symm, h⟩
theorem map_set_same {α β : Type} {f : α → β} : ∀ {l : List α} {i : Nat} {x y : α}, l[i]? = some x → f y = f x → (l.set i y).map f = l.map f
  | [], i, x, y, h, _ => by simp at h
  | a :: l, 0, x, y, h, e => by simp at h; subst h; simp [e]
  | a :: l, i + 1, x, y, h, e => by simp only [List.set_cons_succ, List.map_cons]; rw [map_set_same (by simpa using h) e]
/-- One session has turned. -/
def CL.ses (C : CL) (i : Nat) (s : SR) (S' : SesS) (v' : Value) (ws' : List Wr) : CL := { C with ss := C.ss.set i ⟨s.g, S', v', ws'⟩ }
theorem ses_moved {σ σ' : Hp} {C : CL} {i : Nat} {s : SR} {S' : SesS} {v' : Value} {ws' : List Wr} (h : CliAt σ C) (hi : C.ss[i]? = some s) (hs : Same (fun k => k = s.g) σ σ') (hg : σ' s.g = some (.cells (S'.cells v') 101)) (hr : RowsAt 37 3 Wr.cells σ' v' ws')
    (hv : ∀ k, blk v' = some k → blk s.v = some k ∨ σ k = none) : Moved σ C σ' (C.ses i s S' v' ws') := by
  have hs0 := (h.ses i s hi).1
  have one : ∀ k, σ k ≠ none → k ≠ s.g → σ' k = σ k := fun k h1 h2 => hs k h1 h2
  refine ⟨⟨?_, ?_, ?_, ?_, ?_, ?_, ?_, ?_, h.dT, h.dR⟩, ?_, ?_⟩
  · rw [show (C.ses i s S' v' ws').g = C.g from rfl, one C.g (by rw [h.cli]; simp) (cells_ne h.cli hs0 (by decide))]; exact h.cli
  · show RowsAt _ _ _ _ _ ((C.ss.set i _).map _)
    rw [show ∀ y : SR, y.g = s.g → (C.ss.set i y).map (·.g) = C.ss.map (·.g) from fun y hy => map_set_same hi hy]
    rotate_left
    · rfl
    exact h.vs.sameF hs fun k hk e => h.vs.notCells hs0 (by rw [hk, e])
  · exact h.vt.sameF hs fun k hk e => h.vt.notCells hs0 (by rw [hk, e])
  · exact h.vh.sameF hs fun k hk e => h.vh.notCells hs0 (by rw [hk, e])
  · intro j x hx
    rcases get_set hx with ⟨rfl, rfl, _⟩ | ⟨hne, hx⟩
    · exact ⟨hg, hr⟩
    · obtain ⟨a, b⟩ := h.ses j x hx
      have hgg : x.g ≠ s.g := fun e => hne (h.dS j i x s hx hi e)
      exact ⟨by rw [one _ (by rw [a]; simp) hgg]; exact a, b.sameF hs fun k hk e => b.notCells hs0 (by rw [hk, e])⟩
  · intro j t ht
    have a := h.tx j t ht
    exact a.keepF hs (fun e => cells_ne a.1 hs0 (by decide) e) fun k hk e => a.2.notCells hs0 (by rw [hk, e])
  · intro j t ht
    obtain ⟨s1, h1, h2⟩ := h.home j t ht
    by_cases e : t.k = i
    · refine ⟨⟨s.g, S', v', ws'⟩, ?_, ?_⟩
      · show (C.ss.set i _)[t.k]? = _
        rw [e, List.getElem?_set, if_pos rfl, if_pos (List.getElem?_eq_some_iff.1 hi).1]
      · rw [e, hi] at h1; cases h1; exact h2
    · exact ⟨s1, by show (C.ss.set i _)[t.k]? = _; rw [List.getElem?_set, if_neg (fun x => e x.symm)]; exact h1, h2⟩
  · intro a b x y hx hy e
    rcases get_set hx with ⟨ea, rfl, _⟩ | ⟨_, hx'⟩ <;> rcases get_set hy with ⟨eb, rfl, _⟩ | ⟨_, hy'⟩
    · rw [ea, eb]
    · rw [ea]; exact h.dS i b s y hi hy' e
    · rw [eb]; exact h.dS a i x s hx' hi e
    · exact h.dS a b x y hx' hy' e
  · exact fun k hk hf => one k hk fun e => hf (.inr (.inr (.inr (.inr (.inl ⟨s, List.mem_of_getElem? hi, .inl e⟩)))))
  · rintro k (e | e | e | e | ⟨x, hx, e⟩ | e)
    · exact .inl (.inl e)
    · exact .inl (.inr (.inl e))
    · exact .inl (.inr (.inr (.inl e)))
    · exact .inl (.inr (.inr (.inr (.inl e))))
    · rcases List.mem_or_eq_of_mem_set hx with hx | rfl
      · exact .inl (.inr (.inr (.inr (.inr (.inl ⟨x, hx, e⟩)))))
      · rcases e with e | e
        · exact .inl (.inr (.inr (.inr (.inr (.inl ⟨s, List.mem_of_getElem? hi, .inl e⟩)))))
        · rcases hv k e with e | e
          · exact .inl (.inr (.inr (.inr (.inr (.inl ⟨s, List.mem_of_getElem? hi, .inr e⟩)))))
          · exact .inr e
    · exact .inl (.inr (.inr (.inr (.inr (.inr e)))))
/-- One transaction has turned. -/
def CL.tx (C : CL) (i : Nat) (t : TR) (T' : TxS) (v' : Value) : CL := { C with ts := C.ts.set i ⟨t.g, T', v', t.k, t.h⟩ }
theorem tx_moved {σ σ' : Hp} {C : CL} {i : Nat} {t : TR} {T' : TxS} {v' : Value} (h : CliAt σ C) (hi : C.ts[i]? = some t) (hT : TxAt 150 σ' t.g T' v') (hS : Step σ t.g t.v σ' v') : Moved σ C σ' (C.tx i t T' v') := by
  have h0 := h.tx i t hi
  have hs := hS.1
  have one : ∀ k, σ k ≠ none → k ≠ t.g → blk t.v ≠ some k → σ' k = σ k := fun k h1 h2 h3 => hs k h1 (fun e => e.elim h2 h3)
  refine ⟨⟨?_, ?_, ?_, ?_, ?_, ?_, ?_, h.dS, ?_, ?_⟩, ?_, ?_⟩
  · rw [show (C.tx i t T' v').g = C.g from rfl, one C.g (by rw [h.cli]; simp) (cells_ne h.cli h0.1 (by decide)) (h0.2.notCells h.cli)]; exact h.cli
  · exact h.vs.sameF hs fun k hk e => e.elim (fun e => h.vs.notCells h0.1 (by rw [hk, e])) (h.vs.apart h0.2 (by decide) hk)
  · show RowsAt _ _ _ _ _ ((C.ts.set i _).map _)
    rw [show ∀ y : TR, (y.g, y.h) = (t.g, t.h) → (C.ts.set i y).map (fun t => (t.g, t.h)) = C.ts.map (fun t => (t.g, t.h)) from fun y hy => map_set_same hi hy]
    rotate_left
    · rfl
    exact h.vt.sameF hs fun k hk e => e.elim (fun e => h.vt.notCells h0.1 (by rw [hk, e])) (h.vt.apart h0.2 (by decide) hk)
  · show RowsAt _ _ _ _ _ ((C.ts.set i _).map _)
    rw [show ∀ y : TR, (y.k : Int) = t.k → (C.ts.set i y).map (fun t => (t.k : Int)) = C.ts.map (fun t => (t.k : Int)) from fun y hy => map_set_same hi hy]
    rotate_left
    · rfl
    exact h.vh.sameF hs fun k hk e => e.elim (fun e => h.vh.notCells h0.1 (by rw [hk, e])) (h.vh.apart h0.2 (by decide) hk)
  · intro j x hx
    obtain ⟨a, b⟩ := h.ses j x hx
    exact ⟨by rw [one _ (by rw [a]; simp) (cells_ne a h0.1 (by decide)) (h0.2.notCells a)]; exact a,
      b.sameF hs fun k hk e => e.elim (fun e => b.notCells h0.1 (by rw [hk, e])) (b.apart h0.2 (by decide) hk)⟩
  · intro j x hx
    rcases get_set hx with ⟨rfl, rfl, _⟩ | ⟨hne, hx⟩
    · exact hT
    · have a := h.tx j x hx
      have hgg : x.g ≠ t.g := fun e => hne (h.dT j i x t hx hi e)
      exact a.keepF hs (fun e => e.elim hgg (h0.2.notCells a.1)) fun k hk e => e.elim (fun e => a.2.notCells h0.1 (by rw [hk, e])) fun e => hne (h.dR j i x t k hx hi hk e)
  · intro j x hx
    rcases get_set hx with ⟨rfl, rfl, _⟩ | ⟨hne, hx⟩
    · exact h.home j t hi
    · exact h.home j x hx
  · intro a b x y hx hy e
    rcases get_set hx with ⟨ea, rfl, _⟩ | ⟨_, hx'⟩ <;> rcases get_set hy with ⟨eb, rfl, _⟩ | ⟨_, hy'⟩
    · rw [ea, eb]
    · rw [ea]; exact h.dT i b t y hi hy' e
    · rw [eb]; exact h.dT a i x t hx' hi e
    · exact h.dT a b x y hx' hy' e
  · intro a b x y k hx hy ex ey
    rcases get_set hx with ⟨ea, rfl, _⟩ | ⟨n1, hx'⟩ <;> rcases get_set hy with ⟨eb, rfl, _⟩ | ⟨n2, hy'⟩
    · rw [ea, eb]
    · rw [ea]
      rcases hS.2 k ex with e | e
      · exact h.dR i b t y k hi hy' e ey
      · exact absurd e ((h.tx b y hy').known ey)
    · rw [eb]
      rcases hS.2 k ey with e | e
      · exact h.dR a i x t k hx' hi ex e
      · exact absurd e ((h.tx a x hx').known ex)
    · exact h.dR a b x y k hx' hy' ex ey
  · exact fun k hk hf => one k hk (fun e => hf (.inr (.inr (.inr (.inr (.inr ⟨t, List.mem_of_getElem? hi, .inl e⟩)))))) fun e => hf (.inr (.inr (.inr (.inr (.inr ⟨t, List.mem_of_getElem? hi, .inr e⟩)))))
  · rintro k (e | e | e | e | e | ⟨x, hx, e⟩)
    · exact .inl (.inl e)
    · exact .inl (.inr (.inl e))
    · exact .inl (.inr (.inr (.inl e)))
    · exact .inl (.inr (.inr (.inr (.inl e))))
    · exact .inl (.inr (.inr (.inr (.inr (.inl e)))))
    · rcases List.mem_or_eq_of_mem_set hx with hx | rfl
      · exact .inl (.inr (.inr (.inr (.inr (.inr ⟨x, hx, e⟩)))))
      · rcases e with e | e
        · exact .inl (.inr (.inr (.inr (.inr (.inr ⟨t, List.mem_of_getElem? hi, .inl e⟩)))))
        · rcases hS.2 k e with e | e
          · exact .inl (.inr (.inr (.inr (.inr (.inr ⟨t, List.mem_of_getElem? hi, .inr e⟩)))))
          · exact .inr e
theorem Moved.refl {σ : Hp} {C : CL} (h : CliAt σ C) : Moved σ C σ C := ⟨h, Same.refl _ _, fun k hk => .inl hk⟩
theorem CliAt.known {σ : Hp} {C : CL} (h : CliAt σ C) {k : Nat} (hk : C.own k) : σ k ≠ none := by
  rcases hk with e | e | e | e | ⟨x, hx, e⟩ | ⟨x, hx, e⟩
  · rw [e, h.cli]; simp
  · exact h.vs.known e
  · exact h.vt.known e
  · exact h.vh.known e
  · obtain ⟨i, hi⟩ := List.getElem?_of_mem hx
    rcases e with e | e
    · rw [e, (h.ses i x hi).1]; simp
    · exact (h.ses i x hi).2.known e
  · obtain ⟨i, hi⟩ := List.getElem?_of_mem hx
    rcases e with e | e
    · rw [e, (h.tx i x hi).1]; simp
    · exact (h.tx i x hi).known e
theorem Moved.trans {σ σ1 σ2 : Hp} {C C1 C2 : CL} (h : Moved σ C σ1 C1) (k : Moved σ1 C1 σ2 C2) : Moved σ C σ2 C2 := by
  refine ⟨k.1, h.2.1.trans k.2.1 fun i hi hG => (h.2.2 i hG).elim id fun e => absurd e hi, fun i hi => ?_⟩
  rcases k.2.2 i hi with e | e
  · exact h.2.2 i e
  · by_cases e0 : σ i = none
    · exact .inr e0
    · by_cases e1 : C.own i
      · exact .inl e1
      · exact absurd ((h.2.1 i e0 e1).symm.trans e) e0
/-- What lies beside the client stays. -/
theorem Moved.sub {σ σ' σ0 : Hp} {C C' : CL} (h : Moved σ C σ' C') (hs : Sub σ0 σ) (hn : ∀ k, C.own k → σ0 k = none) : Sub σ0 σ' ∧ ∀ k, C'.own k → σ0 k = none :=
  ⟨hs.same h.2.1 hn, fun k hk => (h.2.2 k hk).elim (hn k) fun e => hs.noneAt e⟩
end Go.Proofs.YtaoafjlocjjbbaaDoor

-- D14
namespace Go.Proofs.YtaoafjlocjjbbaaDoor
open Go.Sp
set_option linter.unusedSimpArgs false
set_option linter.unusedVariables false
def YesS (c : Value) (s : Int) (k : Nat) (τ : Hp) : Prop := ∀ σ, Sub τ σ → ACalls Tryd.prog 60 #[c, .int .i64 s] σ fun u σ' => u = .pointer (some ⟨k, 0, none⟩) ∧ σ' = σ
def YesT (c : Value) (t : Int) (p : Nat × Nat) (τ : Hp) : Prop := ∀ σ, Sub τ σ → ACalls Tryd.prog 62 #[c, .int .i64 t] σ fun u σ' => u = .agg #[.pointer (some ⟨p.1, 0, none⟩), .pointer (some ⟨p.2, 0, none⟩)] ∧ σ' = σ
theorem yesS {σ : Hp} {C : CL} {i : Nat} {s : SR} (h : CliAt σ C) (hi : C.ss[i]? = some s) : YesS (.pointer (some ⟨C.g, 0, none⟩)) i s.g σ := fun σ' hs => session60i (Sub.at hs h.cli) (h.vs.subK hs) (by simp [hi])
theorem yesT {σ : Hp} {C : CL} {i : Nat} {t : TR} (h : CliAt σ C) (hi : C.ts[i]? = some t) : YesT (.pointer (some ⟨C.g, 0, none⟩)) i (t.g, t.h) σ := fun σ' hs => tx62i (Sub.at hs h.cli) (h.vt.subK hs) (by simp [hi])
theorem noS {σ : Hp} {C : CL} {i : Int} (h : CliAt σ C) (hi : (decide (i < 0) || decide (i ≥ (C.ss.length : Int))) = true) : NoS (.pointer (some ⟨C.g, 0, none⟩)) i σ := fun σ' hs => session60x (Sub.at hs h.cli) (h.vs.subK hs) _ (by simpa using hi)
theorem noT {σ : Hp} {C : CL} {i : Int} (h : CliAt σ C) (hi : (decide (i < 0) || decide (i ≥ (C.ts.length : Int))) = true) : NoT (.pointer (some ⟨C.g, 0, none⟩)) i σ := fun σ' hs => tx62x (Sub.at hs h.cli) (h.vt.subK hs) _ (by simpa using hi)
theorem rtC {σ : Hp} {C : CL} (h : CliAt σ C) : Rt (.pointer (some ⟨C.g, 0, none⟩)) C.c.retries σ := fun σ' hs => retries68 (Sub.at hs h.cli)
/-- An answer that is a message and a number. -/
def MsgE (R : Msg → Int → Hp → Prop) (u : Value) (σ' : Hp) : Prop := ∃ (m : Msg) (e : Int), u = .tuple #[.agg m.cells.toArray, .int .i64 e] ∧ one m.writes = true ∧ one m.keys = true ∧ R m e σ'
def MsgB (R : Msg → Bool → Hp → Prop) (u : Value) (σ' : Hp) : Prop := ∃ (m : Msg) (b : Bool), u = .tuple #[.agg m.cells.toArray, .bool b] ∧ one m.writes = true ∧ one m.keys = true ∧ R m b σ'
theorem commit39g {c w : Value} {s : Int} {g : Nat} {σ : Hp} {R : Msg → Int → Hp → Prop} (h : YesS c s g σ) (hop : ACalls Tryd.prog 15 #[.pointer (some ⟨g, 0, none⟩), w] σ (MsgE R)) : ACalls Tryd.prog 39 #[c, .int .i64 s, w] σ (MsgE R) := by
  have H := Hid.mk h
  have HO := Hid.mk hop
  clear h hop
  (refine acalls_F ok39 (by simp) ?_; unfold c39 r39; simp (config := { contextual := true, dsimp := false }) only [CliC, Msg.cells, ↓reduceIte, ↓evP, evQ, if_true, if_false, eq_self, binv, eqv, lenv, fillO, splice, fldv, Sp.eqa, eqL, eq1, Nat.reduceAdd, Nat.reduceEqDiff, Nat.reduceLeDiff, Nat.reduceMul, reduceCtorEq, Int.reduceLT, Int.reduceLE, Int.reduceGT, Int.reduceGE, Int.reduceEq, Int.reduceNeg])
  (repeat' (first | (refine condF_split (fun hc => ?_) (fun hc => ?_) <;> (try simp only [Bool.not_eq_true', Bool.not_eq_false', Bool.and_eq_true, Bool.or_eq_false_iff] at hc) <;> (try (simp (config := { contextual := true, dsimp := false }) only [*, CliC, Msg.cells, ↓reduceIte, ↓evP, evQ, if_true, if_false, eq_self, binv, eqv, lenv, fillO, splice, fldv, Sp.eqa, eqL, eq1, Nat.reduceAdd, Nat.reduceEqDiff, Nat.reduceLeDiff, Nat.reduceMul, reduceCtorEq, Int.reduceLT, Int.reduceLE, Int.reduceGT, Int.reduceGE, Int.reduceEq, Int.reduceNeg]))) | (refine callF_v (H.out _ (by (first | exact Sub.refl _ | ((repeat (first | exact Sub.refl _ | (refine Sub.drop ?_ ?_; focus (simp only [none_upd, none_set, not_false_eq_true, true_and, and_true, *]; done)) | refine Sub.both ?_)); done)))) ?_; (try (simp (config := { contextual := true, dsimp := false }) only [*, CliC, Msg.cells, ↓reduceIte, ↓evP, evQ, if_true, if_false, eq_self, binv, eqv, lenv, fillO, splice, fldv, Sp.eqa, eqL, eq1, Nat.reduceAdd, Nat.reduceEqDiff, Nat.reduceLeDiff, Nat.reduceMul, reduceCtorEq, Int.reduceLT, Int.reduceLE, Int.reduceGT, Int.reduceGE, Int.reduceEq, Int.reduceNeg]))) | (refine ccallF_of (H.out _ (by (first | exact Sub.refl _ | ((repeat (first | exact Sub.refl _ | (refine Sub.drop ?_ ?_; focus (simp only [none_upd, none_set, not_false_eq_true, true_and, and_true, *]; done)) | refine Sub.both ?_)); done)))) ?_; (try (simp (config := { contextual := true, dsimp := false }) only [*, CliC, Msg.cells, ↓reduceIte, ↓evP, evQ, if_true, if_false, eq_self, binv, eqv, lenv, fillO, splice, fldv, Sp.eqa, eqL, eq1, Nat.reduceAdd, Nat.reduceEqDiff, Nat.reduceLeDiff, Nat.reduceMul, reduceCtorEq, Int.reduceLT, Int.reduceLE, Int.reduceGT, Int.reduceGE, Int.reduceEq, Int.reduceNeg]))) | (refine gcallF_of (H.out _ (by (first | exact Sub.refl _ | ((repeat (first | exact Sub.refl _ | (refine Sub.drop ?_ ?_; focus (simp only [none_upd, none_set, not_false_eq_true, true_and, and_true, *]; done)) | refine Sub.both ?_)); done)))) ?_; (try (simp (config := { contextual := true, dsimp := false }) only [*, CliC, Msg.cells, ↓reduceIte, ↓evP, evQ, if_true, if_false, eq_self, binv, eqv, lenv, fillO, splice, fldv, Sp.eqa, eqL, eq1, Nat.reduceAdd, Nat.reduceEqDiff, Nat.reduceLeDiff, Nat.reduceMul, reduceCtorEq, Int.reduceLT, Int.reduceLE, Int.reduceGT, Int.reduceGE, Int.reduceEq, Int.reduceNeg]))) | (intro _; intros) | ((refine And.intro ?_ ?_; focus (first | omega | (first | exact Sub.refl _ | ((repeat (first | exact Sub.refl _ | (refine Sub.drop ?_ ?_; focus (simp only [none_upd, none_set, not_false_eq_true, true_and, and_true, *]; done)) | refine Sub.both ?_)); done)) | ((simp only [decide_eq_true_eq, decide_eq_false_iff_not] at *); omega) | (simp_all; done) | (simp_all; omega))); (try (simp (config := { contextual := true, dsimp := false }) only [*, CliC, Msg.cells, ↓reduceIte, ↓evP, evQ, if_true, if_false, eq_self, binv, eqv, lenv, fillO, splice, fldv, Sp.eqa, eqL, eq1, Nat.reduceAdd, Nat.reduceEqDiff, Nat.reduceLeDiff, Nat.reduceMul, reduceCtorEq, Int.reduceLT, Int.reduceLE, Int.reduceGT, Int.reduceGE, Int.reduceEq, Int.reduceNeg])))))
  refine callF_of (ACalls.beside ?_ HO.out) ?_
  · (simp only [none_upd, none_set, not_false_eq_true, true_and, and_true, *]; done)
  rintro u σ'' ⟨σ1, ⟨m, e, rfl, hw, hk, hR⟩, n1, rfl⟩
  have HR := Hid.mk hR
  clear hR
  simp (config := { contextual := true, dsimp := false }) only [*, CliC, Msg.cells, ↓reduceIte, ↓evP, evQ, if_true, if_false, eq_self, binv, eqv, lenv, fillO, splice, fldv, Sp.eqa, eqL, eq1, Nat.reduceAdd, Nat.reduceEqDiff, Nat.reduceLeDiff, Nat.reduceMul, reduceCtorEq, Int.reduceLT, Int.reduceLE, Int.reduceGT, Int.reduceGE, Int.reduceEq, Int.reduceNeg]
  exact endF_sub (τ := σ1) (by (first | exact Sub.refl _ | ((repeat (first | exact Sub.refl _ | (refine Sub.drop ?_ ?_; focus (simp only [none_upd, none_set, not_false_eq_true, true_and, and_true, *]; done)) | refine Sub.both ?_)); done))) ⟨m, e, rfl, hw, hk, HR.out⟩
theorem again40g {c : Value} {s r : Int} {g : Nat} {σ : Hp} {R : Msg → Int → Hp → Prop} (h : YesS c s g σ) (h2 : Rt c r σ) (hop : ACalls Tryd.prog 17 #[.pointer (some ⟨g, 0, none⟩), .int .i64 r] σ (MsgE R)) : ACalls Tryd.prog 40 #[c, .int .i64 s] σ (MsgE R) := by
  have H := Hid.mk h
  have H2 := Hid.mk h2
  have HO := Hid.mk hop
  clear h h2 hop
  (refine acalls_F ok40 (by simp) ?_; unfold c40 r40; simp (config := { contextual := true, dsimp := false }) only [CliC, Msg.cells, ↓reduceIte, ↓evP, evQ, if_true, if_false, eq_self, binv, eqv, lenv, fillO, splice, fldv, Sp.eqa, eqL, eq1, Nat.reduceAdd, Nat.reduceEqDiff, Nat.reduceLeDiff, Nat.reduceMul, reduceCtorEq, Int.reduceLT, Int.reduceLE, Int.reduceGT, Int.reduceGE, Int.reduceEq, Int.reduceNeg])
  (repeat' (first | (refine condF_split (fun hc => ?_) (fun hc => ?_) <;> (try simp only [Bool.not_eq_true', Bool.not_eq_false', Bool.and_eq_true, Bool.or_eq_false_iff] at hc) <;> (try (simp (config := { contextual := true, dsimp := false }) only [*, CliC, Msg.cells, ↓reduceIte, ↓evP, evQ, if_true, if_false, eq_self, binv, eqv, lenv, fillO, splice, fldv, Sp.eqa, eqL, eq1, Nat.reduceAdd, Nat.reduceEqDiff, Nat.reduceLeDiff, Nat.reduceMul, reduceCtorEq, Int.reduceLT, Int.reduceLE, Int.reduceGT, Int.reduceGE, Int.reduceEq, Int.reduceNeg]))) | (refine callF_v (H.out _ (by (first | exact Sub.refl _ | ((repeat (first | exact Sub.refl _ | (refine Sub.drop ?_ ?_; focus (simp only [none_upd, none_set, not_false_eq_true, true_and, and_true, *]; done)) | refine Sub.both ?_)); done)))) ?_; (try (simp (config := { contextual := true, dsimp := false }) only [*, CliC, Msg.cells, ↓reduceIte, ↓evP, evQ, if_true, if_false, eq_self, binv, eqv, lenv, fillO, splice, fldv, Sp.eqa, eqL, eq1, Nat.reduceAdd, Nat.reduceEqDiff, Nat.reduceLeDiff, Nat.reduceMul, reduceCtorEq, Int.reduceLT, Int.reduceLE, Int.reduceGT, Int.reduceGE, Int.reduceEq, Int.reduceNeg]))) | (refine callF_v (H2.out _ (by (first | exact Sub.refl _ | ((repeat (first | exact Sub.refl _ | (refine Sub.drop ?_ ?_; focus (simp only [none_upd, none_set, not_false_eq_true, true_and, and_true, *]; done)) | refine Sub.both ?_)); done)))) ?_; (try (simp (config := { contextual := true, dsimp := false }) only [*, CliC, Msg.cells, ↓reduceIte, ↓evP, evQ, if_true, if_false, eq_self, binv, eqv, lenv, fillO, splice, fldv, Sp.eqa, eqL, eq1, Nat.reduceAdd, Nat.reduceEqDiff, Nat.reduceLeDiff, Nat.reduceMul, reduceCtorEq, Int.reduceLT, Int.reduceLE, Int.reduceGT, Int.reduceGE, Int.reduceEq, Int.reduceNeg]))) | (refine ccallF_of (H.out _ (by (first | exact Sub.refl _ | ((repeat (first | exact Sub.refl _ | (refine Sub.drop ?_ ?_; focus (simp only [none_upd, none_set, not_false_eq_true, true_and, and_true, *]; done)) | refine Sub.both ?_)); done)))) ?_; (try (simp (config := { contextual := true, dsimp := false }) only [*, CliC, Msg.cells, ↓reduceIte, ↓evP, evQ, if_true, if_false, eq_self, binv, eqv, lenv, fillO, splice, fldv, Sp.eqa, eqL, eq1, Nat.reduceAdd, Nat.reduceEqDiff, Nat.reduceLeDiff, Nat.reduceMul, reduceCtorEq, Int.reduceLT, Int.reduceLE, Int.reduceGT, Int.reduceGE, Int.reduceEq, Int.reduceNeg]))) | (refine ccallF_of (H2.out _ (by (first | exact Sub.refl _ | ((repeat (first | exact Sub.refl _ | (refine Sub.drop ?_ ?_; focus (simp only [none_upd, none_set, not_false_eq_true, true_and, and_true, *]; done)) | refine Sub.both ?_)); done)))) ?_; (try (simp (config := { contextual := true, dsimp := false }) only [*, CliC, Msg.cells, ↓reduceIte, ↓evP, evQ, if_true, if_false, eq_self, binv, eqv, lenv, fillO, splice, fldv, Sp.eqa, eqL, eq1, Nat.reduceAdd, Nat.reduceEqDiff, Nat.reduceLeDiff, Nat.reduceMul, reduceCtorEq, Int.reduceLT, Int.reduceLE, Int.reduceGT, Int.reduceGE, Int.reduceEq, Int.reduceNeg]))) | (refine gcallF_of (H.out _ (by (first | exact Sub.refl _ | ((repeat (first | exact Sub.refl _ | (refine Sub.drop ?_ ?_; focus (simp only [none_upd, none_set, not_false_eq_true, true_and, and_true, *]; done)) | refine Sub.both ?_)); done)))) ?_; (try (simp (config := { contextual := true, dsimp := false }) only [*, CliC, Msg.cells, ↓reduceIte, ↓evP, evQ, if_true, if_false, eq_self, binv, eqv, lenv, fillO, splice, fldv, Sp.eqa, eqL, eq1, Nat.reduceAdd, Nat.reduceEqDiff, Nat.reduceLeDiff, Nat.reduceMul, reduceCtorEq, Int.reduceLT, Int.reduceLE, Int.reduceGT, Int.reduceGE, Int.reduceEq, Int.reduceNeg]))) | (refine gcallF_of (H2.out _ (by (first | exact Sub.refl _ | ((repeat (first | exact Sub.refl _ | (refine Sub.drop ?_ ?_; focus (simp only [none_upd, none_set, not_false_eq_true, true_and, and_true, *]; done)) | refine Sub.both ?_)); done)))) ?_; (try (simp (config := { contextual := true, dsimp := false }) only [*, CliC, Msg.cells, ↓reduceIte, ↓evP, evQ, if_true, if_false, eq_self, binv, eqv, lenv, fillO, splice, fldv, Sp.eqa, eqL, eq1, Nat.reduceAdd, Nat.reduceEqDiff, Nat.reduceLeDiff, Nat.reduceMul, reduceCtorEq, Int.reduceLT, Int.reduceLE, Int.reduceGT, Int.reduceGE, Int.reduceEq, Int.reduceNeg]))) | (intro _; intros) | ((refine And.intro ?_ ?_; focus (first | omega | (first | exact Sub.refl _ | ((repeat (first | exact Sub.refl _ | (refine Sub.drop ?_ ?_; focus (simp only [none_upd, none_set, not_false_eq_true, true_and, and_true, *]; done)) | refine Sub.both ?_)); done)) | ((simp only [decide_eq_true_eq, decide_eq_false_iff_not] at *); omega) | (simp_all; done) | (simp_all; omega))); (try (simp (config := { contextual := true, dsimp := false }) only [*, CliC, Msg.cells, ↓reduceIte, ↓evP, evQ, if_true, if_false, eq_self, binv, eqv, lenv, fillO, splice, fldv, Sp.eqa, eqL, eq1, Nat.reduceAdd, Nat.reduceEqDiff, Nat.reduceLeDiff, Nat.reduceMul, reduceCtorEq, Int.reduceLT, Int.reduceLE, Int.reduceGT, Int.reduceGE, Int.reduceEq, Int.reduceNeg])))))
  refine callF_of (ACalls.beside ?_ HO.out) ?_
  · (simp only [none_upd, none_set, not_false_eq_true, true_and, and_true, *]; done)
  rintro u σ'' ⟨σ1, ⟨m, e, rfl, hw, hk, hR⟩, n1, rfl⟩
  have HR := Hid.mk hR
  clear hR
  simp (config := { contextual := true, dsimp := false }) only [*, CliC, Msg.cells, ↓reduceIte, ↓evP, evQ, if_true, if_false, eq_self, binv, eqv, lenv, fillO, splice, fldv, Sp.eqa, eqL, eq1, Nat.reduceAdd, Nat.reduceEqDiff, Nat.reduceLeDiff, Nat.reduceMul, reduceCtorEq, Int.reduceLT, Int.reduceLE, Int.reduceGT, Int.reduceGE, Int.reduceEq, Int.reduceNeg]
  exact endF_sub (τ := σ1) (by (first | exact Sub.refl _ | ((repeat (first | exact Sub.refl _ | (refine Sub.drop ?_ ?_; focus (simp only [none_upd, none_set, not_false_eq_true, true_and, and_true, *]; done)) | refine Sub.both ?_)); done))) ⟨m, e, rfl, hw, hk, HR.out⟩
theorem retry42g {c : Value} {t r : Int} {p : Nat × Nat} {σ : Hp} {R : Msg → Int → Hp → Prop} (h : YesT c t p σ) (h2 : Rt c r σ) (hop : ACalls Tryd.prog 69 #[.pointer (some ⟨p.1, 0, none⟩), .int .i64 r] σ (MsgE R)) : ACalls Tryd.prog 42 #[c, .int .i64 t] σ (MsgE R) := by
  have H := Hid.mk h
  have H2 := Hid.mk h2
  have HO := Hid.mk hop
  clear h h2 hop
  (refine acalls_F ok42 (by simp) ?_; unfold c42 r42; simp (config := { contextual := true, dsimp := false }) only [CliC, Msg.cells, ↓reduceIte, ↓evP, evQ, if_true, if_false, eq_self, binv, eqv, lenv, fillO, splice, fldv, Sp.eqa, eqL, eq1, Nat.reduceAdd, Nat.reduceEqDiff, Nat.reduceLeDiff, Nat.reduceMul, reduceCtorEq, Int.reduceLT, Int.reduceLE, Int.reduceGT, Int.reduceGE, Int.reduceEq, Int.reduceNeg])
  (repeat' (first | (refine condF_split (fun hc => ?_) (fun hc => ?_) <;> (try simp only [Bool.not_eq_true', Bool.not_eq_false', Bool.and_eq_true, Bool.or_eq_false_iff] at hc) <;> (try (simp (config := { contextual := true, dsimp := false }) only [*, CliC, Msg.cells, ↓reduceIte, ↓evP, evQ, if_true, if_false, eq_self, binv, eqv, lenv, fillO, splice, fldv, Sp.eqa, eqL, eq1, Nat.reduceAdd, Nat.reduceEqDiff, Nat.reduceLeDiff, Nat.reduceMul, reduceCtorEq, Int.reduceLT, Int.reduceLE, Int.reduceGT, Int.reduceGE, Int.reduceEq, Int.reduceNeg]))) | (refine callF_v (H.out _ (by (first | exact Sub.refl _ | ((repeat (first | exact Sub.refl _ | (refine Sub.drop ?_ ?_; focus (simp only [none_upd, none_set, not_false_eq_true, true_and, and_true, *]; done)) | refine Sub.both ?_)); done)))) ?_; (try (simp (config := { contextual := true, dsimp := false }) only [*, CliC, Msg.cells, ↓reduceIte, ↓evP, evQ, if_true, if_false, eq_self, binv, eqv, lenv, fillO, splice, fldv, Sp.eqa, eqL, eq1, Nat.reduceAdd, Nat.reduceEqDiff, Nat.reduceLeDiff, Nat.reduceMul, reduceCtorEq, Int.reduceLT, Int.reduceLE, Int.reduceGT, Int.reduceGE, Int.reduceEq, Int.reduceNeg]))) | (refine callF_v (H2.out _ (by (first | exact Sub.refl _ | ((repeat (first | exact Sub.refl _ | (refine Sub.drop ?_ ?_; focus (simp only [none_upd, none_set, not_false_eq_true, true_and, and_true, *]; done)) | refine Sub.both ?_)); done)))) ?_; (try (simp (config := { contextual := true, dsimp := false }) only [*, CliC, Msg.cells, ↓reduceIte, ↓evP, evQ, if_true, if_false, eq_self, binv, eqv, lenv, fillO, splice, fldv, Sp.eqa, eqL, eq1, Nat.reduceAdd, Nat.reduceEqDiff, Nat.reduceLeDiff, Nat.reduceMul, reduceCtorEq, Int.reduceLT, Int.reduceLE, Int.reduceGT, Int.reduceGE, Int.reduceEq, Int.reduceNeg]))) | (refine ccallF_of (H.out _ (by (first | exact Sub.refl _ | ((repeat (first | exact Sub.refl _ | (refine Sub.drop ?_ ?_; focus (simp only [none_upd, none_set, not_false_eq_true, true_and, and_true, *]; done)) | refine Sub.both ?_)); done)))) ?_; (try (simp (config := { contextual := true, dsimp := false }) only [*, CliC, Msg.cells, ↓reduceIte, ↓evP, evQ, if_true, if_false, eq_self, binv, eqv, lenv, fillO, splice, fldv, Sp.eqa, eqL, eq1, Nat.reduceAdd, Nat.reduceEqDiff, Nat.reduceLeDiff, Nat.reduceMul, reduceCtorEq, Int.reduceLT, Int.reduceLE, Int.reduceGT, Int.reduceGE, Int.reduceEq, Int.reduceNeg]))) | (refine ccallF_of (H2.out _ (by (first | exact Sub.refl _ | ((repeat (first | exact Sub.refl _ | (refine Sub.drop ?_ ?_; focus (simp only [none_upd, none_set, not_false_eq_true, true_and, and_true, *]; done)) | refine Sub.both ?_)); done)))) ?_; (try (simp (config := { contextual := true, dsimp := false }) only [*, CliC, Msg.cells, ↓reduceIte, ↓evP, evQ, if_true, if_false, eq_self, binv, eqv, lenv, fillO, splice, fldv, Sp.eqa, eqL, eq1, Nat.reduceAdd, Nat.reduceEqDiff, Nat.reduceLeDiff, Nat.reduceMul, reduceCtorEq, Int.reduceLT, Int.reduceLE, Int.reduceGT, Int.reduceGE, Int.reduceEq, Int.reduceNeg]))) | (refine gcallF_of (H.out _ (by (first | exact Sub.refl _ | ((repeat (first | exact Sub.refl _ | (refine Sub.drop ?_ ?_; focus (simp only [none_upd, none_set, not_false_eq_true, true_and, and_true, *]; done)) | refine Sub.both ?_)); done)))) ?_; (try (simp (config := { contextual := true, dsimp := false }) only [*, CliC, Msg.cells, ↓reduceIte, ↓evP, evQ, if_true, if_false, eq_self, binv, eqv, lenv, fillO, splice, fldv, Sp.eqa, eqL, eq1, Nat.reduceAdd, Nat.reduceEqDiff, Nat.reduceLeDiff, Nat.reduceMul, reduceCtorEq, Int.reduceLT, Int.reduceLE, Int.reduceGT, Int.reduceGE, Int.reduceEq, Int.reduceNeg]))) | (refine gcallF_of (H2.out _ (by (first | exact Sub.refl _ | ((repeat (first | exact Sub.refl _ | (refine Sub.drop ?_ ?_; focus (simp only [none_upd, none_set, not_false_eq_true, true_and, and_true, *]; done)) | refine Sub.both ?_)); done)))) ?_; (try (simp (config := { contextual := true, dsimp := false }) only [*, CliC, Msg.cells, ↓reduceIte, ↓evP, evQ, if_true, if_false, eq_self, binv, eqv, lenv, fillO, splice, fldv, Sp.eqa, eqL, eq1, Nat.reduceAdd, Nat.reduceEqDiff, Nat.reduceLeDiff, Nat.reduceMul, reduceCtorEq, Int.reduceLT, Int.reduceLE, Int.reduceGT, Int.reduceGE, Int.reduceEq, Int.reduceNeg]))) | (intro _; intros) | ((refine And.intro ?_ ?_; focus (first | omega | (first | exact Sub.refl _ | ((repeat (first | exact Sub.refl _ | (refine Sub.drop ?_ ?_; focus (simp only [none_upd, none_set, not_false_eq_true, true_and, and_true, *]; done)) | refine Sub.both ?_)); done)) | ((simp only [decide_eq_true_eq, decide_eq_false_iff_not] at *); omega) | (simp_all; done) | (simp_all; omega))); (try (simp (config := { contextual := true, dsimp := false }) only [*, CliC, Msg.cells, ↓reduceIte, ↓evP, evQ, if_true, if_false, eq_self, binv, eqv, lenv, fillO, splice, fldv, Sp.eqa, eqL, eq1, Nat.reduceAdd, Nat.reduceEqDiff, Nat.reduceLeDiff, Nat.reduceMul, reduceCtorEq, Int.reduceLT, Int.reduceLE, Int.reduceGT, Int.reduceGE, Int.reduceEq, Int.reduceNeg])))))
  refine callF_of (ACalls.beside ?_ HO.out) ?_
  · (simp only [none_upd, none_set, not_false_eq_true, true_and, and_true, *]; done)
  rintro u σ'' ⟨σ1, ⟨m, e, rfl, hw, hk, hR⟩, n1, rfl⟩
  have HR := Hid.mk hR
  clear hR
  simp (config := { contextual := true, dsimp := false }) only [*, CliC, Msg.cells, ↓reduceIte, ↓evP, evQ, if_true, if_false, eq_self, binv, eqv, lenv, fillO, splice, fldv, Sp.eqa, eqL, eq1, Nat.reduceAdd, Nat.reduceEqDiff, Nat.reduceLeDiff, Nat.reduceMul, reduceCtorEq, Int.reduceLT, Int.reduceLE, Int.reduceGT, Int.reduceGE, Int.reduceEq, Int.reduceNeg]
  exact endF_sub (τ := σ1) (by (first | exact Sub.refl _ | ((repeat (first | exact Sub.refl _ | (refine Sub.drop ?_ ?_; focus (simp only [none_upd, none_set, not_false_eq_true, true_and, and_true, *]; done)) | refine Sub.both ?_)); done))) ⟨m, e, rfl, hw, hk, HR.out⟩
theorem join43g {c : Value} {s : Int} {g : Nat} {t : ByteArray} {σ : Hp} {R : Value → Hp → Prop} (h : YesS c s g σ) (hop : ACalls Tryd.prog 24 #[.pointer (some ⟨g, 0, none⟩), .string t] σ R) : ACalls Tryd.prog 43 #[c, .int .i64 s, .string t] σ R := by
  have H := Hid.mk h
  have HO := Hid.mk hop
  clear h hop
  (refine acalls_F ok43 (by simp) ?_; unfold c43 r43; simp (config := { contextual := true, dsimp := false }) only [CliC, Msg.cells, ↓reduceIte, ↓evP, evQ, if_true, if_false, eq_self, binv, eqv, lenv, fillO, splice, fldv, Sp.eqa, eqL, eq1, Nat.reduceAdd, Nat.reduceEqDiff, Nat.reduceLeDiff, Nat.reduceMul, reduceCtorEq, Int.reduceLT, Int.reduceLE, Int.reduceGT, Int.reduceGE, Int.reduceEq, Int.reduceNeg])
  (repeat' (first | (refine condF_split (fun hc => ?_) (fun hc => ?_) <;> (try simp only [Bool.not_eq_true', Bool.not_eq_false', Bool.and_eq_true, Bool.or_eq_false_iff] at hc) <;> (try (simp (config := { contextual := true, dsimp := false }) only [*, CliC, Msg.cells, ↓reduceIte, ↓evP, evQ, if_true, if_false, eq_self, binv, eqv, lenv, fillO, splice, fldv, Sp.eqa, eqL, eq1, Nat.reduceAdd, Nat.reduceEqDiff, Nat.reduceLeDiff, Nat.reduceMul, reduceCtorEq, Int.reduceLT, Int.reduceLE, Int.reduceGT, Int.reduceGE, Int.reduceEq, Int.reduceNeg]))) | (refine callF_v (H.out _ (by (first | exact Sub.refl _ | ((repeat (first | exact Sub.refl _ | (refine Sub.drop ?_ ?_; focus (simp only [none_upd, none_set, not_false_eq_true, true_and, and_true, *]; done)) | refine Sub.both ?_)); done)))) ?_; (try (simp (config := { contextual := true, dsimp := false }) only [*, CliC, Msg.cells, ↓reduceIte, ↓evP, evQ, if_true, if_false, eq_self, binv, eqv, lenv, fillO, splice, fldv, Sp.eqa, eqL, eq1, Nat.reduceAdd, Nat.reduceEqDiff, Nat.reduceLeDiff, Nat.reduceMul, reduceCtorEq, Int.reduceLT, Int.reduceLE, Int.reduceGT, Int.reduceGE, Int.reduceEq, Int.reduceNeg]))) | (refine ccallF_of (H.out _ (by (first | exact Sub.refl _ | ((repeat (first | exact Sub.refl _ | (refine Sub.drop ?_ ?_; focus (simp only [none_upd, none_set, not_false_eq_true, true_and, and_true, *]; done)) | refine Sub.both ?_)); done)))) ?_; (try (simp (config := { contextual := true, dsimp := false }) only [*, CliC, Msg.cells, ↓reduceIte, ↓evP, evQ, if_true, if_false, eq_self, binv, eqv, lenv, fillO, splice, fldv, Sp.eqa, eqL, eq1, Nat.reduceAdd, Nat.reduceEqDiff, Nat.reduceLeDiff, Nat.reduceMul, reduceCtorEq, Int.reduceLT, Int.reduceLE, Int.reduceGT, Int.reduceGE, Int.reduceEq, Int.reduceNeg]))) | (refine gcallF_of (H.out _ (by (first | exact Sub.refl _ | ((repeat (first | exact Sub.refl _ | (refine Sub.drop ?_ ?_; focus (simp only [none_upd, none_set, not_false_eq_true, true_and, and_true, *]; done)) | refine Sub.both ?_)); done)))) ?_; (try (simp (config := { contextual := true, dsimp := false }) only [*, CliC, Msg.cells, ↓reduceIte, ↓evP, evQ, if_true, if_false, eq_self, binv, eqv, lenv, fillO, splice, fldv, Sp.eqa, eqL, eq1, Nat.reduceAdd, Nat.reduceEqDiff, Nat.reduceLeDiff, Nat.reduceMul, reduceCtorEq, Int.reduceLT, Int.reduceLE, Int.reduceGT, Int.reduceGE, Int.reduceEq, Int.reduceNeg]))) | (intro _; intros) | ((refine And.intro ?_ ?_; focus (first | omega | (first | exact Sub.refl _ | ((repeat (first | exact Sub.refl _ | (refine Sub.drop ?_ ?_; focus (simp only [none_upd, none_set, not_false_eq_true, true_and, and_true, *]; done)) | refine Sub.both ?_)); done)) | ((simp only [decide_eq_true_eq, decide_eq_false_iff_not] at *); omega) | (simp_all; done) | (simp_all; omega))); (try (simp (config := { contextual := true, dsimp := false }) only [*, CliC, Msg.cells, ↓reduceIte, ↓evP, evQ, if_true, if_false, eq_self, binv, eqv, lenv, fillO, splice, fldv, Sp.eqa, eqL, eq1, Nat.reduceAdd, Nat.reduceEqDiff, Nat.reduceLeDiff, Nat.reduceMul, reduceCtorEq, Int.reduceLT, Int.reduceLE, Int.reduceGT, Int.reduceGE, Int.reduceEq, Int.reduceNeg])))))
  refine callF_of HO.out ?_
  intro u σ1 hR
  have HR := Hid.mk hR
  clear hR
  simp (config := { contextual := true, dsimp := false }) only [*, CliC, Msg.cells, ↓reduceIte, ↓evP, evQ, if_true, if_false, eq_self, binv, eqv, lenv, fillO, splice, fldv, Sp.eqa, eqL, eq1, Nat.reduceAdd, Nat.reduceEqDiff, Nat.reduceLeDiff, Nat.reduceMul, reduceCtorEq, Int.reduceLT, Int.reduceLE, Int.reduceGT, Int.reduceGE, Int.reduceEq, Int.reduceNeg]
  exact endF_at HR.out
theorem token41g {c : Value} {s n : Int} {g : Nat} {σ : Hp} {k : ByteArray} {e : Int} (h : YesS c s g σ) (hf : ACalls Tryd.prog 26 #[.pointer (some ⟨g, 0, none⟩)] σ fun u σ' => u = .int .i64 n ∧ σ' = σ) (ht : ACalls Tryd.prog 19 #[.int .i64 n] σ fun u σ' => u = .tuple #[.string k, .int .i64 e] ∧ σ' = σ) :
    ACalls Tryd.prog 41 #[c, .int .i64 s] σ fun u σ' => u = .tuple #[.string k, .int .i64 e] ∧ σ' = σ := by
  have H := Hid.mk h
  have H2 := Hid.mk hf
  have H3 := Hid.mk ht
  clear h hf ht
  (refine acalls_F ok41 (by simp) ?_; unfold c41 r41; simp (config := { contextual := true, dsimp := false }) only [CliC, Msg.cells, ↓reduceIte, ↓evP, evQ, if_true, if_false, eq_self, binv, eqv, lenv, fillO, splice, fldv, Sp.eqa, eqL, eq1, Nat.reduceAdd, Nat.reduceEqDiff, Nat.reduceLeDiff, Nat.reduceMul, reduceCtorEq, Int.reduceLT, Int.reduceLE, Int.reduceGT, Int.reduceGE, Int.reduceEq, Int.reduceNeg])
  (repeat' (first | (refine condF_split (fun hc => ?_) (fun hc => ?_) <;> (try simp only [Bool.not_eq_true', Bool.not_eq_false', Bool.and_eq_true, Bool.or_eq_false_iff] at hc) <;> (try (simp (config := { contextual := true, dsimp := false }) only [*, CliC, Msg.cells, ↓reduceIte, ↓evP, evQ, if_true, if_false, eq_self, binv, eqv, lenv, fillO, splice, fldv, Sp.eqa, eqL, eq1, Nat.reduceAdd, Nat.reduceEqDiff, Nat.reduceLeDiff, Nat.reduceMul, reduceCtorEq, Int.reduceLT, Int.reduceLE, Int.reduceGT, Int.reduceGE, Int.reduceEq, Int.reduceNeg]))) | (refine callF_v (H.out _ (by (first | exact Sub.refl _ | ((repeat (first | exact Sub.refl _ | (refine Sub.drop ?_ ?_; focus (simp only [none_upd, none_set, not_false_eq_true, true_and, and_true, *]; done)) | refine Sub.both ?_)); done)))) ?_; (try (simp (config := { contextual := true, dsimp := false }) only [*, CliC, Msg.cells, ↓reduceIte, ↓evP, evQ, if_true, if_false, eq_self, binv, eqv, lenv, fillO, splice, fldv, Sp.eqa, eqL, eq1, Nat.reduceAdd, Nat.reduceEqDiff, Nat.reduceLeDiff, Nat.reduceMul, reduceCtorEq, Int.reduceLT, Int.reduceLE, Int.reduceGT, Int.reduceGE, Int.reduceEq, Int.reduceNeg]))) | (refine callF_v (H2.out) ?_; (try (simp (config := { contextual := true, dsimp := false }) only [*, CliC, Msg.cells, ↓reduceIte, ↓evP, evQ, if_true, if_false, eq_self, binv, eqv, lenv, fillO, splice, fldv, Sp.eqa, eqL, eq1, Nat.reduceAdd, Nat.reduceEqDiff, Nat.reduceLeDiff, Nat.reduceMul, reduceCtorEq, Int.reduceLT, Int.reduceLE, Int.reduceGT, Int.reduceGE, Int.reduceEq, Int.reduceNeg]))) | (refine callF_v (H3.out) ?_; (try (simp (config := { contextual := true, dsimp := false }) only [*, CliC, Msg.cells, ↓reduceIte, ↓evP, evQ, if_true, if_false, eq_self, binv, eqv, lenv, fillO, splice, fldv, Sp.eqa, eqL, eq1, Nat.reduceAdd, Nat.reduceEqDiff, Nat.reduceLeDiff, Nat.reduceMul, reduceCtorEq, Int.reduceLT, Int.reduceLE, Int.reduceGT, Int.reduceGE, Int.reduceEq, Int.reduceNeg]))) | (refine ccallF_of (H.out _ (by (first | exact Sub.refl _ | ((repeat (first | exact Sub.refl _ | (refine Sub.drop ?_ ?_; focus (simp only [none_upd, none_set, not_false_eq_true, true_and, and_true, *]; done)) | refine Sub.both ?_)); done)))) ?_; (try (simp (config := { contextual := true, dsimp := false }) only [*, CliC, Msg.cells, ↓reduceIte, ↓evP, evQ, if_true, if_false, eq_self, binv, eqv, lenv, fillO, splice, fldv, Sp.eqa, eqL, eq1, Nat.reduceAdd, Nat.reduceEqDiff, Nat.reduceLeDiff, Nat.reduceMul, reduceCtorEq, Int.reduceLT, Int.reduceLE, Int.reduceGT, Int.reduceGE, Int.reduceEq, Int.reduceNeg]))) | (refine ccallF_of (H2.out) ?_; (try (simp (config := { contextual := true, dsimp := false }) only [*, CliC, Msg.cells, ↓reduceIte, ↓evP, evQ, if_true, if_false, eq_self, binv, eqv, lenv, fillO, splice, fldv, Sp.eqa, eqL, eq1, Nat.reduceAdd, Nat.reduceEqDiff, Nat.reduceLeDiff, Nat.reduceMul, reduceCtorEq, Int.reduceLT, Int.reduceLE, Int.reduceGT, Int.reduceGE, Int.reduceEq, Int.reduceNeg]))) | (refine ccallF_of (H3.out) ?_; (try (simp (config := { contextual := true, dsimp := false }) only [*, CliC, Msg.cells, ↓reduceIte, ↓evP, evQ, if_true, if_false, eq_self, binv, eqv, lenv, fillO, splice, fldv, Sp.eqa, eqL, eq1, Nat.reduceAdd, Nat.reduceEqDiff, Nat.reduceLeDiff, Nat.reduceMul, reduceCtorEq, Int.reduceLT, Int.reduceLE, Int.reduceGT, Int.reduceGE, Int.reduceEq, Int.reduceNeg]))) | (refine gcallF_of (H.out _ (by (first | exact Sub.refl _ | ((repeat (first | exact Sub.refl _ | (refine Sub.drop ?_ ?_; focus (simp only [none_upd, none_set, not_false_eq_true, true_and, and_true, *]; done)) | refine Sub.both ?_)); done)))) ?_; (try (simp (config := { contextual := true, dsimp := false }) only [*, CliC, Msg.cells, ↓reduceIte, ↓evP, evQ, if_true, if_false, eq_self, binv, eqv, lenv, fillO, splice, fldv, Sp.eqa, eqL, eq1, Nat.reduceAdd, Nat.reduceEqDiff, Nat.reduceLeDiff, Nat.reduceMul, reduceCtorEq, Int.reduceLT, Int.reduceLE, Int.reduceGT, Int.reduceGE, Int.reduceEq, Int.reduceNeg]))) | (refine gcallF_of (H2.out) ?_; (try (simp (config := { contextual := true, dsimp := false }) only [*, CliC, Msg.cells, ↓reduceIte, ↓evP, evQ, if_true, if_false, eq_self, binv, eqv, lenv, fillO, splice, fldv, Sp.eqa, eqL, eq1, Nat.reduceAdd, Nat.reduceEqDiff, Nat.reduceLeDiff, Nat.reduceMul, reduceCtorEq, Int.reduceLT, Int.reduceLE, Int.reduceGT, Int.reduceGE, Int.reduceEq, Int.reduceNeg]))) | (refine gcallF_of (H3.out) ?_; (try (simp (config := { contextual := true, dsimp := false }) only [*, CliC, Msg.cells, ↓reduceIte, ↓evP, evQ, if_true, if_false, eq_self, binv, eqv, lenv, fillO, splice, fldv, Sp.eqa, eqL, eq1, Nat.reduceAdd, Nat.reduceEqDiff, Nat.reduceLeDiff, Nat.reduceMul, reduceCtorEq, Int.reduceLT, Int.reduceLE, Int.reduceGT, Int.reduceGE, Int.reduceEq, Int.reduceNeg]))) | (intro _; intros) | ((refine And.intro ?_ ?_; focus (first | omega | (first | exact Sub.refl _ | ((repeat (first | exact Sub.refl _ | (refine Sub.drop ?_ ?_; focus (simp only [none_upd, none_set, not_false_eq_true, true_and, and_true, *]; done)) | refine Sub.both ?_)); done)) | ((simp only [decide_eq_true_eq, decide_eq_false_iff_not] at *); omega) | (simp_all; done) | (simp_all; omega))); (try (simp (config := { contextual := true, dsimp := false }) only [*, CliC, Msg.cells, ↓reduceIte, ↓evP, evQ, if_true, if_false, eq_self, binv, eqv, lenv, fillO, splice, fldv, Sp.eqa, eqL, eq1, Nat.reduceAdd, Nat.reduceEqDiff, Nat.reduceLeDiff, Nat.reduceMul, reduceCtorEq, Int.reduceLT, Int.reduceLE, Int.reduceGT, Int.reduceGE, Int.reduceEq, Int.reduceNeg])))))
  all_goals (refine endF_det ?_ ?_; (focus ((try simp only [cond_true, cond_false, *]) <;> ((try simp only [decide_eq_true_eq, decide_eq_false_iff_not] at *) <;> first | rfl | (simp []; done) | (simp_all []; done) | (simp []; omega) | (simp []; (rw [Bool.eq_iff_iff]); simp; omega) | (simp_all [] <;> omega) | ((try unfold id); (rw [Value.bool.injEq, Bool.eq_iff_iff]); simp <;> omega) | ((try unfold id); (repeat' split) <;> simp_all <;> omega) | (simp_all [] <;> (repeat' split) <;> simp_all <;> omega)))); (focus ((try simp only [cond_true, cond_false, set_same, *]); exact (by (first | exact Sub.refl _ | ((repeat (first | exact Sub.refl _ | (refine Sub.drop ?_ ?_; focus (simp only [none_upd, none_set, not_false_eq_true, true_and, and_true, *]; done)) | refine Sub.both ?_)); done))))))
theorem session37g {c : Value} {s : Int} {g : Nat} {σ : Hp} {S : SesS} (h : YesS c s g σ) (hf : ∀ σ', Sub σ σ' → ACalls Tryd.prog 18 #[.pointer (some ⟨g, 0, none⟩)] σ' fun u σ'' => u = .agg S.view.toArray ∧ σ'' = σ') :
    ACalls Tryd.prog 37 #[c, .int .i64 s] σ fun u σ' => u = .tuple #[.agg S.view.toArray, .bool true] ∧ σ' = σ := by
  have H := Hid.mk h
  have H2 := Hid.mk hf
  clear h hf
  unfold SesS.view at *
  (refine acalls_F ok37 (by simp) ?_; unfold c37 r37; simp (config := { contextual := true, dsimp := false }) only [CliC, Msg.cells, ↓reduceIte, ↓evP, evQ, if_true, if_false, eq_self, binv, eqv, lenv, fillO, splice, fldv, Sp.eqa, eqL, eq1, Nat.reduceAdd, Nat.reduceEqDiff, Nat.reduceLeDiff, Nat.reduceMul, reduceCtorEq, Int.reduceLT, Int.reduceLE, Int.reduceGT, Int.reduceGE, Int.reduceEq, Int.reduceNeg])
  (repeat' (first | (refine condF_split (fun hc => ?_) (fun hc => ?_) <;> (try simp only [Bool.not_eq_true', Bool.not_eq_false', Bool.and_eq_true, Bool.or_eq_false_iff] at hc) <;> (try (simp (config := { contextual := true, dsimp := false }) only [*, CliC, Msg.cells, ↓reduceIte, ↓evP, evQ, if_true, if_false, eq_self, binv, eqv, lenv, fillO, splice, fldv, Sp.eqa, eqL, eq1, Nat.reduceAdd, Nat.reduceEqDiff, Nat.reduceLeDiff, Nat.reduceMul, reduceCtorEq, Int.reduceLT, Int.reduceLE, Int.reduceGT, Int.reduceGE, Int.reduceEq, Int.reduceNeg]))) | (refine callF_v (H.out _ (by (first | exact Sub.refl _ | ((repeat (first | exact Sub.refl _ | (refine Sub.drop ?_ ?_; focus (simp only [none_upd, none_set, not_false_eq_true, true_and, and_true, *]; done)) | refine Sub.both ?_)); done)))) ?_; (try (simp (config := { contextual := true, dsimp := false }) only [*, CliC, Msg.cells, ↓reduceIte, ↓evP, evQ, if_true, if_false, eq_self, binv, eqv, lenv, fillO, splice, fldv, Sp.eqa, eqL, eq1, Nat.reduceAdd, Nat.reduceEqDiff, Nat.reduceLeDiff, Nat.reduceMul, reduceCtorEq, Int.reduceLT, Int.reduceLE, Int.reduceGT, Int.reduceGE, Int.reduceEq, Int.reduceNeg]))) | (refine callF_v (H2.out _ (by (first | exact Sub.refl _ | ((repeat (first | exact Sub.refl _ | (refine Sub.drop ?_ ?_; focus (simp only [none_upd, none_set, not_false_eq_true, true_and, and_true, *]; done)) | refine Sub.both ?_)); done)))) ?_; (try (simp (config := { contextual := true, dsimp := false }) only [*, CliC, Msg.cells, ↓reduceIte, ↓evP, evQ, if_true, if_false, eq_self, binv, eqv, lenv, fillO, splice, fldv, Sp.eqa, eqL, eq1, Nat.reduceAdd, Nat.reduceEqDiff, Nat.reduceLeDiff, Nat.reduceMul, reduceCtorEq, Int.reduceLT, Int.reduceLE, Int.reduceGT, Int.reduceGE, Int.reduceEq, Int.reduceNeg]))) | (refine ccallF_of (H.out _ (by (first | exact Sub.refl _ | ((repeat (first | exact Sub.refl _ | (refine Sub.drop ?_ ?_; focus (simp only [none_upd, none_set, not_false_eq_true, true_and, and_true, *]; done)) | refine Sub.both ?_)); done)))) ?_; (try (simp (config := { contextual := true, dsimp := false }) only [*, CliC, Msg.cells, ↓reduceIte, ↓evP, evQ, if_true, if_false, eq_self, binv, eqv, lenv, fillO, splice, fldv, Sp.eqa, eqL, eq1, Nat.reduceAdd, Nat.reduceEqDiff, Nat.reduceLeDiff, Nat.reduceMul, reduceCtorEq, Int.reduceLT, Int.reduceLE, Int.reduceGT, Int.reduceGE, Int.reduceEq, Int.reduceNeg]))) | (refine ccallF_of (H2.out _ (by (first | exact Sub.refl _ | ((repeat (first | exact Sub.refl _ | (refine Sub.drop ?_ ?_; focus (simp only [none_upd, none_set, not_false_eq_true, true_and, and_true, *]; done)) | refine Sub.both ?_)); done)))) ?_; (try (simp (config := { contextual := true, dsimp := false }) only [*, CliC, Msg.cells, ↓reduceIte, ↓evP, evQ, if_true, if_false, eq_self, binv, eqv, lenv, fillO, splice, fldv, Sp.eqa, eqL, eq1, Nat.reduceAdd, Nat.reduceEqDiff, Nat.reduceLeDiff, Nat.reduceMul, reduceCtorEq, Int.reduceLT, Int.reduceLE, Int.reduceGT, Int.reduceGE, Int.reduceEq, Int.reduceNeg]))) | (refine gcallF_of (H.out _ (by (first | exact Sub.refl _ | ((repeat (first | exact Sub.refl _ | (refine Sub.drop ?_ ?_; focus (simp only [none_upd, none_set, not_false_eq_true, true_and, and_true, *]; done)) | refine Sub.both ?_)); done)))) ?_; (try (simp (config := { contextual := true, dsimp := false }) only [*, CliC, Msg.cells, ↓reduceIte, ↓evP, evQ, if_true, if_false, eq_self, binv, eqv, lenv, fillO, splice, fldv, Sp.eqa, eqL, eq1, Nat.reduceAdd, Nat.reduceEqDiff, Nat.reduceLeDiff, Nat.reduceMul, reduceCtorEq, Int.reduceLT, Int.reduceLE, Int.reduceGT, Int.reduceGE, Int.reduceEq, Int.reduceNeg]))) | (refine gcallF_of (H2.out _ (by (first | exact Sub.refl _ | ((repeat (first | exact Sub.refl _ | (refine Sub.drop ?_ ?_; focus (simp only [none_upd, none_set, not_false_eq_true, true_and, and_true, *]; done)) | refine Sub.both ?_)); done)))) ?_; (try (simp (config := { contextual := true, dsimp := false }) only [*, CliC, Msg.cells, ↓reduceIte, ↓evP, evQ, if_true, if_false, eq_self, binv, eqv, lenv, fillO, splice, fldv, Sp.eqa, eqL, eq1, Nat.reduceAdd, Nat.reduceEqDiff, Nat.reduceLeDiff, Nat.reduceMul, reduceCtorEq, Int.reduceLT, Int.reduceLE, Int.reduceGT, Int.reduceGE, Int.reduceEq, Int.reduceNeg]))) | (intro _; intros) | ((refine And.intro ?_ ?_; focus (first | omega | (first | exact Sub.refl _ | ((repeat (first | exact Sub.refl _ | (refine Sub.drop ?_ ?_; focus (simp only [none_upd, none_set, not_false_eq_true, true_and, and_true, *]; done)) | refine Sub.both ?_)); done)) | ((simp only [decide_eq_true_eq, decide_eq_false_iff_not] at *); omega) | (simp_all; done) | (simp_all; omega))); (try (simp (config := { contextual := true, dsimp := false }) only [*, CliC, Msg.cells, ↓reduceIte, ↓evP, evQ, if_true, if_false, eq_self, binv, eqv, lenv, fillO, splice, fldv, Sp.eqa, eqL, eq1, Nat.reduceAdd, Nat.reduceEqDiff, Nat.reduceLeDiff, Nat.reduceMul, reduceCtorEq, Int.reduceLT, Int.reduceLE, Int.reduceGT, Int.reduceGE, Int.reduceEq, Int.reduceNeg])))))
  all_goals (refine endF_det ?_ ?_; (focus ((try simp only [cond_true, cond_false, *]) <;> ((try simp only [decide_eq_true_eq, decide_eq_false_iff_not] at *) <;> first | rfl | (simp []; done) | (simp_all []; done) | (simp []; omega) | (simp []; (rw [Bool.eq_iff_iff]); simp; omega) | (simp_all [] <;> omega) | ((try unfold id); (rw [Value.bool.injEq, Bool.eq_iff_iff]); simp <;> omega) | ((try unfold id); (repeat' split) <;> simp_all <;> omega) | (simp_all [] <;> (repeat' split) <;> simp_all <;> omega)))); (focus ((try simp only [cond_true, cond_false, set_same, *]); exact (by (first | exact Sub.refl _ | ((repeat (first | exact Sub.refl _ | (refine Sub.drop ?_ ?_; focus (simp only [none_upd, none_set, not_false_eq_true, true_and, and_true, *]; done)) | refine Sub.both ?_)); done))))))
theorem hear35a {c : Value} {g : Nat} {σ : Hp} {m : Msg} {R : Bool → Hp → Prop} (hm : m.kind = 2) (h : YesS c m.session g σ) (hop : ACalls Tryd.prog 25 #[.pointer (some ⟨g, 0, none⟩), .agg m.cells.toArray] σ fun u σ' => ∃ b, u = .bool b ∧ R b σ') :
    ACalls Tryd.prog 35 #[c, .agg m.cells.toArray] σ fun u σ' => ∃ b, u = .tuple #[.agg ({} : Msg).cells.toArray, .bool b] ∧ R b σ' := by
  have H := Hid.mk h
  have HO := Hid.mk hop
  have hk : decide (m.kind = 2) = true := by simp [hm]
  clear h hop hm
  (refine acalls_F ok35 (by simp) ?_; unfold c35 r35; simp (config := { contextual := true, dsimp := false }) only [CliC, Msg.cells, ↓reduceIte, ↓evP, evQ, if_true, if_false, eq_self, binv, eqv, lenv, fillO, splice, fldv, Sp.eqa, eqL, eq1, Nat.reduceAdd, Nat.reduceEqDiff, Nat.reduceLeDiff, Nat.reduceMul, reduceCtorEq, Int.reduceLT, Int.reduceLE, Int.reduceGT, Int.reduceGE, Int.reduceEq, Int.reduceNeg])
  simp (config := { contextual := true, dsimp := false }) only [*, CliC, Msg.cells, ↓reduceIte, ↓evP, evQ, if_true, if_false, eq_self, binv, eqv, lenv, fillO, splice, fldv, Sp.eqa, eqL, eq1, Nat.reduceAdd, Nat.reduceEqDiff, Nat.reduceLeDiff, Nat.reduceMul, reduceCtorEq, Int.reduceLT, Int.reduceLE, Int.reduceGT, Int.reduceGE, Int.reduceEq, Int.reduceNeg]
  (repeat' (first | (refine condF_split (fun hc => ?_) (fun hc => ?_) <;> (try simp only [Bool.not_eq_true', Bool.not_eq_false', Bool.and_eq_true, Bool.or_eq_false_iff] at hc) <;> (try (simp (config := { contextual := true, dsimp := false }) only [*, CliC, Msg.cells, ↓reduceIte, ↓evP, evQ, if_true, if_false, eq_self, binv, eqv, lenv, fillO, splice, fldv, Sp.eqa, eqL, eq1, Nat.reduceAdd, Nat.reduceEqDiff, Nat.reduceLeDiff, Nat.reduceMul, reduceCtorEq, Int.reduceLT, Int.reduceLE, Int.reduceGT, Int.reduceGE, Int.reduceEq, Int.reduceNeg]))) | (refine callF_v (H.out _ (by (first | exact Sub.refl _ | ((repeat (first | exact Sub.refl _ | (refine Sub.drop ?_ ?_; focus (simp only [none_upd, none_set, not_false_eq_true, true_and, and_true, *]; done)) | refine Sub.both ?_)); done)))) ?_; (try (simp (config := { contextual := true, dsimp := false }) only [*, CliC, Msg.cells, ↓reduceIte, ↓evP, evQ, if_true, if_false, eq_self, binv, eqv, lenv, fillO, splice, fldv, Sp.eqa, eqL, eq1, Nat.reduceAdd, Nat.reduceEqDiff, Nat.reduceLeDiff, Nat.reduceMul, reduceCtorEq, Int.reduceLT, Int.reduceLE, Int.reduceGT, Int.reduceGE, Int.reduceEq, Int.reduceNeg]))) | (refine ccallF_of (H.out _ (by (first | exact Sub.refl _ | ((repeat (first | exact Sub.refl _ | (refine Sub.drop ?_ ?_; focus (simp only [none_upd, none_set, not_false_eq_true, true_and, and_true, *]; done)) | refine Sub.both ?_)); done)))) ?_; (try (simp (config := { contextual := true, dsimp := false }) only [*, CliC, Msg.cells, ↓reduceIte, ↓evP, evQ, if_true, if_false, eq_self, binv, eqv, lenv, fillO, splice, fldv, Sp.eqa, eqL, eq1, Nat.reduceAdd, Nat.reduceEqDiff, Nat.reduceLeDiff, Nat.reduceMul, reduceCtorEq, Int.reduceLT, Int.reduceLE, Int.reduceGT, Int.reduceGE, Int.reduceEq, Int.reduceNeg]))) | (refine gcallF_of (H.out _ (by (first | exact Sub.refl _ | ((repeat (first | exact Sub.refl _ | (refine Sub.drop ?_ ?_; focus (simp only [none_upd, none_set, not_false_eq_true, true_and, and_true, *]; done)) | refine Sub.both ?_)); done)))) ?_; (try (simp (config := { contextual := true, dsimp := false }) only [*, CliC, Msg.cells, ↓reduceIte, ↓evP, evQ, if_true, if_false, eq_self, binv, eqv, lenv, fillO, splice, fldv, Sp.eqa, eqL, eq1, Nat.reduceAdd, Nat.reduceEqDiff, Nat.reduceLeDiff, Nat.reduceMul, reduceCtorEq, Int.reduceLT, Int.reduceLE, Int.reduceGT, Int.reduceGE, Int.reduceEq, Int.reduceNeg]))) | (intro _; intros) | ((refine And.intro ?_ ?_; focus (first | omega | (first | exact Sub.refl _ | ((repeat (first | exact Sub.refl _ | (refine Sub.drop ?_ ?_; focus (simp only [none_upd, none_set, not_false_eq_true, true_and, and_true, *]; done)) | refine Sub.both ?_)); done)) | ((simp only [decide_eq_true_eq, decide_eq_false_iff_not] at *); omega) | (simp_all; done) | (simp_all; omega))); (try (simp (config := { contextual := true, dsimp := false }) only [*, CliC, Msg.cells, ↓reduceIte, ↓evP, evQ, if_true, if_false, eq_self, binv, eqv, lenv, fillO, splice, fldv, Sp.eqa, eqL, eq1, Nat.reduceAdd, Nat.reduceEqDiff, Nat.reduceLeDiff, Nat.reduceMul, reduceCtorEq, Int.reduceLT, Int.reduceLE, Int.reduceGT, Int.reduceGE, Int.reduceEq, Int.reduceNeg])))))
  refine callF_of (ACalls.beside ?_ (ACalls.beside ?_ HO.out)) ?_
  · (simp only [none_upd, none_set, not_false_eq_true, true_and, and_true, *]; done)
  · (simp only [none_upd, none_set, not_false_eq_true, true_and, and_true, *]; done)
  rintro u σ'' ⟨_, ⟨σ1, ⟨b, rfl, hR⟩, n1, rfl⟩, n2, rfl⟩
  simp only [none_upd] at n2
  have HR := Hid.mk hR
  clear hR
  simp (config := { contextual := true, dsimp := false }) only [*, CliC, Msg.cells, ↓reduceIte, ↓evP, evQ, if_true, if_false, eq_self, binv, eqv, lenv, fillO, splice, fldv, Sp.eqa, eqL, eq1, Nat.reduceAdd, Nat.reduceEqDiff, Nat.reduceLeDiff, Nat.reduceMul, reduceCtorEq, Int.reduceLT, Int.reduceLE, Int.reduceGT, Int.reduceGE, Int.reduceEq, Int.reduceNeg]
  exact endF_sub (τ := σ1) (by (first | exact Sub.refl _ | ((repeat (first | exact Sub.refl _ | (refine Sub.drop ?_ ?_; focus (simp only [none_upd, none_set, not_false_eq_true, true_and, and_true, *]; done)) | refine Sub.both ?_)); done))) ⟨b, rfl, HR.out⟩
theorem hear35t {c : Value} {p : Nat × Nat} {σ : Hp} {m : Msg} {R : Msg → Bool → Hp → Prop} (hm : m.kind ≠ 2) (h : YesT c m.tx p σ) (hop : ACalls Tryd.prog 65 #[.pointer (some ⟨p.1, 0, none⟩), .agg m.cells.toArray] σ (MsgB R)) :
    ACalls Tryd.prog 35 #[c, .agg m.cells.toArray] σ (MsgB R) := by
  have H := Hid.mk h
  have HO := Hid.mk hop
  have hk : decide (m.kind = 2) = false := by simp [hm]
  clear h hop hm
  (refine acalls_F ok35 (by simp) ?_; unfold c35 r35; simp (config := { contextual := true, dsimp := false }) only [CliC, Msg.cells, ↓reduceIte, ↓evP, evQ, if_true, if_false, eq_self, binv, eqv, lenv, fillO, splice, fldv, Sp.eqa, eqL, eq1, Nat.reduceAdd, Nat.reduceEqDiff, Nat.reduceLeDiff, Nat.reduceMul, reduceCtorEq, Int.reduceLT, Int.reduceLE, Int.reduceGT, Int.reduceGE, Int.reduceEq, Int.reduceNeg])
  simp (config := { contextual := true, dsimp := false }) only [*, CliC, Msg.cells, ↓reduceIte, ↓evP, evQ, if_true, if_false, eq_self, binv, eqv, lenv, fillO, splice, fldv, Sp.eqa, eqL, eq1, Nat.reduceAdd, Nat.reduceEqDiff, Nat.reduceLeDiff, Nat.reduceMul, reduceCtorEq, Int.reduceLT, Int.reduceLE, Int.reduceGT, Int.reduceGE, Int.reduceEq, Int.reduceNeg]
  (repeat' (first | (refine condF_split (fun hc => ?_) (fun hc => ?_) <;> (try simp only [Bool.not_eq_true', Bool.not_eq_false', Bool.and_eq_true, Bool.or_eq_false_iff] at hc) <;> (try (simp (config := { contextual := true, dsimp := false }) only [*, CliC, Msg.cells, ↓reduceIte, ↓evP, evQ, if_true, if_false, eq_self, binv, eqv, lenv, fillO, splice, fldv, Sp.eqa, eqL, eq1, Nat.reduceAdd, Nat.reduceEqDiff, Nat.reduceLeDiff, Nat.reduceMul, reduceCtorEq, Int.reduceLT, Int.reduceLE, Int.reduceGT, Int.reduceGE, Int.reduceEq, Int.reduceNeg]))) | (refine callF_v (H.out _ (by (first | exact Sub.refl _ | ((repeat (first | exact Sub.refl _ | (refine Sub.drop ?_ ?_; focus (simp only [none_upd, none_set, not_false_eq_true, true_and, and_true, *]; done)) | refine Sub.both ?_)); done)))) ?_; (try (simp (config := { contextual := true, dsimp := false }) only [*, CliC, Msg.cells, ↓reduceIte, ↓evP, evQ, if_true, if_false, eq_self, binv, eqv, lenv, fillO, splice, fldv, Sp.eqa, eqL, eq1, Nat.reduceAdd, Nat.reduceEqDiff, Nat.reduceLeDiff, Nat.reduceMul, reduceCtorEq, Int.reduceLT, Int.reduceLE, Int.reduceGT, Int.reduceGE, Int.reduceEq, Int.reduceNeg]))) | (refine ccallF_of (H.out _ (by (first | exact Sub.refl _ | ((repeat (first | exact Sub.refl _ | (refine Sub.drop ?_ ?_; focus (simp only [none_upd, none_set, not_false_eq_true, true_and, and_true, *]; done)) | refine Sub.both ?_)); done)))) ?_; (try (simp (config := { contextual := true, dsimp := false }) only [*, CliC, Msg.cells, ↓reduceIte, ↓evP, evQ, if_true, if_false, eq_self, binv, eqv, lenv, fillO, splice, fldv, Sp.eqa, eqL, eq1, Nat.reduceAdd, Nat.reduceEqDiff, Nat.reduceLeDiff, Nat.reduceMul, reduceCtorEq, Int.reduceLT, Int.reduceLE, Int.reduceGT, Int.reduceGE, Int.reduceEq, Int.reduceNeg]))) | (refine gcallF_of (H.out _ (by (first | exact Sub.refl _ | ((repeat (first | exact Sub.refl _ | (refine Sub.drop ?_ ?_; focus (simp only [none_upd, none_set, not_false_eq_true, true_and, and_true, *]; done)) | refine Sub.both ?_)); done)))) ?_; (try (simp (config := { contextual := true, dsimp := false }) only [*, CliC, Msg.cells, ↓reduceIte, ↓evP, evQ, if_true, if_false, eq_self, binv, eqv, lenv, fillO, splice, fldv, Sp.eqa, eqL, eq1, Nat.reduceAdd, Nat.reduceEqDiff, Nat.reduceLeDiff, Nat.reduceMul, reduceCtorEq, Int.reduceLT, Int.reduceLE, Int.reduceGT, Int.reduceGE, Int.reduceEq, Int.reduceNeg]))) | (intro _; intros) | ((refine And.intro ?_ ?_; focus (first | omega | (first | exact Sub.refl _ | ((repeat (first | exact Sub.refl _ | (refine Sub.drop ?_ ?_; focus (simp only [none_upd, none_set, not_false_eq_true, true_and, and_true, *]; done)) | refine Sub.both ?_)); done)) | ((simp only [decide_eq_true_eq, decide_eq_false_iff_not] at *); omega) | (simp_all; done) | (simp_all; omega))); (try (simp (config := { contextual := true, dsimp := false }) only [*, CliC, Msg.cells, ↓reduceIte, ↓evP, evQ, if_true, if_false, eq_self, binv, eqv, lenv, fillO, splice, fldv, Sp.eqa, eqL, eq1, Nat.reduceAdd, Nat.reduceEqDiff, Nat.reduceLeDiff, Nat.reduceMul, reduceCtorEq, Int.reduceLT, Int.reduceLE, Int.reduceGT, Int.reduceGE, Int.reduceEq, Int.reduceNeg])))))
  refine callF_of (ACalls.beside ?_ (ACalls.beside ?_ HO.out)) ?_
  · (simp only [none_upd, none_set, not_false_eq_true, true_and, and_true, *]; done)
  · (simp only [none_upd, none_set, not_false_eq_true, true_and, and_true, *]; done)
  rintro u σ'' ⟨_, ⟨σ1, ⟨m', b, rfl, hw, hk, hR⟩, n1, rfl⟩, n2, rfl⟩
  simp only [none_upd] at n2
  have HR := Hid.mk hR
  clear hR
  simp (config := { contextual := true, dsimp := false }) only [*, CliC, Msg.cells, ↓reduceIte, ↓evP, evQ, if_true, if_false, eq_self, binv, eqv, lenv, fillO, splice, fldv, Sp.eqa, eqL, eq1, Nat.reduceAdd, Nat.reduceEqDiff, Nat.reduceLeDiff, Nat.reduceMul, reduceCtorEq, Int.reduceLT, Int.reduceLE, Int.reduceGT, Int.reduceGE, Int.reduceEq, Int.reduceNeg]
  exact endF_sub (τ := σ1) (by (first | exact Sub.refl _ | ((repeat (first | exact Sub.refl _ | (refine Sub.drop ?_ ?_; focus (simp only [none_upd, none_set, not_false_eq_true, true_and, and_true, *]; done)) | refine Sub.both ?_)); done))) ⟨m', b, rfl, hw, hk, HR.out⟩
theorem read34g {c : Value} {t : Int} {p : Nat × Nat} {σ : Hp} {key : ByteArray} {R : Bool → ByteArray → Msg → Int → Hp → Prop} (h : YesT c t p σ)
    (hop : ACalls Tryd.prog 64 #[.pointer (some ⟨p.1, 0, none⟩), .string key] σ fun u σ' => ∃ x d m e, u = .tuple #[.agg #[.bool x, .string d], .agg (Msg.cells m).toArray, .int .i64 e] ∧ one m.writes = true ∧ one m.keys = true ∧ R x d m e σ') :
    ACalls Tryd.prog 34 #[c, .int .i64 t, .string key] σ fun u σ' => ∃ x d m e, u = .tuple #[.agg #[.bool x, .string d], .agg (Msg.cells m).toArray, .int .i64 e] ∧ one m.writes = true ∧ one m.keys = true ∧ R x d m e σ' := by
  have H := Hid.mk h
  have HO := Hid.mk hop
  clear h hop
  (refine acalls_F ok34 (by simp) ?_; unfold c34 r34; simp (config := { contextual := true, dsimp := false }) only [CliC, Msg.cells, ↓reduceIte, ↓evP, evQ, if_true, if_false, eq_self, binv, eqv, lenv, fillO, splice, fldv, Sp.eqa, eqL, eq1, Nat.reduceAdd, Nat.reduceEqDiff, Nat.reduceLeDiff, Nat.reduceMul, reduceCtorEq, Int.reduceLT, Int.reduceLE, Int.reduceGT, Int.reduceGE, Int.reduceEq, Int.reduceNeg])
  (repeat' (first | (refine condF_split (fun hc => ?_) (fun hc => ?_) <;> (try simp only [Bool.not_eq_true', Bool.not_eq_false', Bool.and_eq_true, Bool.or_eq_false_iff] at hc) <;> (try (simp (config := { contextual := true, dsimp := false }) only [*, CliC, Msg.cells, ↓reduceIte, ↓evP, evQ, if_true, if_false, eq_self, binv, eqv, lenv, fillO, splice, fldv, Sp.eqa, eqL, eq1, Nat.reduceAdd, Nat.reduceEqDiff, Nat.reduceLeDiff, Nat.reduceMul, reduceCtorEq, Int.reduceLT, Int.reduceLE, Int.reduceGT, Int.reduceGE, Int.reduceEq, Int.reduceNeg]))) | (refine callF_v (H.out _ (by (first | exact Sub.refl _ | ((repeat (first | exact Sub.refl _ | (refine Sub.drop ?_ ?_; focus (simp only [none_upd, none_set, not_false_eq_true, true_and, and_true, *]; done)) | refine Sub.both ?_)); done)))) ?_; (try (simp (config := { contextual := true, dsimp := false }) only [*, CliC, Msg.cells, ↓reduceIte, ↓evP, evQ, if_true, if_false, eq_self, binv, eqv, lenv, fillO, splice, fldv, Sp.eqa, eqL, eq1, Nat.reduceAdd, Nat.reduceEqDiff, Nat.reduceLeDiff, Nat.reduceMul, reduceCtorEq, Int.reduceLT, Int.reduceLE, Int.reduceGT, Int.reduceGE, Int.reduceEq, Int.reduceNeg]))) | (refine ccallF_of (H.out _ (by (first | exact Sub.refl _ | ((repeat (first | exact Sub.refl _ | (refine Sub.drop ?_ ?_; focus (simp only [none_upd, none_set, not_false_eq_true, true_and, and_true, *]; done)) | refine Sub.both ?_)); done)))) ?_; (try (simp (config := { contextual := true, dsimp := false }) only [*, CliC, Msg.cells, ↓reduceIte, ↓evP, evQ, if_true, if_false, eq_self, binv, eqv, lenv, fillO, splice, fldv, Sp.eqa, eqL, eq1, Nat.reduceAdd, Nat.reduceEqDiff, Nat.reduceLeDiff, Nat.reduceMul, reduceCtorEq, Int.reduceLT, Int.reduceLE, Int.reduceGT, Int.reduceGE, Int.reduceEq, Int.reduceNeg]))) | (refine gcallF_of (H.out _ (by (first | exact Sub.refl _ | ((repeat (first | exact Sub.refl _ | (refine Sub.drop ?_ ?_; focus (simp only [none_upd, none_set, not_false_eq_true, true_and, and_true, *]; done)) | refine Sub.both ?_)); done)))) ?_; (try (simp (config := { contextual := true, dsimp := false }) only [*, CliC, Msg.cells, ↓reduceIte, ↓evP, evQ, if_true, if_false, eq_self, binv, eqv, lenv, fillO, splice, fldv, Sp.eqa, eqL, eq1, Nat.reduceAdd, Nat.reduceEqDiff, Nat.reduceLeDiff, Nat.reduceMul, reduceCtorEq, Int.reduceLT, Int.reduceLE, Int.reduceGT, Int.reduceGE, Int.reduceEq, Int.reduceNeg]))) | (intro _; intros) | ((refine And.intro ?_ ?_; focus (first | omega | (first | exact Sub.refl _ | ((repeat (first | exact Sub.refl _ | (refine Sub.drop ?_ ?_; focus (simp only [none_upd, none_set, not_false_eq_true, true_and, and_true, *]; done)) | refine Sub.both ?_)); done)) | ((simp only [decide_eq_true_eq, decide_eq_false_iff_not] at *); omega) | (simp_all; done) | (simp_all; omega))); (try (simp (config := { contextual := true, dsimp := false }) only [*, CliC, Msg.cells, ↓reduceIte, ↓evP, evQ, if_true, if_false, eq_self, binv, eqv, lenv, fillO, splice, fldv, Sp.eqa, eqL, eq1, Nat.reduceAdd, Nat.reduceEqDiff, Nat.reduceLeDiff, Nat.reduceMul, reduceCtorEq, Int.reduceLT, Int.reduceLE, Int.reduceGT, Int.reduceGE, Int.reduceEq, Int.reduceNeg])))))
  refine callF_of (ACalls.beside ?_ (ACalls.beside ?_ HO.out)) ?_
  · (simp only [none_upd, none_set, not_false_eq_true, true_and, and_true, *]; done)
  · (simp only [none_upd, none_set, not_false_eq_true, true_and, and_true, *]; done)
  rintro u σ'' ⟨_, ⟨σ1, ⟨x, d, m, e, rfl, hw, hk, hR⟩, n1, rfl⟩, n2, rfl⟩
  simp only [none_upd] at n2
  have HR := Hid.mk hR
  clear hR
  simp (config := { contextual := true, dsimp := false }) only [*, CliC, Msg.cells, ↓reduceIte, ↓evP, evQ, if_true, if_false, eq_self, binv, eqv, lenv, fillO, splice, fldv, Sp.eqa, eqL, eq1, Nat.reduceAdd, Nat.reduceEqDiff, Nat.reduceLeDiff, Nat.reduceMul, reduceCtorEq, Int.reduceLT, Int.reduceLE, Int.reduceGT, Int.reduceGE, Int.reduceEq, Int.reduceNeg]
  exact endF_sub (τ := σ1) (by (first | exact Sub.refl _ | ((repeat (first | exact Sub.refl _ | (refine Sub.drop ?_ ?_; focus (simp only [none_upd, none_set, not_false_eq_true, true_and, and_true, *]; done)) | refine Sub.both ?_)); done))) ⟨x, d, m, e, rfl, hw, hk, HR.out⟩
theorem _root_.Go.Sp.gcallF_beside {P : Program} {f : FuncId} {args : List Value} {σ₀ σ : Hp} {R K : Value → Hp → Prop} {δ : Dep K} (h : ACalls P f args.toArray σ₀ R) (h0 : Sub σ₀ σ) (hs : ∀ v σ₁, R v σ₁ → Sub σ₀ σ₁)
    (hk : ∀ v σ₁ σm, R v σ₁ → Sub σ₁ σm → Same (fun _ => False) σ σm → (∀ k, σ₁ k = none → σm k = σ k) → (∀ k, σ₁ k ≠ none → σ₀ k = none → σ k = none) → K v σm) : gcallF P f args σ₀ σ K δ :=
  ⟨R, h, fun v σ₁ hr _ => ⟨hs v σ₁ hr, fun hd => hk v σ₁ _ hr (fun k => by
    unfold mrg
    cases e0 : σ₀ k with
    | none =>
      cases e1 : σ₁ k with
      | none => exact .inl rfl
      | some o => exact .inr rfl
    | some o =>
      have e1 : σ₁ k = some o := by rcases hs v σ₁ hr k with e | e
                                    · rw [e0] at e; cases e
                                    · rw [← e, e0]
      rw [e1]
      rcases h0 k with e | e
      · rw [e0] at e; cases e
      · exact .inr (by dsimp only; rw [← e, e0])) (fun k hk _ => by
    unfold mrg
    cases e0 : σ₀ k with
    | none =>
      cases e1 : σ₁ k with
      | none => rfl
      | some o => exact absurd (hd k e0 (by rw [e1]; simp)) hk
    | some o => rfl) (fun k hk => by
    unfold mrg
    rw [hk]
    cases σ₀ k <;> rfl) (fun k h1 h2 => hd k h2 h1)⟩⟩
theorem tx33g {c : Value} {t : Int} {p : Nat × Nat} {σ : Hp} {T : TxS} (h : YesT c t p σ)
    (hop : ∀ σ1, Sub σ σ1 → ACalls Tryd.prog 63 #[.pointer (some ⟨p.1, 0, none⟩)] σ1 fun u σ' => ∃ v', u = .agg (T.view v').toArray ∧ RowsAt 152 3 Got.cells σ' v' T.reads ∧ Made σ1 σ' v') :
    ACalls Tryd.prog 33 #[c, .int .i64 t] σ fun u σ' => ∃ v', u = .tuple #[.agg (T.view v').toArray, .bool true] ∧ RowsAt 152 3 Got.cells σ' v' T.reads ∧ Made σ σ' v' := by
  have H := Hid.mk h
  have HO := Hid.mk hop
  clear h hop
  (refine acalls_F ok33 (by simp) ?_; unfold c33 r33; simp (config := { contextual := true, dsimp := false }) only [CliC, Msg.cells, ↓reduceIte, ↓evP, evQ, if_true, if_false, eq_self, binv, eqv, lenv, fillO, splice, fldv, Sp.eqa, eqL, eq1, Nat.reduceAdd, Nat.reduceEqDiff, Nat.reduceLeDiff, Nat.reduceMul, reduceCtorEq, Int.reduceLT, Int.reduceLE, Int.reduceGT, Int.reduceGE, Int.reduceEq, Int.reduceNeg])
  (repeat' (first | (refine condF_split (fun hc => ?_) (fun hc => ?_) <;> (try simp only [Bool.not_eq_true', Bool.not_eq_false', Bool.and_eq_true, Bool.or_eq_false_iff] at hc) <;> (try (simp (config := { contextual := true, dsimp := false }) only [*, CliC, Msg.cells, ↓reduceIte, ↓evP, evQ, if_true, if_false, eq_self, binv, eqv, lenv, fillO, splice, fldv, Sp.eqa, eqL, eq1, Nat.reduceAdd, Nat.reduceEqDiff, Nat.reduceLeDiff, Nat.reduceMul, reduceCtorEq, Int.reduceLT, Int.reduceLE, Int.reduceGT, Int.reduceGE, Int.reduceEq, Int.reduceNeg]))) | (refine callF_v (H.out _ (by (first | exact Sub.refl _ | ((repeat (first | exact Sub.refl _ | (refine Sub.drop ?_ ?_; focus (simp only [none_upd, none_set, not_false_eq_true, true_and, and_true, *]; done)) | refine Sub.both ?_)); done)))) ?_; (try (simp (config := { contextual := true, dsimp := false }) only [*, CliC, Msg.cells, ↓reduceIte, ↓evP, evQ, if_true, if_false, eq_self, binv, eqv, lenv, fillO, splice, fldv, Sp.eqa, eqL, eq1, Nat.reduceAdd, Nat.reduceEqDiff, Nat.reduceLeDiff, Nat.reduceMul, reduceCtorEq, Int.reduceLT, Int.reduceLE, Int.reduceGT, Int.reduceGE, Int.reduceEq, Int.reduceNeg]))) | (refine ccallF_of (H.out _ (by (first | exact Sub.refl _ | ((repeat (first | exact Sub.refl _ | (refine Sub.drop ?_ ?_; focus (simp only [none_upd, none_set, not_false_eq_true, true_and, and_true, *]; done)) | refine Sub.both ?_)); done)))) ?_; (try (simp (config := { contextual := true, dsimp := false }) only [*, CliC, Msg.cells, ↓reduceIte, ↓evP, evQ, if_true, if_false, eq_self, binv, eqv, lenv, fillO, splice, fldv, Sp.eqa, eqL, eq1, Nat.reduceAdd, Nat.reduceEqDiff, Nat.reduceLeDiff, Nat.reduceMul, reduceCtorEq, Int.reduceLT, Int.reduceLE, Int.reduceGT, Int.reduceGE, Int.reduceEq, Int.reduceNeg]))) | (refine gcallF_of (H.out _ (by (first | exact Sub.refl _ | ((repeat (first | exact Sub.refl _ | (refine Sub.drop ?_ ?_; focus (simp only [none_upd, none_set, not_false_eq_true, true_and, and_true, *]; done)) | refine Sub.both ?_)); done)))) ?_; (try (simp (config := { contextual := true, dsimp := false }) only [*, CliC, Msg.cells, ↓reduceIte, ↓evP, evQ, if_true, if_false, eq_self, binv, eqv, lenv, fillO, splice, fldv, Sp.eqa, eqL, eq1, Nat.reduceAdd, Nat.reduceEqDiff, Nat.reduceLeDiff, Nat.reduceMul, reduceCtorEq, Int.reduceLT, Int.reduceLE, Int.reduceGT, Int.reduceGE, Int.reduceEq, Int.reduceNeg]))) | (intro _; intros) | ((refine And.intro ?_ ?_; focus (first | omega | (first | exact Sub.refl _ | ((repeat (first | exact Sub.refl _ | (refine Sub.drop ?_ ?_; focus (simp only [none_upd, none_set, not_false_eq_true, true_and, and_true, *]; done)) | refine Sub.both ?_)); done)) | ((simp only [decide_eq_true_eq, decide_eq_false_iff_not] at *); omega) | (simp_all; done) | (simp_all; omega))); (try (simp (config := { contextual := true, dsimp := false }) only [*, CliC, Msg.cells, ↓reduceIte, ↓evP, evQ, if_true, if_false, eq_self, binv, eqv, lenv, fillO, splice, fldv, Sp.eqa, eqL, eq1, Nat.reduceAdd, Nat.reduceEqDiff, Nat.reduceLeDiff, Nat.reduceMul, reduceCtorEq, Int.reduceLT, Int.reduceLE, Int.reduceGT, Int.reduceGE, Int.reduceEq, Int.reduceNeg])))))
  rename_i a a0 b b1 b1' b0
  have HS0 : Hid (Sub σ (upd σ b (.cells [.pointer (some ⟨p.1, 0, none⟩), .pointer (some ⟨p.2, 0, none⟩)] 128))) := ⟨Sub.drop b0 (Sub.refl _)⟩
  refine drawxF_of (σ₀ := upd σ b (.cells [.pointer (some ⟨p.1, 0, none⟩), .pointer (some ⟨p.2, 0, none⟩)] 128)) (by (first | exact Sub.refl _ | ((repeat (first | exact Sub.refl _ | (refine Sub.drop ?_ ?_; focus (simp only [none_upd, none_set, not_false_eq_true, true_and, and_true, *]; done)) | refine Sub.both ?_)); done))) ?_
  simp (config := { contextual := true, dsimp := false }) only [*, CliC, Msg.cells, ↓reduceIte, ↓evP, evQ, if_true, if_false, eq_self, binv, eqv, lenv, fillO, splice, fldv, Sp.eqa, eqL, eq1, Nat.reduceAdd, Nat.reduceEqDiff, Nat.reduceLeDiff, Nat.reduceMul, reduceCtorEq, Int.reduceLT, Int.reduceLE, Int.reduceGT, Int.reduceGE, Int.reduceEq, Int.reduceNeg]
  refine gcallF_beside (HO.out _ HS0.out) (by (first | exact Sub.refl _ | ((repeat (first | exact Sub.refl _ | (refine Sub.drop ?_ ?_; focus (simp only [none_upd, none_set, not_false_eq_true, true_and, and_true, *]; done)) | refine Sub.both ?_)); done))) (fun u σ₁ h => ?_) ?_
  · obtain ⟨v', _, _, hM⟩ := h; exact hM.sub
  rintro u σ₁ σm ⟨v', rfl, hR, hM⟩ hs1 hs2 hs3 hs4
  obtain ⟨a', c', rfl⟩ := hR.slice
  have hRm := hR.subK hs1
  have ha := hs2.at (show upd (upd σ a (.cells noTx 82)) b (.cells [.pointer (some ⟨p.1, 0, none⟩), .pointer (some ⟨p.2, 0, none⟩)] 128) a = some (.cells noTx 82) by rw [upd_ne _ _ b1', upd_same]) (fun x => x)
  have hb := hs2.at (upd_same _ _ _) (fun x => x)
  have HF : Hid (∀ Y, Sub (upd σ b (.cells [.pointer (some ⟨p.1, 0, none⟩), .pointer (some ⟨p.2, 0, none⟩)] 128)) (upd σm a Y) ∧ RowsAt 152 3 Got.cells (upd σm a Y) (.slice a' T.reads.length c') T.reads ∧ Made σ (upd σm a Y) (.slice a' T.reads.length c')) :=
    ⟨fun Y => ⟨Sub.drop (by (simp only [none_upd, none_set, not_false_eq_true, true_and, and_true, *]; done)) (hM.sub.trans hs1), hRm.keep fun k hk => upd_ne _ _ fun e => hRm.notCells ha (by rw [hk, e]), fun k hk _ => by
      have e1 : k ≠ a := fun e => hk (by rw [e]; exact a0)
      have e2 : k ≠ b := fun e => hk (by rw [e]; exact b0)
      rw [upd_ne _ _ e1, hs2 k (by rw [upd_ne _ _ e2, upd_ne _ _ e1]; exact hk) (fun x => x), upd_ne _ _ e2, upd_ne _ _ e1], fun k hk => ((none_upd _ _ _ _).1 (hM.2 k hk)).2⟩⟩
  clear hR hM hs1 hs2 hs3 hs4 hRm
  obtain ⟨τ, rfl⟩ := open_2 ha hb b1'
  clear ha hb
  unfold noTx TxS.view at *
  simp (config := { contextual := true, dsimp := false }) only [*, CliC, Msg.cells, ↓reduceIte, ↓evP, evQ, if_true, if_false, eq_self, binv, eqv, lenv, fillO, splice, fldv, Sp.eqa, eqL, eq1, Nat.reduceAdd, Nat.reduceEqDiff, Nat.reduceLeDiff, Nat.reduceMul, reduceCtorEq, Int.reduceLT, Int.reduceLE, Int.reduceGT, Int.reduceGE, Int.reduceEq, Int.reduceNeg]
  refine ⟨?_, ?_⟩
  · have := (HF.out (.cells (T.view (.slice a' T.reads.length c')) 82)).1
    rw [upd_upd] at this; exact this
  (try simp (config := { contextual := true, dsimp := false }) only [*, CliC, Msg.cells, ↓reduceIte, ↓evP, evQ, if_true, if_false, eq_self, binv, eqv, lenv, fillO, splice, fldv, Sp.eqa, eqL, eq1, Nat.reduceAdd, Nat.reduceEqDiff, Nat.reduceLeDiff, Nat.reduceMul, reduceCtorEq, Int.reduceLT, Int.reduceLE, Int.reduceGT, Int.reduceGE, Int.reduceEq, Int.reduceNeg])
  refine endF_at ⟨_, rfl, ?_, ?_⟩
  · have := (HF.out (.cells (T.view (.slice a' T.reads.length c')) 82)).2.1
    rw [upd_upd] at this; exact this
  · have := (HF.out (.cells (T.view (.slice a' T.reads.length c')) 82)).2.2
    rw [upd_upd] at this; exact this
end Go.Proofs.YtaoafjlocjjbbaaDoor

-- D15
namespace Go.Proofs.YtaoafjlocjjbbaaDoor
open Go.Sp
set_option linter.unusedSimpArgs false
set_option linter.unusedVariables false
theorem snoc_get {α : Type} {l : List α} {x y : α} {j : Nat} (h : (l ++ [x])[j]? = some y) : (j = l.length ∧ y = x) ∨ (j < l.length ∧ l[j]? = some y) := by
  rw [List.getElem?_append] at h
  split at h
  · rename_i hlt; exact .inr ⟨hlt, h⟩
  · rename_i hge
    have hlt := (List.getElem?_eq_some_iff.1 h).1
    simp only [List.length_cons, List.length_nil] at hlt
    have e : j - l.length = 0 := by omega
    rw [e] at h
    exact .inl ⟨by omega, (Option.some.inj h).symm⟩
theorem get_snoc {α : Type} {l : List α} {x y : α} {j : Nat} (h : l[j]? = some y) : (l ++ [x])[j]? = some y := by
  rw [List.getElem?_append_left (List.getElem?_eq_some_iff.1 h).1]; exact h
/-- One session more. -/
def CL.opens (C : CL) (k : Nat) (vs' : Value) : CL := { C with vs := vs', ss := C.ss ++ [⟨k, newS C.ss.length, .slice none 0 0, []⟩] }
theorem open_moved {σ σ' : Hp} {C : CL} (h : CliAt σ C) (ho : Opened σ C.g C.c C.vs C.vt C.vh (C.ss.map (·.g)) σ') : ∃ k vs', Moved σ C σ' (C.opens k vs') := by
  obtain ⟨k, vs', hk, hg, hr, hkk, hs, hv⟩ := ho
  refine ⟨k, vs', ⟨hg, ?_, ?_, ?_, ?_, ?_, ?_, ?_, h.dT, h.dR⟩, ?_, ?_⟩
  · show RowsAt _ _ _ _ _ ((C.ss ++ [_]).map _)
    rw [List.map_append]; exact hr
  · exact h.vt.sameF hs fun i hi e => e.elim (fun e => h.vt.notCells h.cli (by rw [hi, e])) (h.vt.apart h.vs (by decide) hi)
  · exact h.vh.sameF hs fun i hi e => e.elim (fun e => h.vh.notCells h.cli (by rw [hi, e])) (h.vh.apart h.vs (by decide) hi)
  · intro j x hx
    rcases snoc_get hx with ⟨rfl, rfl⟩ | ⟨_, hx⟩
    · rw [List.length_map] at hkk
      exact ⟨hkk, .inl ⟨rfl, rfl⟩⟩
    · obtain ⟨a, b⟩ := h.ses j x hx
      exact ⟨by rw [hs _ (by rw [a]; simp) (fun e => e.elim (cells_ne a h.cli (by decide)) (h.vs.notCells a))]; exact a,
        b.sameF hs fun i hi e => e.elim (fun e => b.notCells h.cli (by rw [hi, e])) (b.apart h.vs (by decide) hi)⟩
  · intro j t ht
    have a := h.tx j t ht
    exact a.keepF hs (fun e => e.elim (cells_ne a.1 h.cli (by decide)) (h.vs.notCells a.1)) fun i hi e => e.elim (fun e => a.2.notCells h.cli (by rw [hi, e])) (a.2.apart h.vs (by decide) hi)
  · intro j t ht
    obtain ⟨s, h1, h2⟩ := h.home j t ht
    exact ⟨s, get_snoc h1, h2⟩
  · intro a b x y hx hy e
    rcases snoc_get hx with ⟨ea, rfl⟩ | ⟨_, hx'⟩ <;> rcases snoc_get hy with ⟨eb, rfl⟩ | ⟨_, hy'⟩
    · rw [ea, eb]
    · exfalso; have := (h.ses b y hy').1; rw [← e] at this; rw [show (⟨k, newS C.ss.length, .slice none 0 0, []⟩ : SR).g = k from rfl, hk] at this; cases this
    · exfalso; have := (h.ses a x hx').1; rw [e] at this; rw [show (⟨k, newS C.ss.length, .slice none 0 0, []⟩ : SR).g = k from rfl, hk] at this; cases this
    · exact h.dS a b x y hx' hy' e
  · exact fun i hi hf => hs i hi fun e => hf (e.imp id .inl)
  · rintro i (e | e | e | e | ⟨x, hx, e⟩ | e)
    · exact .inl (.inl e)
    · exact (hv i e).imp (fun e => .inr (.inl e)) id
    · exact .inl (.inr (.inr (.inl e)))
    · exact .inl (.inr (.inr (.inr (.inl e))))
    · rcases List.mem_append.1 hx with hx | hx
      · exact .inl (.inr (.inr (.inr (.inr (.inl ⟨x, hx, e⟩)))))
      · obtain rfl := List.mem_singleton.1 hx
        rcases e with e | e
        · exact .inr (by rw [e]; exact hk)
        · cases e
    · exact .inl (.inr (.inr (.inr (.inr (.inr e)))))
/-- One transaction more. -/
def CL.begins (C : CL) (t : Nat) (vt' vh' : Value) (i : Nat) (s : SR) : CL := { C with vt := vt', vh := vh', ts := C.ts ++ [⟨t, newT C.ts.length C.c.nodes s.S.floor, .slice none 0 0, i, s.g⟩] }
theorem begin_moved {σ σ' : Hp} {C : CL} {i : Nat} {s : SR} (h : CliAt σ C) (hi : C.ss[i]? = some s) (hb : Begun σ C.g C.c C.vs C.vt C.vh (C.ts.map fun t => (t.g, t.h)) (C.ts.map fun t => (t.k : Int)) s.g i s.S.floor σ') : ∃ t vt' vh', Moved σ C σ' (C.begins t vt' vh' i s) := by
  obtain ⟨t, vt', vh', ht, hg, hr1, hr2, htt, hs, hv1, hv2⟩ := hb
  have F : ∀ {α : Type} {E sz : Nat} {f : α → List Value} {v : Value} {l : List α}, RowsAt E sz f σ v l → E ≠ 128 → E ≠ 3 → ∀ j, blk v = some j → ¬ (j = C.g ∨ blk C.vt = some j ∨ blk C.vh = some j) := fun r e1 e2 j hj e => by
    rcases e with e | e | e
    · exact r.notCells h.cli (by rw [hj, e])
    · exact r.apart h.vt e1 hj e
    · exact r.apart h.vh e2 hj e
  have G : ∀ {j : Nat} {cs : List Value} {ty : TypeId}, σ j = some (.cells cs ty) → ty ≠ 124 → ¬ (j = C.g ∨ blk C.vt = some j ∨ blk C.vh = some j) := fun a e1 e => by
    rcases e with e | e | e
    · exact cells_ne a h.cli e1 e
    · exact h.vt.notCells a e
    · exact h.vh.notCells a e
  refine ⟨t, vt', vh', ⟨hg, ?_, ?_, ?_, ?_, ?_, ?_, h.dS, ?_, ?_⟩, ?_, ?_⟩
  · exact h.vs.sameF hs (F h.vs (by decide) (by decide))
  · show RowsAt _ _ _ _ _ ((C.ts ++ [_]).map _)
    rw [List.map_append]; exact hr1
  · show RowsAt _ _ _ _ _ ((C.ts ++ [_]).map _)
    rw [List.map_append]; exact hr2
  · intro j x hx
    obtain ⟨a, b⟩ := h.ses j x hx
    exact ⟨by rw [hs _ (by rw [a]; simp) (G a (by decide))]; exact a, b.sameF hs (F b (by decide) (by decide))⟩
  · intro j x hx
    rcases snoc_get hx with ⟨rfl, rfl⟩ | ⟨_, hx⟩
    · rw [List.length_map] at htt
      exact ⟨htt, .inl ⟨rfl, rfl⟩⟩
    · have a := h.tx j x hx
      exact a.keepF hs (G a.1 (by decide)) (F a.2 (by decide) (by decide))
  · intro j x hx
    rcases snoc_get hx with ⟨rfl, rfl⟩ | ⟨_, hx⟩
    · exact ⟨s, hi, rfl⟩
    · exact h.home j x hx
  · intro a b x y hx hy e
    rcases snoc_get hx with ⟨ea, rfl⟩ | ⟨_, hx'⟩ <;> rcases snoc_get hy with ⟨eb, rfl⟩ | ⟨_, hy'⟩
    · rw [ea, eb]
    · exfalso; have := (h.tx b y hy').1; rw [← e] at this; rw [ht] at this; cases this
    · exfalso; have := (h.tx a x hx').1; rw [e] at this; rw [ht] at this; cases this
    · exact h.dT a b x y hx' hy' e
  · intro a b x y k hx hy ex ey
    rcases snoc_get hx with ⟨ea, rfl⟩ | ⟨_, hx'⟩
    · cases ex
    · rcases snoc_get hy with ⟨eb, rfl⟩ | ⟨_, hy'⟩
      · cases ey
      · exact h.dR a b x y k hx' hy' ex ey
  · exact fun i hi hf => hs i hi fun e => hf (e.imp id fun e => e.elim (fun e => .inr (.inl e)) fun e => .inr (.inr (.inl e)))
  · rintro j (e | e | e | e | e | ⟨x, hx, e⟩)
    · exact .inl (.inl e)
    · exact .inl (.inr (.inl e))
    · exact (hv1 j e).imp (fun e => .inr (.inr (.inl e))) id
    · exact (hv2 j e).imp (fun e => .inr (.inr (.inr (.inl e)))) id
    · exact .inl (.inr (.inr (.inr (.inr (.inl e)))))
    · rcases List.mem_append.1 hx with hx | hx
      · exact .inl (.inr (.inr (.inr (.inr (.inr ⟨x, hx, e⟩)))))
      · obtain rfl := List.mem_singleton.1 hx
        rcases e with e | e
        · exact .inr (by rw [e]; exact ht)
        · cases e
theorem openC {σ : Hp} {C : CL} (h : CliAt σ C) (hn : C.ss.length < 64) : ACalls Tryd.prog 31 #[.pointer (some ⟨C.g, 0, none⟩)] σ fun u σ' => u = .tuple #[.int .i64 C.ss.length, .int .i64 0] ∧ ∃ k vs', Moved σ C σ' (C.opens k vs') :=
  (open31 h.cli h.vs (by simpa using hn)).mono fun u σ' ⟨h1, h2⟩ => ⟨by simpa using h1, open_moved h h2⟩
theorem openF {σ : Hp} {C : CL} (h : CliAt σ C) (hn : C.ss.length ≥ 64) : ACalls Tryd.prog 31 #[.pointer (some ⟨C.g, 0, none⟩)] σ fun u σ' => u = .tuple #[.int .i64 0, .int .i64 2] ∧ σ' = σ :=
  open31f h.cli h.vs (by simpa using hn)
theorem beginC {σ : Hp} {C : CL} {i : Nat} {s : SR} (h : CliAt σ C) (hi : C.ss[i]? = some s) (hn : C.ts.length < 256) : ACalls Tryd.prog 32 #[.pointer (some ⟨C.g, 0, none⟩), .int .i64 i] σ fun u σ' => u = .tuple #[.int .i64 C.ts.length, .int .i64 0] ∧ ∃ t vt' vh', Moved σ C σ' (C.begins t vt' vh' i s) :=
  (begin32 h.cli h.vs h.vt h.vh (by simp [hi]) (h.ses i s hi).1 (by simpa using hn) (by simpa using hn)).mono fun u σ' ⟨h1, h2⟩ => ⟨by simpa using h1, begin_moved h hi h2⟩
theorem beginF {σ : Hp} {C : CL} {i : Nat} {s : SR} (h : CliAt σ C) (hi : C.ss[i]? = some s) (hn : C.ts.length ≥ 256) : ACalls Tryd.prog 32 #[.pointer (some ⟨C.g, 0, none⟩), .int .i64 i] σ fun u σ' => u = .tuple #[.int .i64 0, .int .i64 2] ∧ σ' = σ :=
  begin32f (k := s.g) h.cli h.vs h.vt (by simp [hi]) (by simpa using hn)
theorem newC (c : Cfg) (σ : Hp) : ACalls Tryd.prog 30 #[.agg c.cells.toArray] σ fun u σ' => ∃ g, σ g = none ∧ u = .pointer (some ⟨g, 0, none⟩) ∧ Sub σ σ' ∧ CliAt σ' ⟨g, c.held, .slice none 0 0, .slice none 0 0, .slice none 0 0, [], []⟩ :=
  (new30 c σ).mono fun u σ' ⟨g, hg, hu, hs⟩ => ⟨g, hg, hu, by rw [hs]; exact Sub.drop hg (Sub.refl _), by
    rw [hs]
    exact ⟨upd_same _ _ _, .inl ⟨rfl, rfl⟩, .inl ⟨rfl, rfl⟩, .inl ⟨rfl, rfl⟩, fun i s h => by simp at h, fun i s h => by simp at h, fun i s h => by simp at h, fun i j s s' h => by simp at h, fun i j s s' h => by simp at h, fun i j s s' k h => by simp at h⟩⟩
theorem newOwn {g : Nat} {c : Cfg} {k : Nat} (h : CL.own ⟨g, c, .slice none 0 0, .slice none 0 0, .slice none 0 0, [], []⟩ k) : k = g := by
  rcases h with e | e | e | e | ⟨x, hx, _⟩ | ⟨x, hx, _⟩
  · exact e
  · cases e
  · cases e
  · cases e
  · cases hx
  · cases hx
/-- A client beside what was there: σ0. -/
structure Cli (σ0 σ : Hp) (C : CL) : Prop where
  at_ : CliAt σ C
  sub : Sub σ0 σ
  new : ∀ k, C.own k → σ0 k = none
theorem Cli.on {σ0 σ σ' : Hp} {C C' : CL} (h : Cli σ0 σ C) (m : Moved σ C σ' C') : Cli σ0 σ' C' := ⟨m.1, (m.sub h.sub h.new).1, (m.sub h.sub h.new).2⟩
theorem newCli (c : Cfg) (σ : Hp) : ACalls Tryd.prog 30 #[.agg c.cells.toArray] σ fun u σ' => ∃ g, u = .pointer (some ⟨g, 0, none⟩) ∧ Cli σ σ' ⟨g, c.held, .slice none 0 0, .slice none 0 0, .slice none 0 0, [], []⟩ :=
  (newC c σ).mono fun u σ' ⟨g, hg, hu, hs, ha⟩ => ⟨g, hu, ha, hs, fun k hk => by rw [newOwn hk]; exact hg⟩
end Go.Proofs.YtaoafjlocjjbbaaDoor

-- D16
namespace Go.Proofs.YtaoafjlocjjbbaaDoor
open Go.Sp
set_option linter.unusedSimpArgs false
set_option linter.unusedVariables false
theorem same_set (σ : Hp) (g : Nat) (o : Blk) : Same (fun k => k = g) σ (set σ g o) := fun k _ hf => upd_ne _ _ hf
theorem ses_set {σ : Hp} {C : CL} {i : Nat} {s : SR} (h : CliAt σ C) (hi : C.ss[i]? = some s) (S' : SesS) : Moved σ C (set σ s.g (.cells (S'.cells s.v) 101)) (C.ses i s S' s.v s.ws) :=
  ses_moved h hi (same_set _ _ _) (upd_same _ _ _) ((h.ses i s hi).2.sameF (same_set _ _ _) fun k hk e => (h.ses i s hi).2.notCells (h.ses i s hi).1 (by rw [hk, e])) fun k hk => .inl hk
theorem ses_clear {σ : Hp} {C : CL} {i : Nat} {s : SR} (h : CliAt σ C) (hi : C.ss[i]? = some s) (S' : SesS) : Moved σ C (set σ s.g (.cells (S'.cells (.slice none 0 0)) 101)) (C.ses i s S' (.slice none 0 0) []) :=
  ses_moved h hi (same_set _ _ _) (upd_same _ _ _) (.inl ⟨rfl, rfl⟩) fun k hk => by cases hk
theorem tx_set {σ : Hp} {C : CL} {i : Nat} {t : TR} (h : CliAt σ C) (hi : C.ts[i]? = some t) (T' : TxS) (hr : T'.reads = t.T.reads) : Moved σ C (set σ t.g (.cells (T'.cells t.v) 150)) (C.tx i t T' t.v) :=
  tx_moved h hi ((h.tx i t hi).same (same_set _ _ _) (upd_same _ _ _) hr) ⟨fun k hk hf => upd_ne _ _ fun e => hf (.inl e), fun k hk => .inl hk⟩
theorem tokenC {σ : Hp} {C : CL} {i : Nat} {s : SR} (hG : Glob σ) (h : CliAt σ C) (hi : C.ss[i]? = some s) : ACalls Tryd.prog 41 #[.pointer (some ⟨C.g, 0, none⟩), .int .i64 i] σ fun u σ' => u = .tuple #[.string (tokV s.S.floor), .int .i64 (tokE s.S.floor)] ∧ σ' = σ :=
  token41g (yesS h hi) (floor26 (h.ses i s hi).1) (token19 hG _)
theorem joinC {σ : Hp} {C : CL} {i : Nat} {s : SR} (hG : Glob σ) (h : CliAt σ C) (hi : C.ss[i]? = some s) (t : ByteArray) (ht : t.size ≤ 281474976710656) :
    ACalls Tryd.prog 43 #[.pointer (some ⟨C.g, 0, none⟩), .int .i64 i, .string t] σ fun u σ' => u = .int .i64 (parE t) ∧ Moved σ C σ' (C.ses i s (s.S.joined t) s.v s.ws) :=
  (join43g (yesS h hi) (join24 hG (h.ses i s hi).1 t ht)).mono fun u σ' ⟨h1, h2⟩ => ⟨h1, by rw [h2]; exact ses_set h hi _⟩
theorem ackC {σ : Hp} {C : CL} {i : Nat} {s : SR} {m : Msg} (h : CliAt σ C) (hi : C.ss[i]? = some s) (hm : m.kind = 2) (hs : m.session = i) :
    ACalls Tryd.prog 35 #[.pointer (some ⟨C.g, 0, none⟩), .agg m.cells.toArray] σ fun u σ' => u = .tuple #[.agg ({} : Msg).cells.toArray, .bool (s.S.hears m)] ∧ Moved σ C σ' (cond (s.S.hears m) (C.ses i s (s.S.acked m) (.slice none 0 0) []) C) :=
  (hear35a (R := fun b σ' => b = s.S.hears m ∧ Moved σ C σ' (cond (s.S.hears m) (C.ses i s (s.S.acked m) (.slice none 0 0) []) C)) hm (by rw [hs]; exact yesS h hi) ((ack25 (h.ses i s hi).1 m).mono fun u σ' ⟨h1, h2⟩ => ⟨_, h1, rfl, by
    rw [h2]
    cases s.S.hears m
    · exact Moved.refl h
    · exact ses_clear h hi _⟩)).mono fun u σ' ⟨b, h1, h2, h3⟩ => ⟨by rw [h1, h2], h3⟩
theorem viewC {σ : Hp} {C : CL} {i : Nat} {s : SR} (h : CliAt σ C) (hi : C.ss[i]? = some s) : ACalls Tryd.prog 37 #[.pointer (some ⟨C.g, 0, none⟩), .int .i64 i] σ fun u σ' => u = .tuple #[.agg s.S.view.toArray, .bool true] ∧ σ' = σ :=
  session37g (yesS h hi) fun σ' hs => view18 (Sub.at hs (h.ses i s hi).1)
theorem txC {σ : Hp} {C : CL} {i : Nat} {t : TR} (h : CliAt σ C) (hi : C.ts[i]? = some t) (hn : t.T.reads.length * 40 ≤ 140737488355328) : ACalls Tryd.prog 33 #[.pointer (some ⟨C.g, 0, none⟩), .int .i64 i] σ fun u σ' => ∃ v', u = .tuple #[.agg (t.T.view v').toArray, .bool true] ∧ RowsAt 152 3 Got.cells σ' v' t.T.reads ∧ Made σ σ' v' :=
  tx33g (yesT h hi) fun σ' hs => view63 ⟨Sub.at hs (h.tx i t hi).1, (h.tx i t hi).2.subK hs⟩ hn
set_option maxRecDepth 100000 in
theorem readC {σ : Hp} {C : CL} {i : Nat} {t : TR} (h : CliAt σ C) (hi : C.ts[i]? = some t) (key : ByteArray) (hk : key.size ≤ 140737488351232) (hn : t.T.reads.length ≤ 140737488351232) :
    ACalls Tryd.prog 34 #[.pointer (some ⟨C.g, 0, none⟩), .int .i64 i, .string key] σ fun u σ' => u = .tuple #[.agg #[.bool (t.T.read key).2.1.1, .string (t.T.read key).2.1.2], .agg (t.T.read key).2.2.1.cells.toArray, .int .i64 (t.T.read key).2.2.2] ∧ Moved σ C σ' (C.tx i t (t.T.read key).1 t.v) :=
by
  have k := read64 (h.tx i t hi).1 (h.tx i t hi).2 key hk hn
  have n1 : one (t.T.read key).2.2.1.writes = true := by rw [(nil_read t.T key).1]; rfl
  have n2 : one (t.T.read key).2.2.1.keys = true := by rw [(nil_read t.T key).2]; rfl
  have m := tx_set h hi (t.T.read key).1 (reads_read _ _)
  generalize t.T.read key = x at k n1 n2 m ⊢
  obtain ⟨T', ⟨x, d⟩, mm, e⟩ := x
  refine (read34g (p := (t.g, t.h)) (R := fun x' d' m' e' σ' => x' = x ∧ d' = d ∧ m' = mm ∧ e' = e ∧ Moved σ C σ' (C.tx i t T' t.v)) (yesT h hi) (k.mono ?_)).mono ?_
  · rintro u σ' ⟨h1, rfl⟩
    exact ⟨x, d, mm, e, h1, n1, n2, rfl, rfl, rfl, rfl, m⟩
  · rintro u σ' ⟨x', d', m', e', h1, _, _, rfl, rfl, rfl, rfl, h6⟩
    exact ⟨h1, h6⟩
theorem hearC {σ : Hp} {C : CL} {i : Nat} {t : TR} {m : Msg} (h : CliAt σ C) (hi : C.ts[i]? = some t) (hm : m.kind ≠ 2) (hs : m.tx = i) (hk : t.T.key.size ≤ 140737488351232) (hn : (t.T.reads.length + 1) * 40 ≤ 140737488355328) :
    ACalls Tryd.prog 35 #[.pointer (some ⟨C.g, 0, none⟩), .agg m.cells.toArray] σ fun u σ' => u = .tuple #[.agg (t.T.hear m).2.1.cells.toArray, .bool (t.T.hear m).2.2] ∧ ∃ v', Moved σ C σ' (C.tx i t (t.T.hear m).1 v') :=
by
  have k := hear65 (h.tx i t hi) m hk hn
  have n1 : one (t.T.hear m).2.1.writes = true := by rw [(nil_hear t.T m).1]; rfl
  have n2 : one (t.T.hear m).2.1.keys = true := by rw [(nil_hear t.T m).2]; rfl
  generalize t.T.hear m = x at k n1 n2 ⊢
  obtain ⟨T', mm, b⟩ := x
  refine (hear35t (p := (t.g, t.h)) (R := fun m' b' σ' => m' = mm ∧ b' = b ∧ ∃ v', Moved σ C σ' (C.tx i t T' v')) hm (by rw [hs]; exact yesT h hi) (k.mono ?_)).mono ?_
  · rintro u σ' ⟨h1, v', h2, h3⟩
    exact ⟨mm, b, h1, n1, n2, rfl, rfl, v', tx_moved h hi h2 h3⟩
  · rintro u σ' ⟨m', b', h1, _, _, rfl, rfl, h6⟩
    exact ⟨h1, h6⟩
theorem retryC {σ : Hp} {C : CL} {i : Nat} {t : TR} (h : CliAt σ C) (hi : C.ts[i]? = some t) (hk : t.T.key.size ≤ 140737488351232) :
    ACalls Tryd.prog 42 #[.pointer (some ⟨C.g, 0, none⟩), .int .i64 i] σ fun u σ' => u = .tuple #[.agg (t.T.again C.c.retries).2.1.cells.toArray, .int .i64 (t.T.again C.c.retries).2.2] ∧ Moved σ C σ' (C.tx i t (t.T.again C.c.retries).1 t.v) :=
by
  have k := again69 (h.tx i t hi).1 C.c.retries hk
  have n1 : one (t.T.again C.c.retries).2.1.writes = true := by rw [(nil_again t.T _).1]; rfl
  have n2 : one (t.T.again C.c.retries).2.1.keys = true := by rw [(nil_again t.T _).2]; rfl
  have m := tx_set h hi (t.T.again C.c.retries).1 (reads_again _ _)
  generalize t.T.again C.c.retries = x at k n1 n2 m ⊢
  obtain ⟨T', mm, e⟩ := x
  refine (retry42g (p := (t.g, t.h)) (R := fun m' e' σ' => m' = mm ∧ e' = e ∧ Moved σ C σ' (C.tx i t T' t.v)) (yesT h hi) (rtC h) (k.mono ?_)).mono ?_
  · rintro u σ' ⟨h1, rfl⟩
    exact ⟨mm, e, h1, n1, n2, rfl, rfl, m⟩
  · rintro u σ' ⟨m', b', h1, _, _, rfl, rfl, h6⟩
    exact ⟨h1, h6⟩
/-- What a finish leaves of the client. -/
def CL.fin (C : CL) (i : Nat) (t : TR) (s : SR) : CL := cond (decide (t.T.finish.2.2 = 0)) ((C.tx i t t.T.finish.1 t.v).ses t.k s (s.S.raise t.T.finish.2.1) s.v s.ws) (C.tx i t t.T.finish.1 t.v)
theorem finish36g {σ : Hp} {c : Value} {i : Int} {t s : Nat} {T : TxS} {S : SesS} {v w : Value} (h : YesT c i (t, s) σ) (ht : σ t = some (.cells (T.cells v) 150)) (hs : σ s = some (.cells (S.cells w) 101)) :
    ACalls Tryd.prog 36 #[c, .int .i64 i] σ fun u σ' => u = .tuple #[.int .i64 T.finish.2.1, .int .i64 T.finish.2.2] ∧ σ' = cond (decide (T.finish.2.2 = 0)) (set (set σ t (.cells (T.finish.1.cells v) 150)) s (.cells ((S.raise T.finish.2.1).cells w) 101)) (set σ t (.cells (T.finish.1.cells v) 150)) := by
  have H := Hid.mk h
  have hne : ¬ t = s := cells_ne ht hs (by decide)
  have hne' : ¬ s = t := fun e => hne e.symm
  obtain ⟨τ, rfl⟩ := open_2 ht hs hne
  clear h ht hs
  (refine acalls_F ok36 (by simp) ?_; unfold c36 r36; simp (config := { contextual := true, dsimp := false }) only [CliC, Msg.cells, ↓reduceIte, ↓evP, evQ, if_true, if_false, eq_self, binv, eqv, lenv, fillO, splice, fldv, Sp.eqa, eqL, eq1, Nat.reduceAdd, Nat.reduceEqDiff, Nat.reduceLeDiff, Nat.reduceMul, reduceCtorEq, Int.reduceLT, Int.reduceLE, Int.reduceGT, Int.reduceGE, Int.reduceEq, Int.reduceNeg])
  (repeat' (first | (refine condF_split (fun hc => ?_) (fun hc => ?_) <;> (try simp only [Bool.not_eq_true', Bool.not_eq_false', Bool.and_eq_true, Bool.or_eq_false_iff] at hc) <;> (try (simp (config := { contextual := true, dsimp := false }) only [*, CliC, Msg.cells, ↓reduceIte, ↓evP, evQ, if_true, if_false, eq_self, binv, eqv, lenv, fillO, splice, fldv, Sp.eqa, eqL, eq1, Nat.reduceAdd, Nat.reduceEqDiff, Nat.reduceLeDiff, Nat.reduceMul, reduceCtorEq, Int.reduceLT, Int.reduceLE, Int.reduceGT, Int.reduceGE, Int.reduceEq, Int.reduceNeg]))) | (refine callF_v (H.out _ (by (first | exact Sub.refl _ | ((repeat (first | exact Sub.refl _ | (refine Sub.drop ?_ ?_; focus (simp only [none_upd, none_set, not_false_eq_true, true_and, and_true, *]; done)) | refine Sub.both ?_)); done)))) ?_; (try (simp (config := { contextual := true, dsimp := false }) only [*, CliC, Msg.cells, ↓reduceIte, ↓evP, evQ, if_true, if_false, eq_self, binv, eqv, lenv, fillO, splice, fldv, Sp.eqa, eqL, eq1, Nat.reduceAdd, Nat.reduceEqDiff, Nat.reduceLeDiff, Nat.reduceMul, reduceCtorEq, Int.reduceLT, Int.reduceLE, Int.reduceGT, Int.reduceGE, Int.reduceEq, Int.reduceNeg]))) | (refine callF_v (finish66 (T := T) (v := v) (by first | rfl | (simp only [upd_same, upd_at, set_at, *, ↓reduceIte]; done) | (simp only [upd_same, upd_at, set_at, *, ↓reduceIte]; rfl))) ?_; (try (simp (config := { contextual := true, dsimp := false }) only [*, CliC, Msg.cells, ↓reduceIte, ↓evP, evQ, if_true, if_false, eq_self, binv, eqv, lenv, fillO, splice, fldv, Sp.eqa, eqL, eq1, Nat.reduceAdd, Nat.reduceEqDiff, Nat.reduceLeDiff, Nat.reduceMul, reduceCtorEq, Int.reduceLT, Int.reduceLE, Int.reduceGT, Int.reduceGE, Int.reduceEq, Int.reduceNeg]))) | (refine callF_v (raise23 (S := S) (v := w) (by first | rfl | (simp only [upd_same, upd_at, set_at, *, ↓reduceIte]; done) | (simp only [upd_same, upd_at, set_at, *, ↓reduceIte]; rfl)) _) ?_; (try (simp (config := { contextual := true, dsimp := false }) only [*, CliC, Msg.cells, ↓reduceIte, ↓evP, evQ, if_true, if_false, eq_self, binv, eqv, lenv, fillO, splice, fldv, Sp.eqa, eqL, eq1, Nat.reduceAdd, Nat.reduceEqDiff, Nat.reduceLeDiff, Nat.reduceMul, reduceCtorEq, Int.reduceLT, Int.reduceLE, Int.reduceGT, Int.reduceGE, Int.reduceEq, Int.reduceNeg]))) | (refine ccallF_of (H.out _ (by (first | exact Sub.refl _ | ((repeat (first | exact Sub.refl _ | (refine Sub.drop ?_ ?_; focus (simp only [none_upd, none_set, not_false_eq_true, true_and, and_true, *]; done)) | refine Sub.both ?_)); done)))) ?_; (try (simp (config := { contextual := true, dsimp := false }) only [*, CliC, Msg.cells, ↓reduceIte, ↓evP, evQ, if_true, if_false, eq_self, binv, eqv, lenv, fillO, splice, fldv, Sp.eqa, eqL, eq1, Nat.reduceAdd, Nat.reduceEqDiff, Nat.reduceLeDiff, Nat.reduceMul, reduceCtorEq, Int.reduceLT, Int.reduceLE, Int.reduceGT, Int.reduceGE, Int.reduceEq, Int.reduceNeg]))) | (refine ccallF_of (finish66 (T := T) (v := v) (by first | rfl | (simp only [upd_same, upd_at, set_at, *, ↓reduceIte]; done) | (simp only [upd_same, upd_at, set_at, *, ↓reduceIte]; rfl))) ?_; (try (simp (config := { contextual := true, dsimp := false }) only [*, CliC, Msg.cells, ↓reduceIte, ↓evP, evQ, if_true, if_false, eq_self, binv, eqv, lenv, fillO, splice, fldv, Sp.eqa, eqL, eq1, Nat.reduceAdd, Nat.reduceEqDiff, Nat.reduceLeDiff, Nat.reduceMul, reduceCtorEq, Int.reduceLT, Int.reduceLE, Int.reduceGT, Int.reduceGE, Int.reduceEq, Int.reduceNeg]))) | (refine ccallF_of (raise23 (S := S) (v := w) (by first | rfl | (simp only [upd_same, upd_at, set_at, *, ↓reduceIte]; done) | (simp only [upd_same, upd_at, set_at, *, ↓reduceIte]; rfl)) _) ?_; (try (simp (config := { contextual := true, dsimp := false }) only [*, CliC, Msg.cells, ↓reduceIte, ↓evP, evQ, if_true, if_false, eq_self, binv, eqv, lenv, fillO, splice, fldv, Sp.eqa, eqL, eq1, Nat.reduceAdd, Nat.reduceEqDiff, Nat.reduceLeDiff, Nat.reduceMul, reduceCtorEq, Int.reduceLT, Int.reduceLE, Int.reduceGT, Int.reduceGE, Int.reduceEq, Int.reduceNeg]))) | (refine gcallF_of (H.out _ (by (first | exact Sub.refl _ | ((repeat (first | exact Sub.refl _ | (refine Sub.drop ?_ ?_; focus (simp only [none_upd, none_set, not_false_eq_true, true_and, and_true, *]; done)) | refine Sub.both ?_)); done)))) ?_; (try (simp (config := { contextual := true, dsimp := false }) only [*, CliC, Msg.cells, ↓reduceIte, ↓evP, evQ, if_true, if_false, eq_self, binv, eqv, lenv, fillO, splice, fldv, Sp.eqa, eqL, eq1, Nat.reduceAdd, Nat.reduceEqDiff, Nat.reduceLeDiff, Nat.reduceMul, reduceCtorEq, Int.reduceLT, Int.reduceLE, Int.reduceGT, Int.reduceGE, Int.reduceEq, Int.reduceNeg]))) | (refine gcallF_of (finish66 (T := T) (v := v) (by first | rfl | (simp only [upd_same, upd_at, set_at, *, ↓reduceIte]; done) | (simp only [upd_same, upd_at, set_at, *, ↓reduceIte]; rfl))) ?_; (try (simp (config := { contextual := true, dsimp := false }) only [*, CliC, Msg.cells, ↓reduceIte, ↓evP, evQ, if_true, if_false, eq_self, binv, eqv, lenv, fillO, splice, fldv, Sp.eqa, eqL, eq1, Nat.reduceAdd, Nat.reduceEqDiff, Nat.reduceLeDiff, Nat.reduceMul, reduceCtorEq, Int.reduceLT, Int.reduceLE, Int.reduceGT, Int.reduceGE, Int.reduceEq, Int.reduceNeg]))) | (refine gcallF_of (raise23 (S := S) (v := w) (by first | rfl | (simp only [upd_same, upd_at, set_at, *, ↓reduceIte]; done) | (simp only [upd_same, upd_at, set_at, *, ↓reduceIte]; rfl)) _) ?_; (try (simp (config := { contextual := true, dsimp := false }) only [*, CliC, Msg.cells, ↓reduceIte, ↓evP, evQ, if_true, if_false, eq_self, binv, eqv, lenv, fillO, splice, fldv, Sp.eqa, eqL, eq1, Nat.reduceAdd, Nat.reduceEqDiff, Nat.reduceLeDiff, Nat.reduceMul, reduceCtorEq, Int.reduceLT, Int.reduceLE, Int.reduceGT, Int.reduceGE, Int.reduceEq, Int.reduceNeg]))) | (intro _; intros) | ((refine And.intro ?_ ?_; focus (first | omega | (first | exact Sub.refl _ | ((repeat (first | exact Sub.refl _ | (refine Sub.drop ?_ ?_; focus (simp only [none_upd, none_set, not_false_eq_true, true_and, and_true, *]; done)) | refine Sub.both ?_)); done)) | ((simp only [decide_eq_true_eq, decide_eq_false_iff_not] at *); omega) | (simp_all; done) | (simp_all; omega))); (try (simp (config := { contextual := true, dsimp := false }) only [*, CliC, Msg.cells, ↓reduceIte, ↓evP, evQ, if_true, if_false, eq_self, binv, eqv, lenv, fillO, splice, fldv, Sp.eqa, eqL, eq1, Nat.reduceAdd, Nat.reduceEqDiff, Nat.reduceLeDiff, Nat.reduceMul, reduceCtorEq, Int.reduceLT, Int.reduceLE, Int.reduceGT, Int.reduceGE, Int.reduceEq, Int.reduceNeg])))))
  all_goals (refine endF_det rfl ?_; simp only [cond_true, cond_false, *, set_same, set_ne, ↓reduceIte, not_false_eq_true]; exact (by (first | exact Sub.refl _ | ((repeat (first | exact Sub.refl _ | (refine Sub.drop ?_ ?_; focus (simp only [none_upd, none_set, not_false_eq_true, true_and, and_true, *]; done)) | refine Sub.both ?_)); done))))
theorem finishC {σ : Hp} {C : CL} {i : Nat} {t : TR} {s : SR} (h : CliAt σ C) (hi : C.ts[i]? = some t) (hs : C.ss[t.k]? = some s) (hg : s.g = t.h) :
    ACalls Tryd.prog 36 #[.pointer (some ⟨C.g, 0, none⟩), .int .i64 i] σ fun u σ' => u = .tuple #[.int .i64 t.T.finish.2.1, .int .i64 t.T.finish.2.2] ∧ Moved σ C σ' (C.fin i t s) :=
  (finish36g (by rw [hg]; exact yesT h hi) (h.tx i t hi).1 (h.ses t.k s hs).1).mono fun u σ' ⟨h1, h2⟩ => ⟨h1, by
    rw [h2]
    have m1 := tx_set h hi t.T.finish.1 (reads_finish _)
    unfold CL.fin
    cases decide (t.T.finish.2.2 = 0)
    · exact m1
    · exact m1.trans (ses_set m1.1 hs _)⟩
end Go.Proofs.YtaoafjlocjjbbaaDoor

-- C21
namespace Go.Proofs.YtaoafjlocjjbbaaDoor
open Go.Sp
set_option linter.unusedSimpArgs false
set_option linter.unusedVariables false
theorem decDigits_step {u : Nat} (h : ¬ u < 10) : Lib.decDigits u = Lib.decDigits (u / 10) ++ [UInt8.ofNat (48 + u % 10)] := by
  conv => lhs; rw [Lib.decDigits, dif_neg h]
theorem digit_toNat {d : Nat} (h : d < 10) : (UInt8.ofNat (48 + d)).toNat = 48 + d := by
  rw [UInt8.toNat_ofNat']; omega
theorem parse_digits : ∀ (u : Nat) (r : List UInt8), u ≤ 1099511627776 → Lib.parseUintM (2 ^ 64 - 1) 0 (Lib.decDigits u ++ r) = Lib.parseUintM (2 ^ 64 - 1) u r := by
  intro u
  induction u using Nat.strongRecOn with
  | ind u ih =>
    intro r hu
    by_cases h : u < 10
    · rw [Lib.decDigits_one h, List.singleton_append, Lib.parseUintM, digit_toNat h, if_pos (by omega), if_neg (by omega), if_neg (by omega)]
      rw [show 0 * 10 + (48 + u - 48) = u by omega]
    · rw [decDigits_step h, List.append_assoc, ih (u / 10) (by omega) _ (by omega), List.singleton_append, Lib.parseUintM, digit_toNat (by omega), if_pos (by omega), if_neg (by omega), if_neg (by omega)]
      rw [show u / 10 * 10 + (48 + u % 10 - 48) = u by omega]
theorem digits_ne (u : Nat) : Lib.decDigits u ≠ [] := by
  intro h
  have := Lib.decDigits_length u
  rw [h] at this
  have := Lib.nDigits_pos u
  simp at *
  omega
theorem digits_head : ∀ (u : Nat) (c : UInt8) (r : List UInt8), Lib.decDigits u = c :: r → 48 ≤ c.toNat ∧ c.toNat ≤ 57 := by
  intro u
  induction u using Nat.strongRecOn with
  | ind u ih =>
    intro c r hc
    by_cases h : u < 10
    · rw [Lib.decDigits_one h] at hc
      cases hc
      rw [digit_toNat h]; omega
    · rw [decDigits_step h] at hc
      cases hd : Lib.decDigits (u / 10) with
      | nil => exact absurd hd (digits_ne _)
      | cons c' r' =>
        rw [hd] at hc
        cases hc
        exact ih (u / 10) (by omega) _ _ hd
theorem parseInt_digits {u : Nat} (hu : u ≤ 1099511627776) : Lib.parseIntB 64 (Lib.decDigits u) = .ok (u : Int) := by
  cases hd : Lib.decDigits u with
  | nil => exact absurd hd (digits_ne _)
  | cons c r =>
    obtain ⟨h1, h2⟩ := digits_head u c r hd
    have hp := parse_digits u [] hu
    rw [List.append_nil] at hp
    have hp2 : Lib.parseUintB 64 (Lib.decDigits u) = .ok u := by
      unfold Lib.parseUintB
      rw [if_neg (digits_ne u), hp]; rfl
    unfold Lib.parseIntB
    simp only
    rw [if_neg (by omega), ← hd, hp2]
    simp only
    rw [if_neg (by intro h; have := h.2; omega), if_neg (by intro h; omega), if_neg (by omega)]
/-- A valid floor's token, letter by letter. -/
theorem tokB_list {u : Nat} : (tokB (u : Int)).data.toList = 116 :: (Lib.decDigits u ++ [46, UInt8.ofNat (sufI u).toNat]) := by
  unfold tokB deci
  rw [Lib.itoa_nonneg]
  simp [ByteArray.data_append]
theorem tokBad_nat {u : Nat} : tokBad (u : Int) = false ↔ u ≤ 1099511627776 := by
  unfold tokBad; simp only [Bool.or_eq_false_iff, decide_eq_false_iff_not]; omega
theorem tokE_iff {n : Int} : tokE n = 0 ↔ tokBad n = false := by
  unfold tokE; cases tokBad n <;> simp
theorem size_list (s : ByteArray) : s.size = s.data.toList.length := by rw [Array.length_toList]; rfl
theorem list_ext {a b : ByteArray} (h : a.data.toList = b.data.toList) : a = b := by
  cases a; cases b; exact congrArg _ (Array.toList_inj.mp h)
theorem extract_list (s : ByteArray) (i j : Nat) : (s.extract i j).data.toList = (s.data.toList.take j).drop i := by
  rw [ByteArray.data_extract, Array.toList_extract]
  simp [List.extract_eq_take_drop, List.drop_take]
theorem parN_some {s : ByteArray} {n : Int} : parN s = some n ↔ tokE n = 0 ∧ tokV n = s := by
  constructor
  · intro h
    unfold parN at h
    split at h
    · split at h
      · split at h
        · cases h; assumption
        · cases h
      · cases h
    · cases h
  · rintro ⟨h1, h2⟩
    have hb := tokE_iff.1 h1
    have h0 : 0 ≤ n := by unfold tokBad at hb; simp only [Bool.or_eq_false_iff, decide_eq_false_iff_not] at hb; omega
    obtain ⟨u, rfl⟩ := Int.eq_ofNat_of_zero_le h0
    have hu := tokBad_nat.1 hb
    have hs : s = tokB u := by rw [← h2]; unfold tokV; rw [hb]; rfl
    have hl : s.data.toList = 116 :: (Lib.decDigits u ++ [46, UInt8.ofNat (sufI u).toNat]) := by rw [hs]; exact tokB_list
    have hlen : s.size = (Lib.decDigits u).length + 3 := by rw [size_list, hl]; simp
    have hpos : 0 < (Lib.decDigits u).length := List.length_pos_iff.2 (digits_ne u)
    have he : (s.extract 1 (s.size - 2)).data.toList = Lib.decDigits u := by
      rw [extract_list, hl, hlen, show (Lib.decDigits u).length + 3 - 2 = (Lib.decDigits u).length + 1 by omega]
      simp
    unfold parN
    rw [if_pos (by omega), he, parseInt_digits hu]
    simp only
    rw [if_pos ⟨h1, h2⟩]
/-- The reference's loop over the letters: k more at the most. -/
def rpl : Nat → List UInt8 → Int → Int
  | 0, _, n => n
  | _, [], n => n
  | k + 1, c :: r, n => if (48 ≤ c.toNat ∧ c.toNat ≤ 57) ∧ n ≤ 1099511627776 then rpl k r (10 * n + ((c.toNat : Int) - 48)) else n
theorem rpl_digits : ∀ (u : Nat) (k : Nat) (r : List UInt8), u ≤ 1099511627776 → (Lib.decDigits u).length ≤ k → rpl k (Lib.decDigits u ++ r) 0 = rpl (k - (Lib.decDigits u).length) r u := by
  intro u
  induction u using Nat.strongRecOn with
  | ind u ih =>
    intro k r hu hk
    by_cases h : u < 10
    · rw [Lib.decDigits_one h] at hk ⊢
      obtain ⟨k, rfl⟩ : ∃ j, k = j + 1 := ⟨k - 1, by simp at hk; omega⟩
      rw [List.singleton_append, rpl, digit_toNat h, if_pos (by omega)]
      simp
      congr 1; omega
    · have hl : (Lib.decDigits u).length = (Lib.decDigits (u / 10)).length + 1 := by rw [decDigits_step h]; simp
      rw [hl] at hk ⊢
      rw [decDigits_step h, List.append_assoc, ih (u / 10) (by omega) k _ (by omega) (by omega), List.singleton_append]
      obtain ⟨j, hj⟩ : ∃ j, k - (Lib.decDigits (u / 10)).length = j + 1 := ⟨k - (Lib.decDigits (u / 10)).length - 1, by omega⟩
      rw [hj, rpl, digit_toNat (by omega), if_pos (by omega), show k - ((Lib.decDigits (u / 10)).length + 1) = j by omega]
      congr 1; omega
theorem rpl_tok {s : ByteArray} {n : Int} (h : parN s = some n) : rpl 19 (s.data.toList.drop 1) 0 = n := by
  obtain ⟨h1, h2⟩ := parN_some.1 h
  have hb := tokE_iff.1 h1
  have h0 : 0 ≤ n := by unfold tokBad at hb; simp only [Bool.or_eq_false_iff, decide_eq_false_iff_not] at hb; omega
  obtain ⟨u, rfl⟩ := Int.eq_ofNat_of_zero_le h0
  have hu := tokBad_nat.1 hb
  have hs : s = tokB u := by rw [← h2]; unfold tokV; rw [hb]; rfl
  rw [hs, tokB_list]
  have hl : (Lib.decDigits u).length ≤ 13 := by rw [Lib.decDigits_length]; exact nDigits_le 13 u (by omega) (by omega)
  show rpl 19 (Lib.decDigits u ++ _) 0 = _
  rw [rpl_digits u 19 _ hu (by omega)]
  obtain ⟨j, hj⟩ : ∃ j, 19 - (Lib.decDigits u).length = j + 1 := ⟨18 - (Lib.decDigits u).length, by omega⟩
  rw [hj, rpl, if_neg (by intro h; have := h.1.1; simp at this)]
theorem rpl_par (s : ByteArray) : (if tokE (rpl 19 (s.data.toList.drop 1) 0) = 0 ∧ tokV (rpl 19 (s.data.toList.drop 1) 0) = s then some (rpl 19 (s.data.toList.drop 1) 0) else none) = parN s := by
  cases h : parN s with
  | some n =>
    rw [rpl_tok h, if_pos (parN_some.1 h)]
  | none =>
    split
    · rename_i hh; rw [parN_some.2 hh] at h; cases h
    · rfl
end Go.Proofs.YtaoafjlocjjbbaaDoor

-- C22
namespace Go.Proofs.YtaoafjlocjjbbaaDoor
open Go.Sp
set_option linter.unusedSimpArgs false
set_option linter.unusedVariables false
theorem strOne (n : Int) : strOfNums [n] = ⟨#[UInt8.ofNat n.toNat]⟩ := rfl
theorem deci_small {n : Int} (h0 : 0 ≤ n) (h1 : n < 10) : deci n = ⟨#[UInt8.ofNat (48 + n).toNat]⟩ := by
  obtain ⟨u, rfl⟩ := Int.eq_ofNat_of_zero_le h0
  unfold deci
  rw [Lib.itoa_nonneg, Lib.decDigits_one (by omega)]
  rw [show (48 + (u : Int)).toNat = 48 + u by omega]
theorem deci_step {n : Int} (h0 : 0 ≤ n) (h1 : ¬ n < 10) : deci n = deci (n / 10) ++ ⟨#[UInt8.ofNat (48 + n % 10).toNat]⟩ := by
  obtain ⟨u, rfl⟩ := Int.eq_ofNat_of_zero_le h0
  apply list_ext
  rw [show (u : Int) / 10 = ((u / 10 : Nat) : Int) by omega]
  unfold deci
  rw [Lib.itoa_nonneg, Lib.itoa_nonneg, decDigits_step (by omega)]
  rw [show (48 + (u : Int) % 10).toNat = 48 + u % 10 by omega]
  simp [ByteArray.data_append]
theorem digits50 : ∀ (k : Nat) (n : Int) (σ : Hp), n.toNat ≤ k → 0 ≤ n → n ≤ 9223372036854775807 → ACalls Tryd.prog 50 #[.int .i64 n] σ fun v σ' => v = .string (deci n) ∧ σ' = σ := by
  intro k
  induction k using Nat.strongRecOn with
  | ind k ih =>
    intro n σ hk h0 h1
    have e1 : n.tmod 10 = n % 10 := Int.tmod_eq_emod_of_nonneg h0
    have e2 : IntKind.i64.wrap (48 + n % 10) = 48 + n % 10 := wi64 (by omega)
    have e3 : IntKind.u8.wrap (48 + n % 10) = 48 + n % 10 := IntWalk.u8_in _ (by omega)
    have e4 : n.tdiv 10 = n / 10 := Int.tdiv_eq_ediv_of_nonneg h0
    have e5 : IntKind.i64.wrap (n / 10) = n / 10 := wi64 (by omega)
    have s1 : (deci (n / 10)).size + (⟨#[UInt8.ofNat (48 + n % 10).toNat]⟩ : ByteArray).size ≤ 9223372036854775807 := by
      have := deci_size (n := n / 10) (by omega) (by omega)
      show _ + 1 ≤ _
      omega
    have s2 := strOne (48 + n % 10)
    have H := Hid.mk (And.intro hk (And.intro h0 h1))
    clear hk h0 h1
    (refine acalls_F ok50 (by simp) ?_; unfold c50 r50; simp (config := { contextual := true, dsimp := false }) only [↓reduceIte, ↓evP, evQ, if_true, if_false, eq_self, binv, eqv, lenv, fillO, splice, fldv, Sp.eqa, eqL, eq1, Nat.reduceAdd, Nat.reduceEqDiff, Nat.reduceLeDiff, Nat.reduceMul, reduceCtorEq, Int.reduceLT, Int.reduceLE, Int.reduceGT, Int.reduceGE, Int.reduceEq, Int.reduceNeg])
    (repeat' (first | (refine condF_split (fun hc => ?_) (fun hc => ?_) <;> (try simp only [Bool.not_eq_true', Bool.not_eq_false', Bool.and_eq_true, Bool.or_eq_false_iff] at hc) <;> (try (simp (config := { contextual := true, dsimp := false }) only [*, ↓reduceIte, ↓evP, evQ, if_true, if_false, eq_self, binv, eqv, lenv, fillO, splice, fldv, Sp.eqa, eqL, eq1, Nat.reduceAdd, Nat.reduceEqDiff, Nat.reduceLeDiff, Nat.reduceMul, reduceCtorEq, Int.reduceLT, Int.reduceLE, Int.reduceGT, Int.reduceGE, Int.reduceEq, Int.reduceNeg]))) | (intro _; intros) | ((refine And.intro ?_ ?_; focus (first | omega | (first | exact Sub.refl _ | ((repeat (first | exact Sub.refl _ | (refine Sub.drop ?_ ?_; focus (simp only [none_upd, none_set, not_false_eq_true, true_and, and_true, *]; done)) | refine Sub.both ?_)); done)) | ((simp only [decide_eq_true_eq, decide_eq_false_iff_not] at *); omega) | (simp_all; done) | (simp_all; omega))); (try (simp (config := { contextual := true, dsimp := false }) only [*, ↓reduceIte, ↓evP, evQ, if_true, if_false, eq_self, binv, eqv, lenv, fillO, splice, fldv, Sp.eqa, eqL, eq1, Nat.reduceAdd, Nat.reduceEqDiff, Nat.reduceLeDiff, Nat.reduceMul, reduceCtorEq, Int.reduceLT, Int.reduceLE, Int.reduceGT, Int.reduceGE, Int.reduceEq, Int.reduceNeg])))))
    · have hn := of_decide_eq_true ‹decide (n < 10) = true›
      have h0 := H.out.2.1
      exact endF_det (by rw [deci_small h0 hn, show n % 10 = n by omega]) (by (first | exact Sub.refl _ | ((repeat (first | exact Sub.refl _ | (refine Sub.drop ?_ ?_; focus (simp only [none_upd, none_set, not_false_eq_true, true_and, and_true, *]; done)) | refine Sub.both ?_)); done)))
    · have hn := of_decide_eq_false ‹decide (n < 10) = false›
      have h0 := H.out
      refine callF_v (ih (n / 10).toNat (by omega) (n / 10) _ (Nat.le_refl _) (by omega) (by omega)) ?_
      have hd := Hid.mk (deci_step h0.2.1 hn)
      clear h0 hn
      simp (config := { contextual := true, dsimp := false }) only [*, ↓reduceIte, ↓evP, evQ, if_true, if_false, eq_self, binv, eqv, lenv, fillO, splice, fldv, Sp.eqa, eqL, eq1, Nat.reduceAdd, Nat.reduceEqDiff, Nat.reduceLeDiff, Nat.reduceMul, reduceCtorEq, Int.reduceLT, Int.reduceLE, Int.reduceGT, Int.reduceGE, Int.reduceEq, Int.reduceNeg]
      exact endF_det (by rw [hd.out]) (by (first | exact Sub.refl _ | ((repeat (first | exact Sub.refl _ | (refine Sub.drop ?_ ?_; focus (simp only [none_upd, none_set, not_false_eq_true, true_and, and_true, *]; done)) | refine Sub.both ?_)); done)))
theorem tokU (n : Int) (h0 : 0 ≤ n) (h1 : n ≤ 1099511627776) : IntKind.i64.wrap (n * 7) = n * 7 ∧ IntKind.i64.wrap (n * 7 + 3) = n * 7 + 3 ∧ (n * 7 + 3).tmod 26 = (n * 7 + 3) % 26 ∧ IntKind.i64.wrap (97 + (n * 7 + 3) % 26) = sufI n ∧ IntKind.u8.wrap (sufI n) = sufI n ∧
    (⟨#[116]⟩ : ByteArray).size + (deci n).size ≤ 9223372036854775807 ∧ (⟨#[116]⟩ ++ deci n : ByteArray).size + (⟨#[46]⟩ : ByteArray).size ≤ 9223372036854775807 ∧ (⟨#[116]⟩ ++ deci n ++ ⟨#[46]⟩ : ByteArray).size + (⟨#[UInt8.ofNat (sufI n).toNat]⟩ : ByteArray).size ≤ 9223372036854775807 := by
  have hs := deci_size h0 (by omega)
  have hs0 : 97 ≤ sufI n ∧ sufI n ≤ 122 := by unfold sufI; omega
  refine ⟨wi64 (by omega), wi64 (by omega), Int.tmod_eq_emod_of_nonneg (by omega), wi64 (by omega), IntWalk.u8_in _ (by omega), ?_, ?_, ?_⟩
  · show 1 + _ ≤ _; omega
  · rw [ByteArray.size_append]; show 1 + _ + 1 ≤ _; omega
  · rw [ByteArray.size_append, ByteArray.size_append]; show 1 + _ + 1 + 1 ≤ _; omega
theorem token20 (n : Int) (σ : Hp) : ACalls Tryd.prog 20 #[.int .i64 n] σ fun v σ' => v = .tuple #[.string (tokV n), .int .i64 (tokE n)] ∧ σ' = σ := by
  (refine acalls_F ok20 (by simp) ?_; unfold c20 r20; simp (config := { contextual := true, dsimp := false }) only [↓reduceIte, ↓evP, evQ, if_true, if_false, eq_self, binv, eqv, lenv, fillO, splice, fldv, Sp.eqa, eqL, eq1, Nat.reduceAdd, Nat.reduceEqDiff, Nat.reduceLeDiff, Nat.reduceMul, reduceCtorEq, Int.reduceLT, Int.reduceLE, Int.reduceGT, Int.reduceGE, Int.reduceEq, Int.reduceNeg])
  (repeat' (first | (refine condF_split (fun hc => ?_) (fun hc => ?_) <;> (try simp only [Bool.not_eq_true', Bool.not_eq_false', Bool.and_eq_true, Bool.or_eq_false_iff] at hc) <;> (try (simp (config := { contextual := true, dsimp := false }) only [*, ↓reduceIte, ↓evP, evQ, if_true, if_false, eq_self, binv, eqv, lenv, fillO, splice, fldv, Sp.eqa, eqL, eq1, Nat.reduceAdd, Nat.reduceEqDiff, Nat.reduceLeDiff, Nat.reduceMul, reduceCtorEq, Int.reduceLT, Int.reduceLE, Int.reduceGT, Int.reduceGE, Int.reduceEq, Int.reduceNeg]))) | (intro _; intros) | ((refine And.intro ?_ ?_; focus (first | omega | (first | exact Sub.refl _ | ((repeat (first | exact Sub.refl _ | (refine Sub.drop ?_ ?_; focus (simp only [none_upd, none_set, not_false_eq_true, true_and, and_true, *]; done)) | refine Sub.both ?_)); done)) | ((simp only [decide_eq_true_eq, decide_eq_false_iff_not] at *); omega) | (simp_all; done) | (simp_all; omega))); (try (simp (config := { contextual := true, dsimp := false }) only [*, ↓reduceIte, ↓evP, evQ, if_true, if_false, eq_self, binv, eqv, lenv, fillO, splice, fldv, Sp.eqa, eqL, eq1, Nat.reduceAdd, Nat.reduceEqDiff, Nat.reduceLeDiff, Nat.reduceMul, reduceCtorEq, Int.reduceLT, Int.reduceLE, Int.reduceGT, Int.reduceGE, Int.reduceEq, Int.reduceNeg])))))
  · exact endF_det (by unfold tokV tokE tokBad; rw [hc]; rfl) (Sub.refl _)
  · rename_i h1; exact endF_det (by unfold tokV tokE tokBad; rw [h1, hc]; rfl) (Sub.refl _)
  have hb : tokBad n = false := by unfold tokBad; rw [‹decide (n < 0) = false›, ‹decide (n > 1099511627776) = false›]; rfl
  have h0 : 0 ≤ n := by have := of_decide_eq_false ‹decide (n < 0) = false›; omega
  have h1 : n ≤ 1099511627776 := by have := of_decide_eq_false ‹decide (n > 1099511627776) = false›; omega
  obtain ⟨e1, e2, e3, e4, e5, s1, s2, s3⟩ := tokU n h0 h1
  have e6 := strOne (sufI n)
  refine gcallF_of (digits50 n.toNat n σ (Nat.le_refl _) h0 (by omega)) ?_
  have HT := Hid.mk (show tokV n = ⟨#[116]⟩ ++ deci n ++ ⟨#[46]⟩ ++ ⟨#[UInt8.ofNat (sufI n).toNat]⟩ ∧ tokE n = 0 by unfold tokV tokE; rw [hb]; exact ⟨rfl, rfl⟩)
  clear hb h0 h1
  simp (config := { contextual := true, dsimp := false }) only [*, ↓reduceIte, ↓evP, evQ, if_true, if_false, eq_self, binv, eqv, lenv, fillO, splice, fldv, Sp.eqa, eqL, eq1, Nat.reduceAdd, Nat.reduceEqDiff, Nat.reduceLeDiff, Nat.reduceMul, reduceCtorEq, Int.reduceLT, Int.reduceLE, Int.reduceGT, Int.reduceGE, Int.reduceEq, Int.reduceNeg]
  (repeat' (first | (refine condF_split (fun hc => ?_) (fun hc => ?_) <;> (try simp only [Bool.not_eq_true', Bool.not_eq_false', Bool.and_eq_true, Bool.or_eq_false_iff] at hc) <;> (try (simp (config := { contextual := true, dsimp := false }) only [*, ↓reduceIte, ↓evP, evQ, if_true, if_false, eq_self, binv, eqv, lenv, fillO, splice, fldv, Sp.eqa, eqL, eq1, Nat.reduceAdd, Nat.reduceEqDiff, Nat.reduceLeDiff, Nat.reduceMul, reduceCtorEq, Int.reduceLT, Int.reduceLE, Int.reduceGT, Int.reduceGE, Int.reduceEq, Int.reduceNeg]))) | (intro _; intros) | ((refine And.intro ?_ ?_; focus (first | omega | (first | exact Sub.refl _ | ((repeat (first | exact Sub.refl _ | (refine Sub.drop ?_ ?_; focus (simp only [none_upd, none_set, not_false_eq_true, true_and, and_true, *]; done)) | refine Sub.both ?_)); done)) | ((simp only [decide_eq_true_eq, decide_eq_false_iff_not] at *); omega) | (simp_all; done) | (simp_all; omega))); (try (simp (config := { contextual := true, dsimp := false }) only [*, ↓reduceIte, ↓evP, evQ, if_true, if_false, eq_self, binv, eqv, lenv, fillO, splice, fldv, Sp.eqa, eqL, eq1, Nat.reduceAdd, Nat.reduceEqDiff, Nat.reduceLeDiff, Nat.reduceMul, reduceCtorEq, Int.reduceLT, Int.reduceLE, Int.reduceGT, Int.reduceGE, Int.reduceEq, Int.reduceNeg])))))
  refine endF_det ?_ ?_
  · rw [HT.out.1, HT.out.2]
  · exact (by (first | exact Sub.refl _ | ((repeat (first | exact Sub.refl _ | (refine Sub.drop ?_ ?_; focus (simp only [none_upd, none_set, not_false_eq_true, true_and, and_true, *]; done)) | refine Sub.both ?_)); done)))
end Go.Proofs.YtaoafjlocjjbbaaDoor

-- C23
namespace Go.Proofs.YtaoafjlocjjbbaaDoor
open Go.Sp
set_option linter.unusedSimpArgs false
set_option linter.unusedVariables false
theorem drop_cons {l : List UInt8} {i : Nat} (h : i < l.length) : l.drop i = l.getD i 0 :: l.drop (i + 1) := by
  rw [List.drop_eq_getElem_cons h, List.getD_eq_getElem?_getD, List.getElem?_eq_getElem h]; rfl
theorem rpl_go {s : ByteArray} {i : Nat} {n : Int} (h1 : i < s.size) (h2 : i < 20) (h3 : 48 ≤ (s.data.toList.getD i 0).toNat) (h4 : (s.data.toList.getD i 0).toNat ≤ 57) (h5 : n ≤ 1099511627776) :
    rpl (20 - (i + 1)) (s.data.toList.drop (i + 1)) (10 * n + (((s.data.toList.getD i 0).toNat : Int) - 48)) = rpl (20 - i) (s.data.toList.drop i) n := by
  rw [size_list] at h1
  rw [drop_cons h1, show 20 - i = (20 - (i + 1)) + 1 by omega, rpl, if_pos ⟨⟨h3, h4⟩, h5⟩]
theorem rpl_stop {s : ByteArray} {i : Nat} {n : Int} (hi : i ≤ 20) (h : ¬ (i < s.size ∧ i < 20 ∧ 48 ≤ (s.data.toList.getD i 0).toNat ∧ (s.data.toList.getD i 0).toNat ≤ 57 ∧ n ≤ 1099511627776)) : rpl (20 - i) (s.data.toList.drop i) n = n := by
  rcases Nat.lt_or_ge i 20 with h20 | h20
  · rw [show 20 - i = (20 - (i + 1)) + 1 by omega]
    rcases Nat.lt_or_ge i s.size with hs | hs
    · rw [size_list] at hs
      rw [drop_cons hs, rpl, if_neg (fun ⟨⟨h3, h4⟩, h5⟩ => h ⟨by rw [size_list]; exact hs, h20, h3, h4, h5⟩)]
    · rw [List.drop_eq_nil_of_le (by rw [← size_list]; exact hs)]; rfl
  · rw [show 20 - i = 0 by omega]; cases s.data.toList.drop i <;> rfl
theorem par_end {s : ByteArray} {n : Int} (hN : n = rpl 19 (s.data.toList.drop 1) 0) : parV s = cond (decide (tokE n = 0) && decide (tokV n = s)) n 0 ∧ parE s = cond (decide (tokE n = 0) && decide (tokV n = s)) 0 30 := by
  have h := rpl_par s
  rw [← hN] at h
  unfold parV parE
  rw [← h]
  by_cases h1 : tokE n = 0 <;> by_cases h2 : tokV n = s <;> simp [h1, h2]
theorem par22 (s : ByteArray) (σ : Hp) (hs : s.size ≤ 281474976710656) : ACalls Tryd.prog 22 #[.string s] σ fun v σ' => v = .tuple #[.int .i64 (parV s), .int .i64 (parE s)] ∧ σ' = σ := by
  (refine acalls_F ok22 (by simp) ?_; unfold c22 r22; simp (config := { contextual := true, dsimp := false }) only [↓reduceIte, ↓evP, evQ, if_true, if_false, eq_self, binv, eqv, lenv, fillO, splice, fldv, Sp.eqa, eqL, eq1, Nat.reduceAdd, Nat.reduceEqDiff, Nat.reduceLeDiff, Nat.reduceMul, reduceCtorEq, Int.reduceLT, Int.reduceLE, Int.reduceGT, Int.reduceGE, Int.reduceEq, Int.reduceNeg])
  refine loopF_of (fun k t σ' => ∃ (i : Nat) (n : Int), 1 ≤ i ∧ i ≤ 20 ∧ k = 20 - i ∧ t 0 = .string s ∧ t 5 = .int .i64 i ∧ t 4 = .int .i64 n ∧ σ' = σ ∧ 0 ≤ n ∧ n ≤ 10995116277769 ∧ rpl (20 - i) (s.data.toList.drop i) n = rpl 19 (s.data.toList.drop 1) 0) 19 (Sub.refl _)
    ⟨1, 0, by omega, by omega, rfl, (by first | rfl | (simp only [↓putO_get, ↓putO_no, init_zero, init_succ, Nat.reduceEqDiff, ↓reduceIte, *]; done) | (simp only [↓putO_get, ↓putO_no, init_zero, init_succ, Nat.reduceEqDiff, ↓reduceIte, *]; rfl)), (by first | rfl | (simp only [↓putO_get, ↓putO_no, init_zero, init_succ, Nat.reduceEqDiff, ↓reduceIte, *]; done) | (simp only [↓putO_get, ↓putO_no, init_zero, init_succ, Nat.reduceEqDiff, ↓reduceIte, *]; rfl)), (by first | rfl | (simp only [↓putO_get, ↓putO_no, init_zero, init_succ, Nat.reduceEqDiff, ↓reduceIte, *]; done) | (simp only [↓putO_get, ↓putO_no, init_zero, init_succ, Nat.reduceEqDiff, ↓reduceIte, *]; rfl)), rfl, by omega, by omega, rfl⟩ ?_
  rintro k t σ' ⟨i, n, h1, h20, rfl, t0, t5, t4, rfl, hn0, hn1, hr⟩
  have w1 : IntKind.i64.wrap ((i : Int) + 1) = ((i + 1 : Nat) : Int) := by rw [wi64 (by omega)]; rfl
  have w2 : IntKind.i64.wrap (10 * n) = 10 * n := wi64 (by omega)
  have HR := Hid.mk (And.intro h1 (And.intro h20 (And.intro hn0 (And.intro hn1 hr))))
  clear h1 h20 hn0 hn1 hr
  simp (config := { contextual := true, dsimp := false }) only [*, ↓reduceIte, ↓evP, evQ, if_true, if_false, eq_self, binv, eqv, lenv, fillO, splice, fldv, Sp.eqa, eqL, eq1, Nat.reduceAdd, Nat.reduceEqDiff, Nat.reduceLeDiff, Nat.reduceMul, reduceCtorEq, Int.reduceLT, Int.reduceLE, Int.reduceGT, Int.reduceGE, Int.reduceEq, Int.reduceNeg]
  (repeat' (first | (refine condF_split (fun hc => ?_) (fun hc => ?_) <;> (try simp only [Bool.not_eq_true', Bool.not_eq_false', Bool.and_eq_true, Bool.or_eq_false_iff] at hc) <;> (try (simp (config := { contextual := true, dsimp := false }) only [*, ↓reduceIte, ↓evP, evQ, if_true, if_false, eq_self, binv, eqv, lenv, fillO, splice, fldv, Sp.eqa, eqL, eq1, Nat.reduceAdd, Nat.reduceEqDiff, Nat.reduceLeDiff, Nat.reduceMul, reduceCtorEq, Int.reduceLT, Int.reduceLE, Int.reduceGT, Int.reduceGE, Int.reduceEq, Int.reduceNeg]))) | (intro _; intros) | ((refine And.intro ?_ ?_; focus (first | omega | (first | exact Sub.refl _ | ((repeat (first | exact Sub.refl _ | (refine Sub.drop ?_ ?_; focus (simp only [none_upd, none_set, not_false_eq_true, true_and, and_true, *]; done)) | refine Sub.both ?_)); done)) | ((simp only [decide_eq_true_eq, decide_eq_false_iff_not] at *); omega) | (simp_all; done) | (simp_all; omega))); (try (simp (config := { contextual := true, dsimp := false }) only [*, ↓reduceIte, ↓evP, evQ, if_true, if_false, eq_self, binv, eqv, lenv, fillO, splice, fldv, Sp.eqa, eqL, eq1, Nat.reduceAdd, Nat.reduceEqDiff, Nat.reduceLeDiff, Nat.reduceMul, reduceCtorEq, Int.reduceLT, Int.reduceLE, Int.reduceGT, Int.reduceGE, Int.reduceEq, Int.reduceNeg])))))
  · simp only [decide_eq_true_eq, ge_iff_le] at *
    refine nextF_of (σ₁ := σ') (20 - (i + 1)) (by have := HR.out.2.1; omega) (Sub.refl _) ⟨i + 1, 10 * n + (((s.data.toList.getD i 0).toNat : Int) - 48), by omega, by omega, rfl, (by first | rfl | (simp only [↓putO_get, ↓putO_no, init_zero, init_succ, Nat.reduceEqDiff, ↓reduceIte, *]; done) | (simp only [↓putO_get, ↓putO_no, init_zero, init_succ, Nat.reduceEqDiff, ↓reduceIte, *]; rfl)), (by first | rfl | (simp only [↓putO_get, ↓putO_no, init_zero, init_succ, Nat.reduceEqDiff, ↓reduceIte, *]; done) | (simp only [↓putO_get, ↓putO_no, init_zero, init_succ, Nat.reduceEqDiff, ↓reduceIte, *]; rfl)), ?_, rfl, by have := HR.out.2.2.1; omega, by omega, ?_⟩
    · show Value.int .i64 (IntKind.i64.wrap _) = _
      have c1 : IntKind.u8.wrap (((s.data.toList.getD i 0).toNat : Int) - 48) = ((s.data.toList.getD i 0).toNat : Int) - 48 := IntWalk.u8_in _ (by omega)
      have c2 : IntKind.i64.wrap (((s.data.toList.getD i 0).toNat : Int) - 48) = ((s.data.toList.getD i 0).toNat : Int) - 48 := wi64 (by omega)
      rw [c1, c2, wi64 (by have := HR.out.2.2.1; omega)]
    · rw [rpl_go (by omega) (by omega) (by omega) (by omega) (by omega)]; exact HR.out.2.2.2.2
  all_goals
    have hN : n = rpl 19 (s.data.toList.drop 1) 0 := by
      rw [← HR.out.2.2.2.2]
      refine (rpl_stop HR.out.2.1 (fun h => ?_)).symm
      simp only [decide_eq_true_eq, decide_eq_false_iff_not, ge_iff_le] at *
      omega
    have HP := Hid.mk (par_end hN)
    clear hN HR
    (repeat' (first | (refine condF_split (fun hc => ?_) (fun hc => ?_) <;> (try simp only [Bool.not_eq_true', Bool.not_eq_false', Bool.and_eq_true, Bool.or_eq_false_iff] at hc) <;> (try (simp (config := { contextual := true, dsimp := false }) only [*, ↓reduceIte, ↓evP, evQ, if_true, if_false, eq_self, binv, eqv, lenv, fillO, splice, fldv, Sp.eqa, eqL, eq1, Nat.reduceAdd, Nat.reduceEqDiff, Nat.reduceLeDiff, Nat.reduceMul, reduceCtorEq, Int.reduceLT, Int.reduceLE, Int.reduceGT, Int.reduceGE, Int.reduceEq, Int.reduceNeg]))) | (refine callF_v (token20 _ _) ?_; (try (simp (config := { contextual := true, dsimp := false }) only [*, ↓reduceIte, ↓evP, evQ, if_true, if_false, eq_self, binv, eqv, lenv, fillO, splice, fldv, Sp.eqa, eqL, eq1, Nat.reduceAdd, Nat.reduceEqDiff, Nat.reduceLeDiff, Nat.reduceMul, reduceCtorEq, Int.reduceLT, Int.reduceLE, Int.reduceGT, Int.reduceGE, Int.reduceEq, Int.reduceNeg]))) | (refine ccallF_of (token20 _ _) ?_; (try (simp (config := { contextual := true, dsimp := false }) only [*, ↓reduceIte, ↓evP, evQ, if_true, if_false, eq_self, binv, eqv, lenv, fillO, splice, fldv, Sp.eqa, eqL, eq1, Nat.reduceAdd, Nat.reduceEqDiff, Nat.reduceLeDiff, Nat.reduceMul, reduceCtorEq, Int.reduceLT, Int.reduceLE, Int.reduceGT, Int.reduceGE, Int.reduceEq, Int.reduceNeg]))) | (refine gcallF_of (token20 _ _) ?_; (try (simp (config := { contextual := true, dsimp := false }) only [*, ↓reduceIte, ↓evP, evQ, if_true, if_false, eq_self, binv, eqv, lenv, fillO, splice, fldv, Sp.eqa, eqL, eq1, Nat.reduceAdd, Nat.reduceEqDiff, Nat.reduceLeDiff, Nat.reduceMul, reduceCtorEq, Int.reduceLT, Int.reduceLE, Int.reduceGT, Int.reduceGE, Int.reduceEq, Int.reduceNeg]))) | (intro _; intros) | ((refine And.intro ?_ ?_; focus (first | omega | (first | exact Sub.refl _ | ((repeat (first | exact Sub.refl _ | (refine Sub.drop ?_ ?_; focus (simp only [none_upd, none_set, not_false_eq_true, true_and, and_true, *]; done)) | refine Sub.both ?_)); done)) | ((simp only [decide_eq_true_eq, decide_eq_false_iff_not] at *); omega) | (simp_all; done) | (simp_all; omega))); (try (simp (config := { contextual := true, dsimp := false }) only [*, ↓reduceIte, ↓evP, evQ, if_true, if_false, eq_self, binv, eqv, lenv, fillO, splice, fldv, Sp.eqa, eqL, eq1, Nat.reduceAdd, Nat.reduceEqDiff, Nat.reduceLeDiff, Nat.reduceMul, reduceCtorEq, Int.reduceLT, Int.reduceLE, Int.reduceGT, Int.reduceGE, Int.reduceEq, Int.reduceNeg])))))
    all_goals
      refine endF_det ?_ (Sub.refl _)
      rw [HP.out.1, HP.out.2]
      simp [*]
end Go.Proofs.YtaoafjlocjjbbaaDoor

-- C17
namespace Go.Proofs.YtaoafjlocjjbbaaDoor
open Go.Sp
set_option linter.unusedSimpArgs false
set_option linter.unusedVariables false
theorem send15e {σ : Hp} {g : Nat} {S : SesS} {v w : Value} {ws : List Wr} (hg : σ g = some (.cells (S.cells v) 101)) (hv : RoRows 3 Wr.cells (off σ g) w ws) (hn : ws.length * 40 ≤ 140737488355328) (h : S.busy = false) (he : checkV ws = 0) (hs : decide (S.seq ≥ 2147483647) = false) :
    ACalls Tryd.prog 15 #[.pointer (some ⟨g, 0, none⟩), w] σ fun u σ' => ∃ v1 v2, u = .tuple #[.agg (S.sent.msg v2).toArray, .int .i64 0] ∧ σ' g = some (.cells (S.sent.cells v1) 101) ∧ RowsAt 37 3 Wr.cells σ' v1 ws ∧ RowsAt 37 3 Wr.cells σ' v2 ws ∧
      Same (fun k => k = g) σ σ' ∧ New σ v1 ∧ New σ v2 ∧ blk v1 ≠ blk v2 := by
  have k := send15d (v := v) (off_none σ g) hv hn h he hs
  rw [← off_upd hg] at k
  refine k.mono ?_
  rintro u σ' ⟨v1, v2, h1, h2, h3, h4, h5, h6, h7, h8⟩
  exact ⟨v1, v2, h1, h2, h3, h4, h5.ofOff, h6.ofOff h3 h2, h7.ofOff h4 h2, h8⟩
theorem tok12 : tokV 12 = ⟨#[116, 49, 50, 46, 106]⟩ ∧ tokE 12 = 0 := by
  have h : Lib.itoa 12 = [49, 50] := by
    show (if (12 : Int) < 0 then _ else Lib.decDigits 12) = _
    rw [if_neg (by omega), Lib.decDigits_two (by omega) (by omega)]; rfl
  unfold tokV tokE tokBad tokB deci
  rw [h]
  exact ⟨rfl, rfl⟩
theorem fixed13 (σ : Hp) : ACalls Tryd.prog 13 #[] σ fun u σ' => u = .bool true ∧ σ' = σ := by
  (refine acalls_F ok13 (by simp) ?_; unfold c13 r13; simp (config := { contextual := true, dsimp := false }) only [SesS.cells, SesS.view, Wr.cells, SesS.msg, Msg.cells, Bool.not_false, Bool.not_true, SesS.sent, noMsg, ↓reduceIte, ↓evP, evQ, if_true, if_false, eq_self, binv, eqv, lenv, fillO, splice, fldv, Sp.eqa, eqL, eq1, Nat.reduceAdd, Nat.reduceEqDiff, Nat.reduceLeDiff, Nat.reduceMul, reduceCtorEq, Int.reduceLT, Int.reduceLE, Int.reduceGT, Int.reduceGE, Int.reduceEq, Int.reduceNeg])
  (repeat' (first | (refine condF_split (fun hc => ?_) (fun hc => ?_) <;> (try simp only [Bool.not_eq_true', Bool.not_eq_false', Bool.and_eq_true, Bool.or_eq_false_iff] at hc) <;> (try (simp (config := { contextual := true, dsimp := false }) only [*, SesS.cells, SesS.view, Wr.cells, SesS.msg, Msg.cells, Bool.not_false, Bool.not_true, SesS.sent, noMsg, ↓reduceIte, ↓evP, evQ, if_true, if_false, eq_self, binv, eqv, lenv, fillO, splice, fldv, Sp.eqa, eqL, eq1, Nat.reduceAdd, Nat.reduceEqDiff, Nat.reduceLeDiff, Nat.reduceMul, reduceCtorEq, Int.reduceLT, Int.reduceLE, Int.reduceGT, Int.reduceGE, Int.reduceEq, Int.reduceNeg]))) | (intro _; intros) | ((refine And.intro ?_ ?_; focus (first | omega | (first | exact Sub.refl _ | ((repeat (first | exact Sub.refl _ | (refine Sub.drop ?_ ?_; focus (simp only [none_upd, none_set, not_false_eq_true, true_and, and_true, *]; done)) | refine Sub.both ?_)); done)) | ((simp only [decide_eq_true_eq, decide_eq_false_iff_not] at *); omega) | (simp_all; done) | (simp_all; omega))); (try (simp (config := { contextual := true, dsimp := false }) only [*, SesS.cells, SesS.view, Wr.cells, SesS.msg, Msg.cells, Bool.not_false, Bool.not_true, SesS.sent, noMsg, ↓reduceIte, ↓evP, evQ, if_true, if_false, eq_self, binv, eqv, lenv, fillO, splice, fldv, Sp.eqa, eqL, eq1, Nat.reduceAdd, Nat.reduceEqDiff, Nat.reduceLeDiff, Nat.reduceMul, reduceCtorEq, Int.reduceLT, Int.reduceLE, Int.reduceGT, Int.reduceGE, Int.reduceEq, Int.reduceNeg])))))
  refine callF_of (new14 4 σ) ?_
  rintro u _ ⟨g, hg, rfl, rfl⟩
  simp (config := { contextual := true, dsimp := false }) only [*, SesS.cells, SesS.view, Wr.cells, SesS.msg, Msg.cells, Bool.not_false, Bool.not_true, SesS.sent, noMsg, ↓reduceIte, ↓evP, evQ, if_true, if_false, eq_self, binv, eqv, lenv, fillO, splice, fldv, Sp.eqa, eqL, eq1, Nat.reduceAdd, Nat.reduceEqDiff, Nat.reduceLeDiff, Nat.reduceMul, reduceCtorEq, Int.reduceLT, Int.reduceLE, Int.reduceGT, Int.reduceGE, Int.reduceEq, Int.reduceNeg]
  (repeat' (first | (refine condF_split (fun hc => ?_) (fun hc => ?_) <;> (try simp only [Bool.not_eq_true', Bool.not_eq_false', Bool.and_eq_true, Bool.or_eq_false_iff] at hc) <;> (try (simp (config := { contextual := true, dsimp := false }) only [*, SesS.cells, SesS.view, Wr.cells, SesS.msg, Msg.cells, Bool.not_false, Bool.not_true, SesS.sent, noMsg, ↓reduceIte, ↓evP, evQ, if_true, if_false, eq_self, binv, eqv, lenv, fillO, splice, fldv, Sp.eqa, eqL, eq1, Nat.reduceAdd, Nat.reduceEqDiff, Nat.reduceLeDiff, Nat.reduceMul, reduceCtorEq, Int.reduceLT, Int.reduceLE, Int.reduceGT, Int.reduceGE, Int.reduceEq, Int.reduceNeg]))) | (refine callF_v (put16 _ _ _) ?_; (try (simp (config := { contextual := true, dsimp := false }) only [*, SesS.cells, SesS.view, Wr.cells, SesS.msg, Msg.cells, Bool.not_false, Bool.not_true, SesS.sent, noMsg, ↓reduceIte, ↓evP, evQ, if_true, if_false, eq_self, binv, eqv, lenv, fillO, splice, fldv, Sp.eqa, eqL, eq1, Nat.reduceAdd, Nat.reduceEqDiff, Nat.reduceLeDiff, Nat.reduceMul, reduceCtorEq, Int.reduceLT, Int.reduceLE, Int.reduceGT, Int.reduceGE, Int.reduceEq, Int.reduceNeg]))) | (refine ccallF_of (put16 _ _ _) ?_; (try (simp (config := { contextual := true, dsimp := false }) only [*, SesS.cells, SesS.view, Wr.cells, SesS.msg, Msg.cells, Bool.not_false, Bool.not_true, SesS.sent, noMsg, ↓reduceIte, ↓evP, evQ, if_true, if_false, eq_self, binv, eqv, lenv, fillO, splice, fldv, Sp.eqa, eqL, eq1, Nat.reduceAdd, Nat.reduceEqDiff, Nat.reduceLeDiff, Nat.reduceMul, reduceCtorEq, Int.reduceLT, Int.reduceLE, Int.reduceGT, Int.reduceGE, Int.reduceEq, Int.reduceNeg]))) | (refine gcallF_of (put16 _ _ _) ?_; (try (simp (config := { contextual := true, dsimp := false }) only [*, SesS.cells, SesS.view, Wr.cells, SesS.msg, Msg.cells, Bool.not_false, Bool.not_true, SesS.sent, noMsg, ↓reduceIte, ↓evP, evQ, if_true, if_false, eq_self, binv, eqv, lenv, fillO, splice, fldv, Sp.eqa, eqL, eq1, Nat.reduceAdd, Nat.reduceEqDiff, Nat.reduceLeDiff, Nat.reduceMul, reduceCtorEq, Int.reduceLT, Int.reduceLE, Int.reduceGT, Int.reduceGE, Int.reduceEq, Int.reduceNeg]))) | (intro _; intros) | ((refine And.intro ?_ ?_; focus (first | omega | (first | exact Sub.refl _ | ((repeat (first | exact Sub.refl _ | (refine Sub.drop ?_ ?_; focus (simp only [none_upd, none_set, not_false_eq_true, true_and, and_true, *]; done)) | refine Sub.both ?_)); done)) | ((simp only [decide_eq_true_eq, decide_eq_false_iff_not] at *); omega) | (simp_all; done) | (simp_all; omega))); (try (simp (config := { contextual := true, dsimp := false }) only [*, SesS.cells, SesS.view, Wr.cells, SesS.msg, Msg.cells, Bool.not_false, Bool.not_true, SesS.sent, noMsg, ↓reduceIte, ↓evP, evQ, if_true, if_false, eq_self, binv, eqv, lenv, fillO, splice, fldv, Sp.eqa, eqL, eq1, Nat.reduceAdd, Nat.reduceEqDiff, Nat.reduceLeDiff, Nat.reduceMul, reduceCtorEq, Int.reduceLT, Int.reduceLE, Int.reduceGT, Int.reduceGE, Int.reduceEq, Int.reduceNeg])))))
  rename_i b n1 n2 n3
  have hr : RowsAt 37 3 Wr.cells (upd (upd σ g (.cells ((⟨4, 0, false, 0, 0, 0, 0⟩ : SesS).cells (.slice none 0 0)) 101)) b (.row [.string ⟨#[97]⟩, .bool true, .string ⟨#[120]⟩] 3 37)) (.slice (some ⟨b, 0, none⟩) 1 1) [⟨⟨#[97]⟩, true, ⟨#[120]⟩⟩] := rows_mk rfl (Nat.le_refl 1) (upd_same _ _ _)
  have hgc : (upd (upd σ g (.cells ((⟨4, 0, false, 0, 0, 0, 0⟩ : SesS).cells (.slice none 0 0)) 101)) b (.row [.string ⟨#[97]⟩, .bool true, .string ⟨#[120]⟩] 3 37)) g = some (.cells ((⟨4, 0, false, 0, 0, 0, 0⟩ : SesS).cells (.slice none 0 0)) 101) := by simp [upd, n2]
  refine callF_of (send15e hgc ((hr.offs (by intro e; cases e; exact n1 rfl)).ro Wr.cells_len) (by decide) rfl (by decide) (by decide)) ?_
  rintro u σ1 ⟨v1, v2, rfl, h2, h3, h4, h5, h6, h7, h8⟩
  have H5 := Hid.mk (Sub.same (Sub.drop n3 (Sub.drop hg (Sub.refl σ))) h5 (fun k e => by rw [e]; exact hg))
  obtain ⟨a2, c2, rfl⟩ := h4.slice
  clear h3 h4 h5 h6 h7 h8 hr hgc
  obtain ⟨τ1, rfl⟩ := open_upd h2
  clear h2 n1 n2 n3
  have w1 : IntKind.i64.wrap (0 + 1) = 1 := by decide
  simp (config := { contextual := true, dsimp := false }) only [*, SesS.cells, SesS.view, Wr.cells, SesS.msg, Msg.cells, Bool.not_false, Bool.not_true, SesS.sent, noMsg, ↓reduceIte, ↓evP, evQ, if_true, if_false, eq_self, binv, eqv, lenv, fillO, splice, fldv, Sp.eqa, eqL, eq1, Nat.reduceAdd, Nat.reduceEqDiff, Nat.reduceLeDiff, Nat.reduceMul, reduceCtorEq, Int.reduceLT, Int.reduceLE, Int.reduceGT, Int.reduceGE, Int.reduceEq, Int.reduceNeg]
  (repeat' (first | (refine condF_split (fun hc => ?_) (fun hc => ?_) <;> (try simp only [Bool.not_eq_true', Bool.not_eq_false', Bool.and_eq_true, Bool.or_eq_false_iff] at hc) <;> (try (simp (config := { contextual := true, dsimp := false }) only [*, SesS.cells, SesS.view, Wr.cells, SesS.msg, Msg.cells, Bool.not_false, Bool.not_true, SesS.sent, noMsg, ↓reduceIte, ↓evP, evQ, if_true, if_false, eq_self, binv, eqv, lenv, fillO, splice, fldv, Sp.eqa, eqL, eq1, Nat.reduceAdd, Nat.reduceEqDiff, Nat.reduceLeDiff, Nat.reduceMul, reduceCtorEq, Int.reduceLT, Int.reduceLE, Int.reduceGT, Int.reduceGE, Int.reduceEq, Int.reduceNeg]))) | (refine callF_v (put16 _ _ _) ?_; (try (simp (config := { contextual := true, dsimp := false }) only [*, SesS.cells, SesS.view, Wr.cells, SesS.msg, Msg.cells, Bool.not_false, Bool.not_true, SesS.sent, noMsg, ↓reduceIte, ↓evP, evQ, if_true, if_false, eq_self, binv, eqv, lenv, fillO, splice, fldv, Sp.eqa, eqL, eq1, Nat.reduceAdd, Nat.reduceEqDiff, Nat.reduceLeDiff, Nat.reduceMul, reduceCtorEq, Int.reduceLT, Int.reduceLE, Int.reduceGT, Int.reduceGE, Int.reduceEq, Int.reduceNeg]))) | (refine ccallF_of (put16 _ _ _) ?_; (try (simp (config := { contextual := true, dsimp := false }) only [*, SesS.cells, SesS.view, Wr.cells, SesS.msg, Msg.cells, Bool.not_false, Bool.not_true, SesS.sent, noMsg, ↓reduceIte, ↓evP, evQ, if_true, if_false, eq_self, binv, eqv, lenv, fillO, splice, fldv, Sp.eqa, eqL, eq1, Nat.reduceAdd, Nat.reduceEqDiff, Nat.reduceLeDiff, Nat.reduceMul, reduceCtorEq, Int.reduceLT, Int.reduceLE, Int.reduceGT, Int.reduceGE, Int.reduceEq, Int.reduceNeg]))) | (refine gcallF_of (put16 _ _ _) ?_; (try (simp (config := { contextual := true, dsimp := false }) only [*, SesS.cells, SesS.view, Wr.cells, SesS.msg, Msg.cells, Bool.not_false, Bool.not_true, SesS.sent, noMsg, ↓reduceIte, ↓evP, evQ, if_true, if_false, eq_self, binv, eqv, lenv, fillO, splice, fldv, Sp.eqa, eqL, eq1, Nat.reduceAdd, Nat.reduceEqDiff, Nat.reduceLeDiff, Nat.reduceMul, reduceCtorEq, Int.reduceLT, Int.reduceLE, Int.reduceGT, Int.reduceGE, Int.reduceEq, Int.reduceNeg]))) | (intro _; intros) | ((refine And.intro ?_ ?_; focus (first | omega | (first | exact Sub.refl _ | ((repeat (first | exact Sub.refl _ | (refine Sub.drop ?_ ?_; focus (simp only [none_upd, none_set, not_false_eq_true, true_and, and_true, *]; done)) | refine Sub.both ?_)); done)) | ((simp only [decide_eq_true_eq, decide_eq_false_iff_not] at *); omega) | (simp_all; done) | (simp_all; omega))); (try (simp (config := { contextual := true, dsimp := false }) only [*, SesS.cells, SesS.view, Wr.cells, SesS.msg, Msg.cells, Bool.not_false, Bool.not_true, SesS.sent, noMsg, ↓reduceIte, ↓evP, evQ, if_true, if_false, eq_self, binv, eqv, lenv, fillO, splice, fldv, Sp.eqa, eqL, eq1, Nat.reduceAdd, Nat.reduceEqDiff, Nat.reduceLeDiff, Nat.reduceMul, reduceCtorEq, Int.reduceLT, Int.reduceLE, Int.reduceGT, Int.reduceGE, Int.reduceEq, Int.reduceNeg])))))
  have e12 := tok12
  refine callF_v (send15a (S := ⟨4, 0, true, 1, 0, 0, 0⟩) (v := v1) (by first | rfl | (simp only [upd_same, upd_at, set_at, *, ↓reduceIte]; done) | (simp only [upd_same, upd_at, set_at, *, ↓reduceIte]; rfl)) rfl) ?_
  simp (config := { contextual := true, dsimp := false }) only [*, SesS.cells, SesS.view, Wr.cells, SesS.msg, Msg.cells, Bool.not_false, Bool.not_true, SesS.sent, noMsg, ↓reduceIte, ↓evP, evQ, if_true, if_false, eq_self, binv, eqv, lenv, fillO, splice, fldv, Sp.eqa, eqL, eq1, Nat.reduceAdd, Nat.reduceEqDiff, Nat.reduceLeDiff, Nat.reduceMul, reduceCtorEq, Int.reduceLT, Int.reduceLE, Int.reduceGT, Int.reduceGE, Int.reduceEq, Int.reduceNeg]
  (repeat' (first | (refine condF_split (fun hc => ?_) (fun hc => ?_) <;> (try simp only [Bool.not_eq_true', Bool.not_eq_false', Bool.and_eq_true, Bool.or_eq_false_iff] at hc) <;> (try (simp (config := { contextual := true, dsimp := false }) only [*, SesS.cells, SesS.view, Wr.cells, SesS.msg, Msg.cells, Bool.not_false, Bool.not_true, SesS.sent, noMsg, ↓reduceIte, ↓evP, evQ, if_true, if_false, eq_self, binv, eqv, lenv, fillO, splice, fldv, Sp.eqa, eqL, eq1, Nat.reduceAdd, Nat.reduceEqDiff, Nat.reduceLeDiff, Nat.reduceMul, reduceCtorEq, Int.reduceLT, Int.reduceLE, Int.reduceGT, Int.reduceGE, Int.reduceEq, Int.reduceNeg]))) | (refine callF_v (token19s 12 (by decide)) ?_; (try (simp (config := { contextual := true, dsimp := false }) only [*, SesS.cells, SesS.view, Wr.cells, SesS.msg, Msg.cells, Bool.not_false, Bool.not_true, SesS.sent, noMsg, ↓reduceIte, ↓evP, evQ, if_true, if_false, eq_self, binv, eqv, lenv, fillO, splice, fldv, Sp.eqa, eqL, eq1, Nat.reduceAdd, Nat.reduceEqDiff, Nat.reduceLeDiff, Nat.reduceMul, reduceCtorEq, Int.reduceLT, Int.reduceLE, Int.reduceGT, Int.reduceGE, Int.reduceEq, Int.reduceNeg]))) | (refine ccallF_of (token19s 12 (by decide)) ?_; (try (simp (config := { contextual := true, dsimp := false }) only [*, SesS.cells, SesS.view, Wr.cells, SesS.msg, Msg.cells, Bool.not_false, Bool.not_true, SesS.sent, noMsg, ↓reduceIte, ↓evP, evQ, if_true, if_false, eq_self, binv, eqv, lenv, fillO, splice, fldv, Sp.eqa, eqL, eq1, Nat.reduceAdd, Nat.reduceEqDiff, Nat.reduceLeDiff, Nat.reduceMul, reduceCtorEq, Int.reduceLT, Int.reduceLE, Int.reduceGT, Int.reduceGE, Int.reduceEq, Int.reduceNeg]))) | (refine gcallF_of (token19s 12 (by decide)) ?_; (try (simp (config := { contextual := true, dsimp := false }) only [*, SesS.cells, SesS.view, Wr.cells, SesS.msg, Msg.cells, Bool.not_false, Bool.not_true, SesS.sent, noMsg, ↓reduceIte, ↓evP, evQ, if_true, if_false, eq_self, binv, eqv, lenv, fillO, splice, fldv, Sp.eqa, eqL, eq1, Nat.reduceAdd, Nat.reduceEqDiff, Nat.reduceLeDiff, Nat.reduceMul, reduceCtorEq, Int.reduceLT, Int.reduceLE, Int.reduceGT, Int.reduceGE, Int.reduceEq, Int.reduceNeg]))) | (intro _; intros) | ((refine And.intro ?_ ?_; focus (first | omega | (first | exact Sub.refl _ | ((repeat (first | exact Sub.refl _ | (refine Sub.drop ?_ ?_; focus (simp only [none_upd, none_set, not_false_eq_true, true_and, and_true, *]; done)) | refine Sub.both ?_)); done)) | ((simp only [decide_eq_true_eq, decide_eq_false_iff_not] at *); omega) | (simp_all; done) | (simp_all; omega))); (try (simp (config := { contextual := true, dsimp := false }) only [*, SesS.cells, SesS.view, Wr.cells, SesS.msg, Msg.cells, Bool.not_false, Bool.not_true, SesS.sent, noMsg, ↓reduceIte, ↓evP, evQ, if_true, if_false, eq_self, binv, eqv, lenv, fillO, splice, fldv, Sp.eqa, eqL, eq1, Nat.reduceAdd, Nat.reduceEqDiff, Nat.reduceLeDiff, Nat.reduceMul, reduceCtorEq, Int.reduceLT, Int.reduceLE, Int.reduceGT, Int.reduceGE, Int.reduceEq, Int.reduceNeg])))))
  refine callF_of (ack25 (S := ⟨4, 0, true, 1, 0, 0, 0⟩) (v := v1) (by first | rfl | (simp only [upd_same, upd_at, set_at, *, ↓reduceIte]; done) | (simp only [upd_same, upd_at, set_at, *, ↓reduceIte]; rfl)) { kind := 2, session := 4, seq := 1, n := 10 }) ?_
  rintro u _ ⟨rfl, rfl⟩
  have q1 : SesS.hears ⟨4, 0, true, 1, 0, 0, 0⟩ { kind := 2, session := 4, seq := 1, n := 10 } = true := by decide
  have q2 : SesS.acked ⟨4, 0, true, 1, 0, 0, 0⟩ { kind := 2, session := 4, seq := 1, n := 10 } = ⟨4, 10, false, 1, 0, 10, 0⟩ := rfl
  rw [q1, q2]
  simp only [cond_true]
  simp (config := { contextual := true, dsimp := false }) only [*, SesS.cells, SesS.view, Wr.cells, SesS.msg, Msg.cells, Bool.not_false, Bool.not_true, SesS.sent, noMsg, ↓reduceIte, ↓evP, evQ, if_true, if_false, eq_self, binv, eqv, lenv, fillO, splice, fldv, Sp.eqa, eqL, eq1, Nat.reduceAdd, Nat.reduceEqDiff, Nat.reduceLeDiff, Nat.reduceMul, reduceCtorEq, Int.reduceLT, Int.reduceLE, Int.reduceGT, Int.reduceGE, Int.reduceEq, Int.reduceNeg]
  refine callF_v (floor26 (S := ⟨4, 10, false, 1, 0, 10, 0⟩) (v := .slice none 0 0) (by first | rfl | (simp only [upd_same, upd_at, set_at, *, ↓reduceIte]; done) | (simp only [upd_same, upd_at, set_at, *, ↓reduceIte]; rfl))) ?_
  simp (config := { contextual := true, dsimp := false }) only [*, SesS.cells, SesS.view, Wr.cells, SesS.msg, Msg.cells, Bool.not_false, Bool.not_true, SesS.sent, noMsg, ↓reduceIte, ↓evP, evQ, if_true, if_false, eq_self, binv, eqv, lenv, fillO, splice, fldv, Sp.eqa, eqL, eq1, Nat.reduceAdd, Nat.reduceEqDiff, Nat.reduceLeDiff, Nat.reduceMul, reduceCtorEq, Int.reduceLT, Int.reduceLE, Int.reduceGT, Int.reduceGE, Int.reduceEq, Int.reduceNeg]
  refine endF_det rfl ?_
  exact Sub.drop (H5.out.noneAt (by simp only [none_upd, none_set, not_false_eq_true, true_and, and_true, *]; done)) (Sub.drop (H5.out.noneAt (by simp only [none_upd, none_set, not_false_eq_true, true_and, and_true, *]; done)) (Sub.drop (H5.out.noneAt (by simp only [none_upd, none_set, not_false_eq_true, true_and, and_true, *]; done)) (H5.out.swap hg _)))
end Go.Proofs.YtaoafjlocjjbbaaDoor

-- C24
namespace Go.Proofs.YtaoafjlocjjbbaaDoor
open Go.Sp
set_option linter.unusedSimpArgs false
set_option linter.unusedVariables false
theorem tokV_size (n : Int) : (tokV n).size ≤ 281474976710656 := by
  unfold tokV
  cases h : tokBad n
  · have h2 := h
    unfold tokBad at h2
    simp only [Bool.or_eq_false_iff, decide_eq_false_iff_not] at h2
    have := deci_size (n := n) (by omega) (by omega)
    show (tokB n).size ≤ _
    unfold tokB
    simp only [ByteArray.size_append]
    show 1 + _ + 1 + 1 ≤ _
    omega
  · show (0 : Nat) ≤ _; omega
theorem tokens4 {σ : Hp} (hG : Glob σ) (f : Int) (s : ByteArray) (hs : s.size ≤ 281474976710656) : ACalls Tryd.prog 4 #[.int .i64 f, .string s] σ fun v σ' => v = .bool true ∧ σ' = σ := by
  have HG := Hid.mk hG
  clear hG
  (refine acalls_F ok4 (by simp) ?_; unfold c4 r4; simp (config := { contextual := true, dsimp := false }) only [Bool.not_false, Bool.not_true, ↓reduceIte, ↓evP, evQ, if_true, if_false, eq_self, binv, eqv, lenv, fillO, splice, fldv, Sp.eqa, eqL, eq1, Nat.reduceAdd, Nat.reduceEqDiff, Nat.reduceLeDiff, Nat.reduceMul, reduceCtorEq, Int.reduceLT, Int.reduceLE, Int.reduceGT, Int.reduceGE, Int.reduceEq, Int.reduceNeg])
  (repeat' (first | (refine condF_split (fun hc => ?_) (fun hc => ?_) <;> (try simp only [Bool.not_eq_true', Bool.not_eq_false', Bool.and_eq_true, Bool.or_eq_false_iff] at hc) <;> (try (simp (config := { contextual := true, dsimp := false }) only [*, Bool.not_false, Bool.not_true, ↓reduceIte, ↓evP, evQ, if_true, if_false, eq_self, binv, eqv, lenv, fillO, splice, fldv, Sp.eqa, eqL, eq1, Nat.reduceAdd, Nat.reduceEqDiff, Nat.reduceLeDiff, Nat.reduceMul, reduceCtorEq, Int.reduceLT, Int.reduceLE, Int.reduceGT, Int.reduceGE, Int.reduceEq, Int.reduceNeg]))) | (refine callF_v (fixed13 _) ?_; (try (simp (config := { contextual := true, dsimp := false }) only [*, Bool.not_false, Bool.not_true, ↓reduceIte, ↓evP, evQ, if_true, if_false, eq_self, binv, eqv, lenv, fillO, splice, fldv, Sp.eqa, eqL, eq1, Nat.reduceAdd, Nat.reduceEqDiff, Nat.reduceLeDiff, Nat.reduceMul, reduceCtorEq, Int.reduceLT, Int.reduceLE, Int.reduceGT, Int.reduceGE, Int.reduceEq, Int.reduceNeg]))) | (refine callF_v (token19 HG.out _) ?_; (try (simp (config := { contextual := true, dsimp := false }) only [*, Bool.not_false, Bool.not_true, ↓reduceIte, ↓evP, evQ, if_true, if_false, eq_self, binv, eqv, lenv, fillO, splice, fldv, Sp.eqa, eqL, eq1, Nat.reduceAdd, Nat.reduceEqDiff, Nat.reduceLeDiff, Nat.reduceMul, reduceCtorEq, Int.reduceLT, Int.reduceLE, Int.reduceGT, Int.reduceGE, Int.reduceEq, Int.reduceNeg]))) | (refine callF_v (token20 _ _) ?_; (try (simp (config := { contextual := true, dsimp := false }) only [*, Bool.not_false, Bool.not_true, ↓reduceIte, ↓evP, evQ, if_true, if_false, eq_self, binv, eqv, lenv, fillO, splice, fldv, Sp.eqa, eqL, eq1, Nat.reduceAdd, Nat.reduceEqDiff, Nat.reduceLeDiff, Nat.reduceMul, reduceCtorEq, Int.reduceLT, Int.reduceLE, Int.reduceGT, Int.reduceGE, Int.reduceEq, Int.reduceNeg]))) | (refine callF_v (parse21 HG.out s hs) ?_; (try (simp (config := { contextual := true, dsimp := false }) only [*, Bool.not_false, Bool.not_true, ↓reduceIte, ↓evP, evQ, if_true, if_false, eq_self, binv, eqv, lenv, fillO, splice, fldv, Sp.eqa, eqL, eq1, Nat.reduceAdd, Nat.reduceEqDiff, Nat.reduceLeDiff, Nat.reduceMul, reduceCtorEq, Int.reduceLT, Int.reduceLE, Int.reduceGT, Int.reduceGE, Int.reduceEq, Int.reduceNeg]))) | (refine callF_v (par22 s _ hs) ?_; (try (simp (config := { contextual := true, dsimp := false }) only [*, Bool.not_false, Bool.not_true, ↓reduceIte, ↓evP, evQ, if_true, if_false, eq_self, binv, eqv, lenv, fillO, splice, fldv, Sp.eqa, eqL, eq1, Nat.reduceAdd, Nat.reduceEqDiff, Nat.reduceLeDiff, Nat.reduceMul, reduceCtorEq, Int.reduceLT, Int.reduceLE, Int.reduceGT, Int.reduceGE, Int.reduceEq, Int.reduceNeg]))) | (refine ccallF_of (fixed13 _) ?_; (try (simp (config := { contextual := true, dsimp := false }) only [*, Bool.not_false, Bool.not_true, ↓reduceIte, ↓evP, evQ, if_true, if_false, eq_self, binv, eqv, lenv, fillO, splice, fldv, Sp.eqa, eqL, eq1, Nat.reduceAdd, Nat.reduceEqDiff, Nat.reduceLeDiff, Nat.reduceMul, reduceCtorEq, Int.reduceLT, Int.reduceLE, Int.reduceGT, Int.reduceGE, Int.reduceEq, Int.reduceNeg]))) | (refine ccallF_of (token19 HG.out _) ?_; (try (simp (config := { contextual := true, dsimp := false }) only [*, Bool.not_false, Bool.not_true, ↓reduceIte, ↓evP, evQ, if_true, if_false, eq_self, binv, eqv, lenv, fillO, splice, fldv, Sp.eqa, eqL, eq1, Nat.reduceAdd, Nat.reduceEqDiff, Nat.reduceLeDiff, Nat.reduceMul, reduceCtorEq, Int.reduceLT, Int.reduceLE, Int.reduceGT, Int.reduceGE, Int.reduceEq, Int.reduceNeg]))) | (refine ccallF_of (token20 _ _) ?_; (try (simp (config := { contextual := true, dsimp := false }) only [*, Bool.not_false, Bool.not_true, ↓reduceIte, ↓evP, evQ, if_true, if_false, eq_self, binv, eqv, lenv, fillO, splice, fldv, Sp.eqa, eqL, eq1, Nat.reduceAdd, Nat.reduceEqDiff, Nat.reduceLeDiff, Nat.reduceMul, reduceCtorEq, Int.reduceLT, Int.reduceLE, Int.reduceGT, Int.reduceGE, Int.reduceEq, Int.reduceNeg]))) | (refine ccallF_of (parse21 HG.out s hs) ?_; (try (simp (config := { contextual := true, dsimp := false }) only [*, Bool.not_false, Bool.not_true, ↓reduceIte, ↓evP, evQ, if_true, if_false, eq_self, binv, eqv, lenv, fillO, splice, fldv, Sp.eqa, eqL, eq1, Nat.reduceAdd, Nat.reduceEqDiff, Nat.reduceLeDiff, Nat.reduceMul, reduceCtorEq, Int.reduceLT, Int.reduceLE, Int.reduceGT, Int.reduceGE, Int.reduceEq, Int.reduceNeg]))) | (refine ccallF_of (par22 s _ hs) ?_; (try (simp (config := { contextual := true, dsimp := false }) only [*, Bool.not_false, Bool.not_true, ↓reduceIte, ↓evP, evQ, if_true, if_false, eq_self, binv, eqv, lenv, fillO, splice, fldv, Sp.eqa, eqL, eq1, Nat.reduceAdd, Nat.reduceEqDiff, Nat.reduceLeDiff, Nat.reduceMul, reduceCtorEq, Int.reduceLT, Int.reduceLE, Int.reduceGT, Int.reduceGE, Int.reduceEq, Int.reduceNeg]))) | (refine gcallF_of (fixed13 _) ?_; (try (simp (config := { contextual := true, dsimp := false }) only [*, Bool.not_false, Bool.not_true, ↓reduceIte, ↓evP, evQ, if_true, if_false, eq_self, binv, eqv, lenv, fillO, splice, fldv, Sp.eqa, eqL, eq1, Nat.reduceAdd, Nat.reduceEqDiff, Nat.reduceLeDiff, Nat.reduceMul, reduceCtorEq, Int.reduceLT, Int.reduceLE, Int.reduceGT, Int.reduceGE, Int.reduceEq, Int.reduceNeg]))) | (refine gcallF_of (token19 HG.out _) ?_; (try (simp (config := { contextual := true, dsimp := false }) only [*, Bool.not_false, Bool.not_true, ↓reduceIte, ↓evP, evQ, if_true, if_false, eq_self, binv, eqv, lenv, fillO, splice, fldv, Sp.eqa, eqL, eq1, Nat.reduceAdd, Nat.reduceEqDiff, Nat.reduceLeDiff, Nat.reduceMul, reduceCtorEq, Int.reduceLT, Int.reduceLE, Int.reduceGT, Int.reduceGE, Int.reduceEq, Int.reduceNeg]))) | (refine gcallF_of (token20 _ _) ?_; (try (simp (config := { contextual := true, dsimp := false }) only [*, Bool.not_false, Bool.not_true, ↓reduceIte, ↓evP, evQ, if_true, if_false, eq_self, binv, eqv, lenv, fillO, splice, fldv, Sp.eqa, eqL, eq1, Nat.reduceAdd, Nat.reduceEqDiff, Nat.reduceLeDiff, Nat.reduceMul, reduceCtorEq, Int.reduceLT, Int.reduceLE, Int.reduceGT, Int.reduceGE, Int.reduceEq, Int.reduceNeg]))) | (refine gcallF_of (parse21 HG.out s hs) ?_; (try (simp (config := { contextual := true, dsimp := false }) only [*, Bool.not_false, Bool.not_true, ↓reduceIte, ↓evP, evQ, if_true, if_false, eq_self, binv, eqv, lenv, fillO, splice, fldv, Sp.eqa, eqL, eq1, Nat.reduceAdd, Nat.reduceEqDiff, Nat.reduceLeDiff, Nat.reduceMul, reduceCtorEq, Int.reduceLT, Int.reduceLE, Int.reduceGT, Int.reduceGE, Int.reduceEq, Int.reduceNeg]))) | (refine gcallF_of (par22 s _ hs) ?_; (try (simp (config := { contextual := true, dsimp := false }) only [*, Bool.not_false, Bool.not_true, ↓reduceIte, ↓evP, evQ, if_true, if_false, eq_self, binv, eqv, lenv, fillO, splice, fldv, Sp.eqa, eqL, eq1, Nat.reduceAdd, Nat.reduceEqDiff, Nat.reduceLeDiff, Nat.reduceMul, reduceCtorEq, Int.reduceLT, Int.reduceLE, Int.reduceGT, Int.reduceGE, Int.reduceEq, Int.reduceNeg]))) | (intro _; intros) | ((refine And.intro ?_ ?_; focus (first | omega | (first | exact Sub.refl _ | ((repeat (first | exact Sub.refl _ | (refine Sub.drop ?_ ?_; focus (simp only [none_upd, none_set, not_false_eq_true, true_and, and_true, *]; done)) | refine Sub.both ?_)); done)) | ((simp only [decide_eq_true_eq, decide_eq_false_iff_not] at *); omega) | (simp_all; done) | (simp_all; omega))); (try (simp (config := { contextual := true, dsimp := false }) only [*, Bool.not_false, Bool.not_true, ↓reduceIte, ↓evP, evQ, if_true, if_false, eq_self, binv, eqv, lenv, fillO, splice, fldv, Sp.eqa, eqL, eq1, Nat.reduceAdd, Nat.reduceEqDiff, Nat.reduceLeDiff, Nat.reduceMul, reduceCtorEq, Int.reduceLT, Int.reduceLE, Int.reduceGT, Int.reduceGE, Int.reduceEq, Int.reduceNeg])))))
  all_goals exact endF_det (by simp [*]) (Sub.refl _)
theorem parE_tok {f : Int} (h : tokBad f = false) : parE (tokV f) = 0 ∧ parV (tokV f) = f := by
  have : parN (tokV f) = some f := parN_some.2 ⟨tokE_iff.2 h, rfl⟩
  unfold parE parV; rw [this]; exact ⟨rfl, rfl⟩
theorem par_back {s : ByteArray} (h : parE s = 0) : tokE (parV s) = 0 ∧ tokV (parV s) = s := by
  unfold parE at h
  cases hp : parN s with
  | none => rw [hp] at h; cases h
  | some n => unfold parV; rw [hp]; exact parN_some.1 hp
theorem par_bad {s : ByteArray} (h : parE s ≠ 0) : parV s = 0 ∧ parE s = 30 := by
  unfold parE at h ⊢
  unfold parV
  cases hp : parN s with
  | none => exact ⟨rfl, rfl⟩
  | some n => rw [hp] at h; exact absurd rfl h
set_option maxRecDepth 100000 in
theorem back5 {σ : Hp} (hG : Glob σ) (f : Int) (s : ByteArray) (hs : s.size ≤ 281474976710656) : ACalls Tryd.prog 5 #[.int .i64 f, .string s] σ fun v σ' => v = .bool true ∧ σ' = σ := by
  have HG := Hid.mk hG
  clear hG
  (refine acalls_F ok5 (by simp) ?_; unfold c5 r5; simp (config := { contextual := true, dsimp := false }) only [Bool.not_false, Bool.not_true, ↓reduceIte, ↓evP, evQ, if_true, if_false, eq_self, binv, eqv, lenv, fillO, splice, fldv, Sp.eqa, eqL, eq1, Nat.reduceAdd, Nat.reduceEqDiff, Nat.reduceLeDiff, Nat.reduceMul, reduceCtorEq, Int.reduceLT, Int.reduceLE, Int.reduceGT, Int.reduceGE, Int.reduceEq, Int.reduceNeg])
  (repeat' (first | (refine condF_split (fun hc => ?_) (fun hc => ?_) <;> (try simp only [Bool.not_eq_true', Bool.not_eq_false', Bool.and_eq_true, Bool.or_eq_false_iff] at hc) <;> (try (simp (config := { contextual := true, dsimp := false }) only [*, Bool.not_false, Bool.not_true, ↓reduceIte, ↓evP, evQ, if_true, if_false, eq_self, binv, eqv, lenv, fillO, splice, fldv, Sp.eqa, eqL, eq1, Nat.reduceAdd, Nat.reduceEqDiff, Nat.reduceLeDiff, Nat.reduceMul, reduceCtorEq, Int.reduceLT, Int.reduceLE, Int.reduceGT, Int.reduceGE, Int.reduceEq, Int.reduceNeg]))) | (refine callF_v (fixed13 _) ?_; (try (simp (config := { contextual := true, dsimp := false }) only [*, Bool.not_false, Bool.not_true, ↓reduceIte, ↓evP, evQ, if_true, if_false, eq_self, binv, eqv, lenv, fillO, splice, fldv, Sp.eqa, eqL, eq1, Nat.reduceAdd, Nat.reduceEqDiff, Nat.reduceLeDiff, Nat.reduceMul, reduceCtorEq, Int.reduceLT, Int.reduceLE, Int.reduceGT, Int.reduceGE, Int.reduceEq, Int.reduceNeg]))) | (refine callF_v (token19 HG.out _) ?_; (try (simp (config := { contextual := true, dsimp := false }) only [*, Bool.not_false, Bool.not_true, ↓reduceIte, ↓evP, evQ, if_true, if_false, eq_self, binv, eqv, lenv, fillO, splice, fldv, Sp.eqa, eqL, eq1, Nat.reduceAdd, Nat.reduceEqDiff, Nat.reduceLeDiff, Nat.reduceMul, reduceCtorEq, Int.reduceLT, Int.reduceLE, Int.reduceGT, Int.reduceGE, Int.reduceEq, Int.reduceNeg]))) | (refine ccallF_of (fixed13 _) ?_; (try (simp (config := { contextual := true, dsimp := false }) only [*, Bool.not_false, Bool.not_true, ↓reduceIte, ↓evP, evQ, if_true, if_false, eq_self, binv, eqv, lenv, fillO, splice, fldv, Sp.eqa, eqL, eq1, Nat.reduceAdd, Nat.reduceEqDiff, Nat.reduceLeDiff, Nat.reduceMul, reduceCtorEq, Int.reduceLT, Int.reduceLE, Int.reduceGT, Int.reduceGE, Int.reduceEq, Int.reduceNeg]))) | (refine ccallF_of (token19 HG.out _) ?_; (try (simp (config := { contextual := true, dsimp := false }) only [*, Bool.not_false, Bool.not_true, ↓reduceIte, ↓evP, evQ, if_true, if_false, eq_self, binv, eqv, lenv, fillO, splice, fldv, Sp.eqa, eqL, eq1, Nat.reduceAdd, Nat.reduceEqDiff, Nat.reduceLeDiff, Nat.reduceMul, reduceCtorEq, Int.reduceLT, Int.reduceLE, Int.reduceGT, Int.reduceGE, Int.reduceEq, Int.reduceNeg]))) | (refine gcallF_of (fixed13 _) ?_; (try (simp (config := { contextual := true, dsimp := false }) only [*, Bool.not_false, Bool.not_true, ↓reduceIte, ↓evP, evQ, if_true, if_false, eq_self, binv, eqv, lenv, fillO, splice, fldv, Sp.eqa, eqL, eq1, Nat.reduceAdd, Nat.reduceEqDiff, Nat.reduceLeDiff, Nat.reduceMul, reduceCtorEq, Int.reduceLT, Int.reduceLE, Int.reduceGT, Int.reduceGE, Int.reduceEq, Int.reduceNeg]))) | (refine gcallF_of (token19 HG.out _) ?_; (try (simp (config := { contextual := true, dsimp := false }) only [*, Bool.not_false, Bool.not_true, ↓reduceIte, ↓evP, evQ, if_true, if_false, eq_self, binv, eqv, lenv, fillO, splice, fldv, Sp.eqa, eqL, eq1, Nat.reduceAdd, Nat.reduceEqDiff, Nat.reduceLeDiff, Nat.reduceMul, reduceCtorEq, Int.reduceLT, Int.reduceLE, Int.reduceGT, Int.reduceGE, Int.reduceEq, Int.reduceNeg]))) | (intro _; intros) | ((refine And.intro ?_ ?_; focus (first | omega | (first | exact Sub.refl _ | ((repeat (first | exact Sub.refl _ | (refine Sub.drop ?_ ?_; focus (simp only [none_upd, none_set, not_false_eq_true, true_and, and_true, *]; done)) | refine Sub.both ?_)); done)) | ((simp only [decide_eq_true_eq, decide_eq_false_iff_not] at *); omega) | (simp_all; done) | (simp_all; omega))); (try (simp (config := { contextual := true, dsimp := false }) only [*, Bool.not_false, Bool.not_true, ↓reduceIte, ↓evP, evQ, if_true, if_false, eq_self, binv, eqv, lenv, fillO, splice, fldv, Sp.eqa, eqL, eq1, Nat.reduceAdd, Nat.reduceEqDiff, Nat.reduceLeDiff, Nat.reduceMul, reduceCtorEq, Int.reduceLT, Int.reduceLE, Int.reduceGT, Int.reduceGE, Int.reduceEq, Int.reduceNeg])))))
  have HT := Hid.mk (tokV_size f)
  have HB : Hid (((f < 0 ∨ f > 1099511627776) → tokE f = 1 ∧ tokV f = ⟨#[]⟩) ∧ (¬ (f < 0 ∨ f > 1099511627776) → tokE f = 0 ∧ parE (tokV f) = 0 ∧ parV (tokV f) = f)) := by
    refine ⟨fun h => ?_, fun h => ?_⟩
    · have hb : tokBad f = true := by unfold tokBad; simp only [Bool.or_eq_true, decide_eq_true_eq]; exact h
      unfold tokE tokV; rw [hb]; exact ⟨rfl, rfl⟩
    · have hb : tokBad f = false := by unfold tokBad; simp only [Bool.or_eq_false_iff, decide_eq_false_iff_not]; omega
      exact ⟨tokE_iff.2 hb, parE_tok hb⟩
  have HS := Hid.mk (And.intro (@par_bad s) (@par_back s))
  generalize hT : tokV f = T at HT HB ⊢
  generalize hE : tokE f = E at HB ⊢
  clear hT hE
  refine callF_v (parse21 HG.out T HT.out) ?_
  simp (config := { contextual := true, dsimp := false }) only [*, Bool.not_false, Bool.not_true, ↓reduceIte, ↓evP, evQ, if_true, if_false, eq_self, binv, eqv, lenv, fillO, splice, fldv, Sp.eqa, eqL, eq1, Nat.reduceAdd, Nat.reduceEqDiff, Nat.reduceLeDiff, Nat.reduceMul, reduceCtorEq, Int.reduceLT, Int.reduceLE, Int.reduceGT, Int.reduceGE, Int.reduceEq, Int.reduceNeg]
  (repeat' (first | (refine condF_split (fun hc => ?_) (fun hc => ?_) <;> (try simp only [Bool.not_eq_true', Bool.not_eq_false', Bool.and_eq_true, Bool.or_eq_false_iff] at hc) <;> (try (simp (config := { contextual := true, dsimp := false }) only [*, Bool.not_false, Bool.not_true, ↓reduceIte, ↓evP, evQ, if_true, if_false, eq_self, binv, eqv, lenv, fillO, splice, fldv, Sp.eqa, eqL, eq1, Nat.reduceAdd, Nat.reduceEqDiff, Nat.reduceLeDiff, Nat.reduceMul, reduceCtorEq, Int.reduceLT, Int.reduceLE, Int.reduceGT, Int.reduceGE, Int.reduceEq, Int.reduceNeg]))) | (refine callF_v (token19 HG.out _) ?_; (try (simp (config := { contextual := true, dsimp := false }) only [*, Bool.not_false, Bool.not_true, ↓reduceIte, ↓evP, evQ, if_true, if_false, eq_self, binv, eqv, lenv, fillO, splice, fldv, Sp.eqa, eqL, eq1, Nat.reduceAdd, Nat.reduceEqDiff, Nat.reduceLeDiff, Nat.reduceMul, reduceCtorEq, Int.reduceLT, Int.reduceLE, Int.reduceGT, Int.reduceGE, Int.reduceEq, Int.reduceNeg]))) | (refine ccallF_of (token19 HG.out _) ?_; (try (simp (config := { contextual := true, dsimp := false }) only [*, Bool.not_false, Bool.not_true, ↓reduceIte, ↓evP, evQ, if_true, if_false, eq_self, binv, eqv, lenv, fillO, splice, fldv, Sp.eqa, eqL, eq1, Nat.reduceAdd, Nat.reduceEqDiff, Nat.reduceLeDiff, Nat.reduceMul, reduceCtorEq, Int.reduceLT, Int.reduceLE, Int.reduceGT, Int.reduceGE, Int.reduceEq, Int.reduceNeg]))) | (refine gcallF_of (token19 HG.out _) ?_; (try (simp (config := { contextual := true, dsimp := false }) only [*, Bool.not_false, Bool.not_true, ↓reduceIte, ↓evP, evQ, if_true, if_false, eq_self, binv, eqv, lenv, fillO, splice, fldv, Sp.eqa, eqL, eq1, Nat.reduceAdd, Nat.reduceEqDiff, Nat.reduceLeDiff, Nat.reduceMul, reduceCtorEq, Int.reduceLT, Int.reduceLE, Int.reduceGT, Int.reduceGE, Int.reduceEq, Int.reduceNeg]))) | (intro _; intros) | ((refine And.intro ?_ ?_; focus (first | omega | (first | exact Sub.refl _ | ((repeat (first | exact Sub.refl _ | (refine Sub.drop ?_ ?_; focus (simp only [none_upd, none_set, not_false_eq_true, true_and, and_true, *]; done)) | refine Sub.both ?_)); done)) | ((simp only [decide_eq_true_eq, decide_eq_false_iff_not] at *); omega) | (simp_all; done) | (simp_all; omega))); (try (simp (config := { contextual := true, dsimp := false }) only [*, Bool.not_false, Bool.not_true, ↓reduceIte, ↓evP, evQ, if_true, if_false, eq_self, binv, eqv, lenv, fillO, splice, fldv, Sp.eqa, eqL, eq1, Nat.reduceAdd, Nat.reduceEqDiff, Nat.reduceLeDiff, Nat.reduceMul, reduceCtorEq, Int.reduceLT, Int.reduceLE, Int.reduceGT, Int.reduceGE, Int.reduceEq, Int.reduceNeg])))))
  all_goals simp only [decide_eq_true_eq, decide_eq_false_iff_not] at *
  all_goals try (exact absurd (HB.out.1 (.inl ‹_›)).1 ‹_›)
  all_goals try (exact absurd (HB.out.1 (.inr ‹_›)).1 ‹_›)
  all_goals try (exact absurd (HB.out.1 (.inl ‹_›)).2 ‹_›)
  all_goals try (exact absurd (HB.out.1 (.inr ‹_›)).2 ‹_›)
  all_goals try (exact absurd (HB.out.2 (by omega)).1 ‹_›)
  all_goals try (exact absurd (HB.out.2 (by omega)).2.1 ‹_›)
  all_goals try (exact absurd (HB.out.2 (by omega)).2.2 ‹_›)
  all_goals
    refine callF_v (parse21 HG.out s hs) ?_
    simp (config := { contextual := true, dsimp := false }) only [*, Bool.not_false, Bool.not_true, ↓reduceIte, ↓evP, evQ, if_true, if_false, eq_self, binv, eqv, lenv, fillO, splice, fldv, Sp.eqa, eqL, eq1, Nat.reduceAdd, Nat.reduceEqDiff, Nat.reduceLeDiff, Nat.reduceMul, reduceCtorEq, Int.reduceLT, Int.reduceLE, Int.reduceGT, Int.reduceGE, Int.reduceEq, Int.reduceNeg]
    (repeat' (first | (refine condF_split (fun hc => ?_) (fun hc => ?_) <;> (try simp only [Bool.not_eq_true', Bool.not_eq_false', Bool.and_eq_true, Bool.or_eq_false_iff] at hc) <;> (try (simp (config := { contextual := true, dsimp := false }) only [*, Bool.not_false, Bool.not_true, ↓reduceIte, ↓evP, evQ, if_true, if_false, eq_self, binv, eqv, lenv, fillO, splice, fldv, Sp.eqa, eqL, eq1, Nat.reduceAdd, Nat.reduceEqDiff, Nat.reduceLeDiff, Nat.reduceMul, reduceCtorEq, Int.reduceLT, Int.reduceLE, Int.reduceGT, Int.reduceGE, Int.reduceEq, Int.reduceNeg]))) | (refine callF_v (token19 HG.out _) ?_; (try (simp (config := { contextual := true, dsimp := false }) only [*, Bool.not_false, Bool.not_true, ↓reduceIte, ↓evP, evQ, if_true, if_false, eq_self, binv, eqv, lenv, fillO, splice, fldv, Sp.eqa, eqL, eq1, Nat.reduceAdd, Nat.reduceEqDiff, Nat.reduceLeDiff, Nat.reduceMul, reduceCtorEq, Int.reduceLT, Int.reduceLE, Int.reduceGT, Int.reduceGE, Int.reduceEq, Int.reduceNeg]))) | (refine ccallF_of (token19 HG.out _) ?_; (try (simp (config := { contextual := true, dsimp := false }) only [*, Bool.not_false, Bool.not_true, ↓reduceIte, ↓evP, evQ, if_true, if_false, eq_self, binv, eqv, lenv, fillO, splice, fldv, Sp.eqa, eqL, eq1, Nat.reduceAdd, Nat.reduceEqDiff, Nat.reduceLeDiff, Nat.reduceMul, reduceCtorEq, Int.reduceLT, Int.reduceLE, Int.reduceGT, Int.reduceGE, Int.reduceEq, Int.reduceNeg]))) | (refine gcallF_of (token19 HG.out _) ?_; (try (simp (config := { contextual := true, dsimp := false }) only [*, Bool.not_false, Bool.not_true, ↓reduceIte, ↓evP, evQ, if_true, if_false, eq_self, binv, eqv, lenv, fillO, splice, fldv, Sp.eqa, eqL, eq1, Nat.reduceAdd, Nat.reduceEqDiff, Nat.reduceLeDiff, Nat.reduceMul, reduceCtorEq, Int.reduceLT, Int.reduceLE, Int.reduceGT, Int.reduceGE, Int.reduceEq, Int.reduceNeg]))) | (intro _; intros) | ((refine And.intro ?_ ?_; focus (first | omega | (first | exact Sub.refl _ | ((repeat (first | exact Sub.refl _ | (refine Sub.drop ?_ ?_; focus (simp only [none_upd, none_set, not_false_eq_true, true_and, and_true, *]; done)) | refine Sub.both ?_)); done)) | ((simp only [decide_eq_true_eq, decide_eq_false_iff_not] at *); omega) | (simp_all; done) | (simp_all; omega))); (try (simp (config := { contextual := true, dsimp := false }) only [*, Bool.not_false, Bool.not_true, ↓reduceIte, ↓evP, evQ, if_true, if_false, eq_self, binv, eqv, lenv, fillO, splice, fldv, Sp.eqa, eqL, eq1, Nat.reduceAdd, Nat.reduceEqDiff, Nat.reduceLeDiff, Nat.reduceMul, reduceCtorEq, Int.reduceLT, Int.reduceLE, Int.reduceGT, Int.reduceGE, Int.reduceEq, Int.reduceNeg])))))
    all_goals simp only [decide_eq_true_eq, decide_eq_false_iff_not] at *
  all_goals first
    | exact absurd (HS.out.1 ‹¬parE s = 0›).1 ‹_›
    | exact absurd (HS.out.2 ‹parE s = 0›).1 ‹_›
    | exact endF_det (congrArg Value.bool (decide_eq_true (HS.out.1 ‹¬parE s = 0›).2)) (Sub.refl _)
    | exact endF_det (congrArg Value.bool (decide_eq_true (HS.out.2 ‹parE s = 0›).2)) (Sub.refl _)
end Go.Proofs.YtaoafjlocjjbbaaDoor

-- D17
namespace Go.Proofs.YtaoafjlocjjbbaaDoor
open Go.Sp
set_option linter.unusedSimpArgs false
set_option linter.unusedVariables false
/-- What turns beside the client leaves it. -/
theorem CliAt.keep {σ σ' : Hp} {C : CL} {F : Nat → Prop} (h : CliAt σ C) (hs : Same F σ σ') (hF : ∀ k, C.own k → ¬ F k) : CliAt σ' C := by
  have own1 : ∀ (i : Nat) s, C.ss[i]? = some s → ∀ k, (k = s.g ∨ blk s.v = some k) → C.own k := fun i s hi k e => .inr (.inr (.inr (.inr (.inl ⟨s, List.mem_of_getElem? hi, e⟩))))
  have own2 : ∀ (i : Nat) t, C.ts[i]? = some t → ∀ k, (k = t.g ∨ blk t.v = some k) → C.own k := fun i t hi k e => .inr (.inr (.inr (.inr (.inr ⟨t, List.mem_of_getElem? hi, e⟩))))
  refine ⟨?_, h.vs.sameF hs fun k hk => hF k (.inr (.inl hk)), h.vt.sameF hs fun k hk => hF k (.inr (.inr (.inl hk))), h.vh.sameF hs fun k hk => hF k (.inr (.inr (.inr (.inl hk)))), ?_, ?_, h.home, h.dS, h.dT, h.dR⟩
  · rw [hs _ (by rw [h.cli]; simp) (hF _ (.inl rfl))]; exact h.cli
  · intro i s hi
    obtain ⟨a, b⟩ := h.ses i s hi
    exact ⟨by rw [hs _ (by rw [a]; simp) (hF _ (own1 i s hi _ (.inl rfl)))]; exact a, b.sameF hs fun k hk => hF k (own1 i s hi k (.inr hk))⟩
  · intro i t hi
    exact (h.tx i t hi).keepF hs (hF _ (own2 i t hi _ (.inl rfl))) fun k hk => hF k (own2 i t hi k (.inr hk))
theorem CliAt.fresh {σ : Hp} {C : CL} (h : CliAt σ C) {b : Nat} (hb : σ b = none) (X : Blk) : CliAt (upd σ b X) C :=
  h.keep (F := fun _ => False) (Same.updNew hb (Same.refl _ _)) fun _ _ x => x
theorem Cli.beside {σ0 σ : Hp} {C : CL} (h : Cli σ0 σ C) {b : Nat} (hb : σ b = none) (X : Blk) : Cli (upd σ0 b X) (upd σ b X) C :=
  ⟨h.at_.fresh hb X, h.sub.both, fun k hk => by rw [upd_ne _ _ (fun e => h.at_.known hk (by rw [e]; exact hb))]; exact h.new k hk⟩
theorem Cli.less {σ0 σ τ : Hp} {C : CL} (h : Cli σ0 σ C) (hs : Sub τ σ0) : Cli τ σ C := ⟨h.at_, hs.trans h.sub, fun k hk => hs.noneAt (h.new k hk)⟩
theorem msg_cells (S : SesS) (v : Value) : S.msg v = Msg.cells { kind := 1, session := S.id, seq := S.seq, writes := v } := rfl
theorem commitC {σ0 σ : Hp} {C : CL} {i : Nat} {s : SR} {w : Value} {ws : List Wr} (h : Cli σ0 σ C) (hi : C.ss[i]? = some s) (hv : RoRows 3 Wr.cells σ0 w ws) (hn : ws.length * 40 ≤ 140737488355328) (hb : s.S.busy = false) (he : checkV ws = 0) (hq : decide (s.S.seq ≥ 2147483647) = false) :
    ACalls Tryd.prog 39 #[.pointer (some ⟨C.g, 0, none⟩), .int .i64 i, w] σ fun u σ' => ∃ v1 v2, u = .tuple #[.agg (Msg.cells { kind := 1, session := s.S.id, seq := s.S.sent.seq, writes := v2 }).toArray, .int .i64 0] ∧ Moved σ C σ' (C.ses i s s.S.sent v1 ws) ∧ RowsAt 37 3 Wr.cells σ' v2 ws ∧ New σ v2 ∧ blk v1 ≠ blk v2 := by
  have hs := h.at_.ses i s hi
  have hsub : Sub σ0 (off σ s.g) := fun k => by
    by_cases e : k = s.g
    · left; rw [e]; exact h.new _ (.inr (.inr (.inr (.inr (.inl ⟨s, List.mem_of_getElem? hi, .inl rfl⟩)))))
    · rw [off_ne _ e]; exact h.sub k
  have k := send15e hs.1 (hv.sub hsub) hn hb he hq
  refine (commit39g (R := fun m e σ' => e = 0 ∧ ∃ v1 v2, m = { kind := 1, session := s.S.id, seq := s.S.sent.seq, writes := v2 } ∧ Moved σ C σ' (C.ses i s s.S.sent v1 ws) ∧ RowsAt 37 3 Wr.cells σ' v2 ws ∧ New σ v2 ∧ blk v1 ≠ blk v2) (yesS h.at_ hi) (k.mono ?_)).mono ?_
  · rintro u σ' ⟨v1, v2, h1, h2, h3, h4, h5, h6, h7, h8⟩
    obtain ⟨a, c, hv2⟩ := h4.slice
    rw [msg_cells] at h1
    exact ⟨{ kind := 1, session := s.S.id, seq := s.S.sent.seq, writes := v2 }, 0, h1, by show one v2 = true; rw [hv2]; rfl, rfl, rfl, v1, v2, rfl, ses_moved h.at_ hi h5 h2 h3 fun k hk => .inr (h6 k hk), h4, h7, h8⟩
  · rintro u σ' ⟨m, e, h1, _, _, rfl, v1, v2, rfl, h2⟩
    exact ⟨v1, v2, h1, h2⟩
theorem put58 (k d : ByteArray) (σ : Hp) : ACalls Tryd.prog 58 #[.string k, .string d] σ fun v σ' => v = .agg #[.string k, .bool true, .string d] ∧ σ' = σ := by
  (refine acalls_F ok58 (by simp) ?_; unfold c58 r58; simp (config := { contextual := true, dsimp := false }) only [CliC, Msg.cells, ↓reduceIte, ↓evP, evQ, if_true, if_false, eq_self, binv, eqv, lenv, fillO, splice, fldv, Sp.eqa, eqL, eq1, Nat.reduceAdd, Nat.reduceEqDiff, Nat.reduceLeDiff, Nat.reduceMul, reduceCtorEq, Int.reduceLT, Int.reduceLE, Int.reduceGT, Int.reduceGE, Int.reduceEq, Int.reduceNeg])
  (repeat' (first | (refine condF_split (fun hc => ?_) (fun hc => ?_) <;> (try simp only [Bool.not_eq_true', Bool.not_eq_false', Bool.and_eq_true, Bool.or_eq_false_iff] at hc) <;> (try (simp (config := { contextual := true, dsimp := false }) only [*, CliC, Msg.cells, ↓reduceIte, ↓evP, evQ, if_true, if_false, eq_self, binv, eqv, lenv, fillO, splice, fldv, Sp.eqa, eqL, eq1, Nat.reduceAdd, Nat.reduceEqDiff, Nat.reduceLeDiff, Nat.reduceMul, reduceCtorEq, Int.reduceLT, Int.reduceLE, Int.reduceGT, Int.reduceGE, Int.reduceEq, Int.reduceNeg]))) | (intro _; intros) | ((refine And.intro ?_ ?_; focus (first | omega | (first | exact Sub.refl _ | ((repeat (first | exact Sub.refl _ | (refine Sub.drop ?_ ?_; focus (simp only [none_upd, none_set, not_false_eq_true, true_and, and_true, *]; done)) | refine Sub.both ?_)); done)) | ((simp only [decide_eq_true_eq, decide_eq_false_iff_not] at *); omega) | (simp_all; done) | (simp_all; omega))); (try (simp (config := { contextual := true, dsimp := false }) only [*, CliC, Msg.cells, ↓reduceIte, ↓evP, evQ, if_true, if_false, eq_self, binv, eqv, lenv, fillO, splice, fldv, Sp.eqa, eqL, eq1, Nat.reduceAdd, Nat.reduceEqDiff, Nat.reduceLeDiff, Nat.reduceMul, reduceCtorEq, Int.reduceLT, Int.reduceLE, Int.reduceGT, Int.reduceGE, Int.reduceEq, Int.reduceNeg])))))
  all_goals (refine endF_det ?_ ?_; (focus ((try simp only [cond_true, cond_false, *]) <;> ((try simp only [decide_eq_true_eq, decide_eq_false_iff_not] at *) <;> first | rfl | (simp []; done) | (simp_all []; done) | (simp []; omega) | (simp []; (rw [Bool.eq_iff_iff]); simp; omega) | (simp_all [] <;> omega) | ((try unfold id); (rw [Value.bool.injEq, Bool.eq_iff_iff]); simp <;> omega) | ((try unfold id); (repeat' split) <;> simp_all <;> omega) | (simp_all [] <;> (repeat' split) <;> simp_all <;> omega)))); (focus ((try simp only [cond_true, cond_false, set_same, *]); exact (by (first | exact Sub.refl _ | ((repeat (first | exact Sub.refl _ | (refine Sub.drop ?_ ?_; focus (simp only [none_upd, none_set, not_false_eq_true, true_and, and_true, *]; done)) | refine Sub.both ?_)); done))))))
theorem tok5 : tokV 5 = ⟨#[116, 53, 46, 109]⟩ ∧ tokE 5 = 0 := by
  have h : Lib.itoa 5 = [53] := by
    show (if (5 : Int) < 0 then _ else Lib.decDigits 5) = _
    rw [if_neg (by omega), Lib.decDigits, dif_pos (by omega)]; rfl
  unfold tokV tokE tokBad tokB deci
  rw [h]
  exact ⟨rfl, rfl⟩
theorem par5 : parE ⟨#[116, 53, 46, 109]⟩ = 0 ∧ parV ⟨#[116, 53, 46, 109]⟩ = 5 := by
  rw [← tok5.1]; exact parE_tok (by decide)
def w1 : Wr := ⟨⟨#[97]⟩, true, ⟨#[120]⟩⟩
set_option maxHeartbeats 4000000 in
set_option maxRecDepth 100000 in
theorem fixed29 {σ : Hp} (hG : Glob σ) : ACalls Tryd.prog 29 #[] σ fun u σ' => u = .bool true ∧ σ' = σ := by
  have HG := Hid.mk hG
  clear hG
  (refine acalls_F ok29 (by simp) ?_; unfold c29 r29; simp (config := { contextual := true, dsimp := false }) only [CliC, Msg.cells, ↓reduceIte, ↓evP, evQ, if_true, if_false, eq_self, binv, eqv, lenv, fillO, splice, fldv, Sp.eqa, eqL, eq1, Nat.reduceAdd, Nat.reduceEqDiff, Nat.reduceLeDiff, Nat.reduceMul, reduceCtorEq, Int.reduceLT, Int.reduceLE, Int.reduceGT, Int.reduceGE, Int.reduceEq, Int.reduceNeg])
  (repeat' (first | (refine condF_split (fun hc => ?_) (fun hc => ?_) <;> (try simp only [Bool.not_eq_true', Bool.not_eq_false', Bool.and_eq_true, Bool.or_eq_false_iff] at hc) <;> (try (simp (config := { contextual := true, dsimp := false }) only [*, CliC, Msg.cells, ↓reduceIte, ↓evP, evQ, if_true, if_false, eq_self, binv, eqv, lenv, fillO, splice, fldv, Sp.eqa, eqL, eq1, Nat.reduceAdd, Nat.reduceEqDiff, Nat.reduceLeDiff, Nat.reduceMul, reduceCtorEq, Int.reduceLT, Int.reduceLE, Int.reduceGT, Int.reduceGE, Int.reduceEq, Int.reduceNeg]))) | (intro _; intros) | ((refine And.intro ?_ ?_; focus (first | omega | (first | exact Sub.refl _ | ((repeat (first | exact Sub.refl _ | (refine Sub.drop ?_ ?_; focus (simp only [none_upd, none_set, not_false_eq_true, true_and, and_true, *]; done)) | refine Sub.both ?_)); done)) | ((simp only [decide_eq_true_eq, decide_eq_false_iff_not] at *); omega) | (simp_all; done) | (simp_all; omega))); (try (simp (config := { contextual := true, dsimp := false }) only [*, CliC, Msg.cells, ↓reduceIte, ↓evP, evQ, if_true, if_false, eq_self, binv, eqv, lenv, fillO, splice, fldv, Sp.eqa, eqL, eq1, Nat.reduceAdd, Nat.reduceEqDiff, Nat.reduceLeDiff, Nat.reduceMul, reduceCtorEq, Int.reduceLT, Int.reduceLE, Int.reduceGT, Int.reduceGE, Int.reduceEq, Int.reduceNeg])))))
  refine callF_of (newCli { nodes := 1 } σ) ?_
  rintro u σ1 ⟨g, rfl, h1⟩
  generalize Cfg.held { nodes := 1 } = c0 at h1
  have H1 := Hid.mk h1
  clear h1
  simp (config := { contextual := true, dsimp := false }) only [*, CliC, Msg.cells, ↓reduceIte, ↓evP, evQ, if_true, if_false, eq_self, binv, eqv, lenv, fillO, splice, fldv, Sp.eqa, eqL, eq1, Nat.reduceAdd, Nat.reduceEqDiff, Nat.reduceLeDiff, Nat.reduceMul, reduceCtorEq, Int.reduceLT, Int.reduceLE, Int.reduceGT, Int.reduceGE, Int.reduceEq, Int.reduceNeg]
  (repeat' (first | (refine condF_split (fun hc => ?_) (fun hc => ?_) <;> (try simp only [Bool.not_eq_true', Bool.not_eq_false', Bool.and_eq_true, Bool.or_eq_false_iff] at hc) <;> (try (simp (config := { contextual := true, dsimp := false }) only [*, CliC, Msg.cells, ↓reduceIte, ↓evP, evQ, if_true, if_false, eq_self, binv, eqv, lenv, fillO, splice, fldv, Sp.eqa, eqL, eq1, Nat.reduceAdd, Nat.reduceEqDiff, Nat.reduceLeDiff, Nat.reduceMul, reduceCtorEq, Int.reduceLT, Int.reduceLE, Int.reduceGT, Int.reduceGE, Int.reduceEq, Int.reduceNeg]))) | (intro _; intros) | ((refine And.intro ?_ ?_; focus (first | omega | (first | exact Sub.refl _ | ((repeat (first | exact Sub.refl _ | (refine Sub.drop ?_ ?_; focus (simp only [none_upd, none_set, not_false_eq_true, true_and, and_true, *]; done)) | refine Sub.both ?_)); done)) | ((simp only [decide_eq_true_eq, decide_eq_false_iff_not] at *); omega) | (simp_all; done) | (simp_all; omega))); (try (simp (config := { contextual := true, dsimp := false }) only [*, CliC, Msg.cells, ↓reduceIte, ↓evP, evQ, if_true, if_false, eq_self, binv, eqv, lenv, fillO, splice, fldv, Sp.eqa, eqL, eq1, Nat.reduceAdd, Nat.reduceEqDiff, Nat.reduceLeDiff, Nat.reduceMul, reduceCtorEq, Int.reduceLT, Int.reduceLE, Int.reduceGT, Int.reduceGE, Int.reduceEq, Int.reduceNeg])))))
  have q := openC H1.out.at_ (by simp)
  refine callF_of q ?_
  clear q
  rintro u σ2 ⟨hu, k, vs, m⟩
  obtain rfl : u = .tuple #[.int .i64 0, .int .i64 0] := hu
  have H2 := Hid.mk (H1.out.on m)
  clear m
  simp (config := { contextual := true, dsimp := false }) only [*, CliC, Msg.cells, ↓reduceIte, ↓evP, evQ, if_true, if_false, eq_self, binv, eqv, lenv, fillO, splice, fldv, Sp.eqa, eqL, eq1, Nat.reduceAdd, Nat.reduceEqDiff, Nat.reduceLeDiff, Nat.reduceMul, reduceCtorEq, Int.reduceLT, Int.reduceLE, Int.reduceGT, Int.reduceGE, Int.reduceEq, Int.reduceNeg]
  (repeat' (first | (refine condF_split (fun hc => ?_) (fun hc => ?_) <;> (try simp only [Bool.not_eq_true', Bool.not_eq_false', Bool.and_eq_true, Bool.or_eq_false_iff] at hc) <;> (try (simp (config := { contextual := true, dsimp := false }) only [*, CliC, Msg.cells, ↓reduceIte, ↓evP, evQ, if_true, if_false, eq_self, binv, eqv, lenv, fillO, splice, fldv, Sp.eqa, eqL, eq1, Nat.reduceAdd, Nat.reduceEqDiff, Nat.reduceLeDiff, Nat.reduceMul, reduceCtorEq, Int.reduceLT, Int.reduceLE, Int.reduceGT, Int.reduceGE, Int.reduceEq, Int.reduceNeg]))) | (intro _; intros) | ((refine And.intro ?_ ?_; focus (first | omega | (first | exact Sub.refl _ | ((repeat (first | exact Sub.refl _ | (refine Sub.drop ?_ ?_; focus (simp only [none_upd, none_set, not_false_eq_true, true_and, and_true, *]; done)) | refine Sub.both ?_)); done)) | ((simp only [decide_eq_true_eq, decide_eq_false_iff_not] at *); omega) | (simp_all; done) | (simp_all; omega))); (try (simp (config := { contextual := true, dsimp := false }) only [*, CliC, Msg.cells, ↓reduceIte, ↓evP, evQ, if_true, if_false, eq_self, binv, eqv, lenv, fillO, splice, fldv, Sp.eqa, eqL, eq1, Nat.reduceAdd, Nat.reduceEqDiff, Nat.reduceLeDiff, Nat.reduceMul, reduceCtorEq, Int.reduceLT, Int.reduceLE, Int.reduceGT, Int.reduceGE, Int.reduceEq, Int.reduceNeg])))))
  have q := openC H2.out.at_ (by simp [CL.opens])
  refine callF_of q ?_
  clear q
  rintro u σ3 ⟨hu, k2, vs2, m⟩
  obtain rfl : u = .tuple #[.int .i64 1, .int .i64 0] := hu
  have H3 := Hid.mk (H2.out.on m)
  clear m
  simp (config := { contextual := true, dsimp := false }) only [*, CliC, Msg.cells, ↓reduceIte, ↓evP, evQ, if_true, if_false, eq_self, binv, eqv, lenv, fillO, splice, fldv, Sp.eqa, eqL, eq1, Nat.reduceAdd, Nat.reduceEqDiff, Nat.reduceLeDiff, Nat.reduceMul, reduceCtorEq, Int.reduceLT, Int.reduceLE, Int.reduceGT, Int.reduceGE, Int.reduceEq, Int.reduceNeg]
  (repeat' (first | (refine condF_split (fun hc => ?_) (fun hc => ?_) <;> (try simp only [Bool.not_eq_true', Bool.not_eq_false', Bool.and_eq_true, Bool.or_eq_false_iff] at hc) <;> (try (simp (config := { contextual := true, dsimp := false }) only [*, CliC, Msg.cells, ↓reduceIte, ↓evP, evQ, if_true, if_false, eq_self, binv, eqv, lenv, fillO, splice, fldv, Sp.eqa, eqL, eq1, Nat.reduceAdd, Nat.reduceEqDiff, Nat.reduceLeDiff, Nat.reduceMul, reduceCtorEq, Int.reduceLT, Int.reduceLE, Int.reduceGT, Int.reduceGE, Int.reduceEq, Int.reduceNeg]))) | (refine callF_v (put58 _ _ _) ?_; (try (simp (config := { contextual := true, dsimp := false }) only [*, CliC, Msg.cells, ↓reduceIte, ↓evP, evQ, if_true, if_false, eq_self, binv, eqv, lenv, fillO, splice, fldv, Sp.eqa, eqL, eq1, Nat.reduceAdd, Nat.reduceEqDiff, Nat.reduceLeDiff, Nat.reduceMul, reduceCtorEq, Int.reduceLT, Int.reduceLE, Int.reduceGT, Int.reduceGE, Int.reduceEq, Int.reduceNeg]))) | (refine ccallF_of (put58 _ _ _) ?_; (try (simp (config := { contextual := true, dsimp := false }) only [*, CliC, Msg.cells, ↓reduceIte, ↓evP, evQ, if_true, if_false, eq_self, binv, eqv, lenv, fillO, splice, fldv, Sp.eqa, eqL, eq1, Nat.reduceAdd, Nat.reduceEqDiff, Nat.reduceLeDiff, Nat.reduceMul, reduceCtorEq, Int.reduceLT, Int.reduceLE, Int.reduceGT, Int.reduceGE, Int.reduceEq, Int.reduceNeg]))) | (refine gcallF_of (put58 _ _ _) ?_; (try (simp (config := { contextual := true, dsimp := false }) only [*, CliC, Msg.cells, ↓reduceIte, ↓evP, evQ, if_true, if_false, eq_self, binv, eqv, lenv, fillO, splice, fldv, Sp.eqa, eqL, eq1, Nat.reduceAdd, Nat.reduceEqDiff, Nat.reduceLeDiff, Nat.reduceMul, reduceCtorEq, Int.reduceLT, Int.reduceLE, Int.reduceGT, Int.reduceGE, Int.reduceEq, Int.reduceNeg]))) | (intro _; intros) | ((refine And.intro ?_ ?_; focus (first | omega | (first | exact Sub.refl _ | ((repeat (first | exact Sub.refl _ | (refine Sub.drop ?_ ?_; focus (simp only [none_upd, none_set, not_false_eq_true, true_and, and_true, *]; done)) | refine Sub.both ?_)); done)) | ((simp only [decide_eq_true_eq, decide_eq_false_iff_not] at *); omega) | (simp_all; done) | (simp_all; omega))); (try (simp (config := { contextual := true, dsimp := false }) only [*, CliC, Msg.cells, ↓reduceIte, ↓evP, evQ, if_true, if_false, eq_self, binv, eqv, lenv, fillO, splice, fldv, Sp.eqa, eqL, eq1, Nat.reduceAdd, Nat.reduceEqDiff, Nat.reduceLeDiff, Nat.reduceMul, reduceCtorEq, Int.reduceLT, Int.reduceLE, Int.reduceGT, Int.reduceGE, Int.reduceEq, Int.reduceNeg])))))
  rename_i b b0
  have hr : RowsAt 37 3 Wr.cells (upd σ b (.row (w1.cells) 3 37)) (.slice (some ⟨b, 0, none⟩) 1 1) [w1] := rows_mk rfl (Nat.le_refl 1) (upd_same _ _ _)
  have q := commitC (H3.out.beside b0 (.row w1.cells 3 37)) (i := 0) (s := ⟨k, newS 0, .slice none 0 0, []⟩) rfl (hr.ro Wr.cells_len) (by decide) rfl (by decide) (show decide ((0 : Int) ≥ 2147483647) = false by decide)
  refine callF_of q ?_
  clear q hr
  rintro u σ4 ⟨v1, v2, rfl, m, hr2, _, _⟩
  have H4 := Hid.mk (((H3.out.beside b0 (.row w1.cells 3 37)).on m).less (Sub.drop (H3.out.sub.noneAt b0) (Sub.refl σ)))
  obtain ⟨a2, c2, rfl⟩ := hr2.slice
  clear m hr2
  simp (config := { contextual := true, dsimp := false }) only [*, CliC, Msg.cells, ↓reduceIte, ↓evP, evQ, if_true, if_false, eq_self, binv, eqv, lenv, fillO, splice, fldv, Sp.eqa, eqL, eq1, Nat.reduceAdd, Nat.reduceEqDiff, Nat.reduceLeDiff, Nat.reduceMul, reduceCtorEq, Int.reduceLT, Int.reduceLE, Int.reduceGT, Int.reduceGE, Int.reduceEq, Int.reduceNeg]
  (repeat' (first | (refine condF_split (fun hc => ?_) (fun hc => ?_) <;> (try simp only [Bool.not_eq_true', Bool.not_eq_false', Bool.and_eq_true, Bool.or_eq_false_iff] at hc) <;> (try (simp (config := { contextual := true, dsimp := false }) only [*, CliC, Msg.cells, ↓reduceIte, ↓evP, evQ, if_true, if_false, eq_self, binv, eqv, lenv, fillO, splice, fldv, Sp.eqa, eqL, eq1, Nat.reduceAdd, Nat.reduceEqDiff, Nat.reduceLeDiff, Nat.reduceMul, reduceCtorEq, Int.reduceLT, Int.reduceLE, Int.reduceGT, Int.reduceGE, Int.reduceEq, Int.reduceNeg]))) | (intro _; intros) | ((refine And.intro ?_ ?_; focus (first | omega | (first | exact Sub.refl _ | ((repeat (first | exact Sub.refl _ | (refine Sub.drop ?_ ?_; focus (simp only [none_upd, none_set, not_false_eq_true, true_and, and_true, *]; done)) | refine Sub.both ?_)); done)) | ((simp only [decide_eq_true_eq, decide_eq_false_iff_not] at *); omega) | (simp_all; done) | (simp_all; omega))); (try (simp (config := { contextual := true, dsimp := false }) only [*, CliC, Msg.cells, ↓reduceIte, ↓evP, evQ, if_true, if_false, eq_self, binv, eqv, lenv, fillO, splice, fldv, Sp.eqa, eqL, eq1, Nat.reduceAdd, Nat.reduceEqDiff, Nat.reduceLeDiff, Nat.reduceMul, reduceCtorEq, Int.reduceLT, Int.reduceLE, Int.reduceGT, Int.reduceGE, Int.reduceEq, Int.reduceNeg])))))
  rename_i d d0
  have q := ackC H4.out.at_ (i := 0) (s := ⟨k, (newS 0).sent, v1, [w1]⟩) (m := { kind := 2, seq := 1, n := 5 }) rfl rfl rfl
  refine callF_of (ACalls.beside ?_ q) ?_
  · (simp only [none_upd, none_set, not_false_eq_true, true_and, and_true, *]; done)
  clear q
  rintro u _ ⟨σ5, ⟨hu, m⟩, n1, rfl⟩
  rw [show SesS.hears (newS 0).sent { kind := 2, seq := 1, n := 5 } = true by decide] at hu m
  subst hu
  have H5 := Hid.mk (H4.out.on m)
  clear m
  simp (config := { contextual := true, dsimp := false }) only [*, CliC, Msg.cells, ↓reduceIte, ↓evP, evQ, if_true, if_false, eq_self, binv, eqv, lenv, fillO, splice, fldv, Sp.eqa, eqL, eq1, Nat.reduceAdd, Nat.reduceEqDiff, Nat.reduceLeDiff, Nat.reduceMul, reduceCtorEq, Int.reduceLT, Int.reduceLE, Int.reduceGT, Int.reduceGE, Int.reduceEq, Int.reduceNeg]
  (repeat' (first | (refine condF_split (fun hc => ?_) (fun hc => ?_) <;> (try simp only [Bool.not_eq_true', Bool.not_eq_false', Bool.and_eq_true, Bool.or_eq_false_iff] at hc) <;> (try (simp (config := { contextual := true, dsimp := false }) only [*, CliC, Msg.cells, ↓reduceIte, ↓evP, evQ, if_true, if_false, eq_self, binv, eqv, lenv, fillO, splice, fldv, Sp.eqa, eqL, eq1, Nat.reduceAdd, Nat.reduceEqDiff, Nat.reduceLeDiff, Nat.reduceMul, reduceCtorEq, Int.reduceLT, Int.reduceLE, Int.reduceGT, Int.reduceGE, Int.reduceEq, Int.reduceNeg]))) | (intro _; intros) | ((refine And.intro ?_ ?_; focus (first | omega | (first | exact Sub.refl _ | ((repeat (first | exact Sub.refl _ | (refine Sub.drop ?_ ?_; focus (simp only [none_upd, none_set, not_false_eq_true, true_and, and_true, *]; done)) | refine Sub.both ?_)); done)) | ((simp only [decide_eq_true_eq, decide_eq_false_iff_not] at *); omega) | (simp_all; done) | (simp_all; omega))); (try (simp (config := { contextual := true, dsimp := false }) only [*, CliC, Msg.cells, ↓reduceIte, ↓evP, evQ, if_true, if_false, eq_self, binv, eqv, lenv, fillO, splice, fldv, Sp.eqa, eqL, eq1, Nat.reduceAdd, Nat.reduceEqDiff, Nat.reduceLeDiff, Nat.reduceMul, reduceCtorEq, Int.reduceLT, Int.reduceLE, Int.reduceGT, Int.reduceGE, Int.reduceEq, Int.reduceNeg])))))
  rename_i e e1 e1' e0
  have q := tokenC (HG.out.sub H5.out.sub) H5.out.at_ (i := 0) (s := ⟨k, ⟨0, 5, false, 1, 0, 5, 0⟩, .slice none 0 0, []⟩) rfl
  rw [show tokV _ = _ from tok5.1, show tokE _ = _ from tok5.2] at q
  refine callF_of (ACalls.beside ?_ (ACalls.beside ?_ q)) ?_
  · (simp only [none_upd, none_set, not_false_eq_true, true_and, and_true, *]; done)
  · (simp only [none_upd, none_set, not_false_eq_true, true_and, and_true, *]; done)
  clear q
  rintro u _ ⟨_, ⟨_, ⟨rfl, rfl⟩, n2, rfl⟩, n3, rfl⟩
  simp (config := { contextual := true, dsimp := false }) only [*, CliC, Msg.cells, ↓reduceIte, ↓evP, evQ, if_true, if_false, eq_self, binv, eqv, lenv, fillO, splice, fldv, Sp.eqa, eqL, eq1, Nat.reduceAdd, Nat.reduceEqDiff, Nat.reduceLeDiff, Nat.reduceMul, reduceCtorEq, Int.reduceLT, Int.reduceLE, Int.reduceGT, Int.reduceGE, Int.reduceEq, Int.reduceNeg]
  (repeat' (first | (refine condF_split (fun hc => ?_) (fun hc => ?_) <;> (try simp only [Bool.not_eq_true', Bool.not_eq_false', Bool.and_eq_true, Bool.or_eq_false_iff] at hc) <;> (try (simp (config := { contextual := true, dsimp := false }) only [*, CliC, Msg.cells, ↓reduceIte, ↓evP, evQ, if_true, if_false, eq_self, binv, eqv, lenv, fillO, splice, fldv, Sp.eqa, eqL, eq1, Nat.reduceAdd, Nat.reduceEqDiff, Nat.reduceLeDiff, Nat.reduceMul, reduceCtorEq, Int.reduceLT, Int.reduceLE, Int.reduceGT, Int.reduceGE, Int.reduceEq, Int.reduceNeg]))) | (intro _; intros) | ((refine And.intro ?_ ?_; focus (first | omega | (first | exact Sub.refl _ | ((repeat (first | exact Sub.refl _ | (refine Sub.drop ?_ ?_; focus (simp only [none_upd, none_set, not_false_eq_true, true_and, and_true, *]; done)) | refine Sub.both ?_)); done)) | ((simp only [decide_eq_true_eq, decide_eq_false_iff_not] at *); omega) | (simp_all; done) | (simp_all; omega))); (try (simp (config := { contextual := true, dsimp := false }) only [*, CliC, Msg.cells, ↓reduceIte, ↓evP, evQ, if_true, if_false, eq_self, binv, eqv, lenv, fillO, splice, fldv, Sp.eqa, eqL, eq1, Nat.reduceAdd, Nat.reduceEqDiff, Nat.reduceLeDiff, Nat.reduceMul, reduceCtorEq, Int.reduceLT, Int.reduceLE, Int.reduceGT, Int.reduceGE, Int.reduceEq, Int.reduceNeg])))))
  have q := joinC (HG.out.sub H5.out.sub) H5.out.at_ (i := 1) (s := ⟨k2, newS 1, .slice none 0 0, []⟩) rfl ⟨#[116, 53, 46, 109]⟩ (by decide)
  refine callF_of (ACalls.beside ?_ (ACalls.beside ?_ q)) ?_
  · (simp only [none_upd, none_set, not_false_eq_true, true_and, and_true, *]; done)
  · (simp only [none_upd, none_set, not_false_eq_true, true_and, and_true, *]; done)
  clear q
  rintro u _ ⟨_, ⟨σ6, ⟨rfl, m⟩, n4, rfl⟩, n5, rfl⟩
  simp only [none_upd] at n5
  have H6 := Hid.mk (H5.out.on m)
  clear m
  rw [par5.1]
  simp (config := { contextual := true, dsimp := false }) only [*, CliC, Msg.cells, ↓reduceIte, ↓evP, evQ, if_true, if_false, eq_self, binv, eqv, lenv, fillO, splice, fldv, Sp.eqa, eqL, eq1, Nat.reduceAdd, Nat.reduceEqDiff, Nat.reduceLeDiff, Nat.reduceMul, reduceCtorEq, Int.reduceLT, Int.reduceLE, Int.reduceGT, Int.reduceGE, Int.reduceEq, Int.reduceNeg]
  (repeat' (first | (refine condF_split (fun hc => ?_) (fun hc => ?_) <;> (try simp only [Bool.not_eq_true', Bool.not_eq_false', Bool.and_eq_true, Bool.or_eq_false_iff] at hc) <;> (try (simp (config := { contextual := true, dsimp := false }) only [*, CliC, Msg.cells, ↓reduceIte, ↓evP, evQ, if_true, if_false, eq_self, binv, eqv, lenv, fillO, splice, fldv, Sp.eqa, eqL, eq1, Nat.reduceAdd, Nat.reduceEqDiff, Nat.reduceLeDiff, Nat.reduceMul, reduceCtorEq, Int.reduceLT, Int.reduceLE, Int.reduceGT, Int.reduceGE, Int.reduceEq, Int.reduceNeg]))) | (intro _; intros) | ((refine And.intro ?_ ?_; focus (first | omega | (first | exact Sub.refl _ | ((repeat (first | exact Sub.refl _ | (refine Sub.drop ?_ ?_; focus (simp only [none_upd, none_set, not_false_eq_true, true_and, and_true, *]; done)) | refine Sub.both ?_)); done)) | ((simp only [decide_eq_true_eq, decide_eq_false_iff_not] at *); omega) | (simp_all; done) | (simp_all; omega))); (try (simp (config := { contextual := true, dsimp := false }) only [*, CliC, Msg.cells, ↓reduceIte, ↓evP, evQ, if_true, if_false, eq_self, binv, eqv, lenv, fillO, splice, fldv, Sp.eqa, eqL, eq1, Nat.reduceAdd, Nat.reduceEqDiff, Nat.reduceLeDiff, Nat.reduceMul, reduceCtorEq, Int.reduceLT, Int.reduceLE, Int.reduceGT, Int.reduceGE, Int.reduceEq, Int.reduceNeg])))))
  have q := beginC H6.out.at_ (i := 1) (s := ⟨k2, (newS 1).joined ⟨#[116, 53, 46, 109]⟩, .slice none 0 0, []⟩) rfl (by show (0 : Nat) < 256; omega)
  refine callF_of (ACalls.beside ?_ (ACalls.beside ?_ q)) ?_
  · (simp only [none_upd, none_set, not_false_eq_true, true_and, and_true, *]; done)
  · (simp only [none_upd, none_set, not_false_eq_true, true_and, and_true, *]; done)
  clear q
  rintro u _ ⟨_, ⟨σ7, ⟨hu, t, vt', vh', m⟩, n6, rfl⟩, n7, rfl⟩
  obtain rfl : u = .tuple #[.int .i64 0, .int .i64 0] := hu
  simp only [none_upd] at n7
  have H7 := Hid.mk (H6.out.on m)
  clear m
  simp (config := { contextual := true, dsimp := false }) only [*, CliC, Msg.cells, ↓reduceIte, ↓evP, evQ, if_true, if_false, eq_self, binv, eqv, lenv, fillO, splice, fldv, Sp.eqa, eqL, eq1, Nat.reduceAdd, Nat.reduceEqDiff, Nat.reduceLeDiff, Nat.reduceMul, reduceCtorEq, Int.reduceLT, Int.reduceLE, Int.reduceGT, Int.reduceGE, Int.reduceEq, Int.reduceNeg]
  (repeat' (first | (refine condF_split (fun hc => ?_) (fun hc => ?_) <;> (try simp only [Bool.not_eq_true', Bool.not_eq_false', Bool.and_eq_true, Bool.or_eq_false_iff] at hc) <;> (try (simp (config := { contextual := true, dsimp := false }) only [*, CliC, Msg.cells, ↓reduceIte, ↓evP, evQ, if_true, if_false, eq_self, binv, eqv, lenv, fillO, splice, fldv, Sp.eqa, eqL, eq1, Nat.reduceAdd, Nat.reduceEqDiff, Nat.reduceLeDiff, Nat.reduceMul, reduceCtorEq, Int.reduceLT, Int.reduceLE, Int.reduceGT, Int.reduceGE, Int.reduceEq, Int.reduceNeg]))) | (intro _; intros) | ((refine And.intro ?_ ?_; focus (first | omega | (first | exact Sub.refl _ | ((repeat (first | exact Sub.refl _ | (refine Sub.drop ?_ ?_; focus (simp only [none_upd, none_set, not_false_eq_true, true_and, and_true, *]; done)) | refine Sub.both ?_)); done)) | ((simp only [decide_eq_true_eq, decide_eq_false_iff_not] at *); omega) | (simp_all; done) | (simp_all; omega))); (try (simp (config := { contextual := true, dsimp := false }) only [*, CliC, Msg.cells, ↓reduceIte, ↓evP, evQ, if_true, if_false, eq_self, binv, eqv, lenv, fillO, splice, fldv, Sp.eqa, eqL, eq1, Nat.reduceAdd, Nat.reduceEqDiff, Nat.reduceLeDiff, Nat.reduceMul, reduceCtorEq, Int.reduceLT, Int.reduceLE, Int.reduceGT, Int.reduceGE, Int.reduceEq, Int.reduceNeg])))))
  have q := finishC H7.out.at_ (i := 0) (t := ⟨t, newT 0 c0.nodes ((newS 1).joined ⟨#[116, 53, 46, 109]⟩).floor, .slice none 0 0, 1, k2⟩) (s := ⟨k2, (newS 1).joined ⟨#[116, 53, 46, 109]⟩, .slice none 0 0, []⟩) rfl rfl rfl
  have ef : ((newS 1).joined ⟨#[116, 53, 46, 109]⟩).floor = 5 := by unfold SesS.joined; rw [par5.1, par5.2]; rfl
  refine callF_of (ACalls.beside ?_ (ACalls.beside ?_ q)) ?_
  · (simp only [none_upd, none_set, not_false_eq_true, true_and, and_true, *]; done)
  · (simp only [none_upd, none_set, not_false_eq_true, true_and, and_true, *]; done)
  clear q
  rintro u _ ⟨_, ⟨σ8, ⟨hu, m⟩, n8, rfl⟩, n9, rfl⟩
  rw [ef] at hu
  obtain rfl : u = .tuple #[.int .i64 5, .int .i64 0] := hu
  simp only [none_upd] at n9
  have H8 := Hid.mk (H7.out.on m)
  clear m ef
  simp (config := { contextual := true, dsimp := false }) only [*, CliC, Msg.cells, ↓reduceIte, ↓evP, evQ, if_true, if_false, eq_self, binv, eqv, lenv, fillO, splice, fldv, Sp.eqa, eqL, eq1, Nat.reduceAdd, Nat.reduceEqDiff, Nat.reduceLeDiff, Nat.reduceMul, reduceCtorEq, Int.reduceLT, Int.reduceLE, Int.reduceGT, Int.reduceGE, Int.reduceEq, Int.reduceNeg]
  (repeat' (first | (refine condF_split (fun hc => ?_) (fun hc => ?_) <;> (try simp only [Bool.not_eq_true', Bool.not_eq_false', Bool.and_eq_true, Bool.or_eq_false_iff] at hc) <;> (try (simp (config := { contextual := true, dsimp := false }) only [*, CliC, Msg.cells, ↓reduceIte, ↓evP, evQ, if_true, if_false, eq_self, binv, eqv, lenv, fillO, splice, fldv, Sp.eqa, eqL, eq1, Nat.reduceAdd, Nat.reduceEqDiff, Nat.reduceLeDiff, Nat.reduceMul, reduceCtorEq, Int.reduceLT, Int.reduceLE, Int.reduceGT, Int.reduceGE, Int.reduceEq, Int.reduceNeg]))) | (intro _; intros) | ((refine And.intro ?_ ?_; focus (first | omega | (first | exact Sub.refl _ | ((repeat (first | exact Sub.refl _ | (refine Sub.drop ?_ ?_; focus (simp only [none_upd, none_set, not_false_eq_true, true_and, and_true, *]; done)) | refine Sub.both ?_)); done)) | ((simp only [decide_eq_true_eq, decide_eq_false_iff_not] at *); omega) | (simp_all; done) | (simp_all; omega))); (try (simp (config := { contextual := true, dsimp := false }) only [*, CliC, Msg.cells, ↓reduceIte, ↓evP, evQ, if_true, if_false, eq_self, binv, eqv, lenv, fillO, splice, fldv, Sp.eqa, eqL, eq1, Nat.reduceAdd, Nat.reduceEqDiff, Nat.reduceLeDiff, Nat.reduceMul, reduceCtorEq, Int.reduceLT, Int.reduceLE, Int.reduceGT, Int.reduceGE, Int.reduceEq, Int.reduceNeg])))))
  exact endF_det rfl (Sub.drop (H8.out.sub.noneAt n9.2) (Sub.drop (H8.out.sub.noneAt n8) H8.out.sub))
end Go.Proofs.YtaoafjlocjjbbaaDoor

-- D21
namespace Go.Proofs.YtaoafjlocjjbbaaDoor
open Go.Sp
set_option linter.unusedSimpArgs false
set_option linter.unusedVariables false
def kB : ByteArray := ⟨#[107]⟩
structure FloorIn (f lo sp : Int) : Prop where
  f0 : 0 ≤ f
  f1 : f ≤ 1099511627776
  l0 : 0 ≤ lo
  l1 : lo ≤ 255
  s0 : 0 ≤ sp
  s1 : sp ≤ 255
theorem newT_lo {id nodes f : Int} (h0 : 0 ≤ f) (h1 : f ≤ 1099511627776) : (newT id nodes f).lo = f ∧ (newT id nodes f).hi = 4611686018427387904 := by
  refine ⟨?_, rfl⟩
  show mnI (mxI f 0) 1099511627776 = f
  unfold mnI mxI
  split <;> split <;> omega
theorem newT_read (id nodes f : Int) : (newT id nodes f).read kB = ((newT id nodes f).asks 1 kB, (false, ⟨#[]⟩), ((newT id nodes f).asks 1 kB).req, 0) := rfl
theorem asks_seq (id nodes f : Int) : ((newT id nodes f).asks 1 kB).seq = 1 := rfl
def ansM (id lo sp : Int) : Msg := { kind := 4, tx := id, seq := 1, hit := true, lo := lo, hi := lo + 1 + sp }
theorem fits_of {id nodes f lo sp : Int} (h : FloorIn f lo sp) : ((newT id nodes f).asks 1 kB).fits lo (lo + 1 + sp) = decide (f < lo + 1 + sp) ∧
    (f < lo + 1 + sp → ((newT id nodes f).asks 1 kB).pinT lo (lo + 1 + sp) = (mxI f lo, lo + 1 + sp)) := by
  obtain ⟨f0, f1, l0, l1, s0, s1⟩ := h
  have e1 : ((newT id nodes f).asks 1 kB).lo = f := (newT_lo (id := id) (nodes := nodes) f0 f1).1
  have e2 : ((newT id nodes f).asks 1 kB).hi = 4611686018427387904 := rfl
  have e3 : ofS lo (lo + 1 + sp) = (lo, lo + 1 + sp) := by unfold ofS; rw [if_neg (by omega)]
  have e4 : ofS f 4611686018427387904 = (f, 4611686018427387904) := by unfold ofS; rw [if_neg (by omega)]
  have e5 : mnI 4611686018427387904 (lo + 1 + sp) = lo + 1 + sp := by unfold mnI; rw [if_pos (by omega)]
  have e6 : ((newT id nodes f).asks 1 kB).pinT lo (lo + 1 + sp) = ofS (mxI f lo) (lo + 1 + sp) := by
    unfold TxS.pinT nar; rw [e1, e2, e3, e4, e5]
  unfold TxS.fits
  rw [e6]
  have hmx : mxI f lo = f ∨ mxI f lo = lo := by unfold mxI; split <;> simp
  have hm1 : f ≤ mxI f lo ∧ lo ≤ mxI f lo := by unfold mxI; split <;> omega
  by_cases hc : f < lo + 1 + sp
  · have e7 : ofS (mxI f lo) (lo + 1 + sp) = (mxI f lo, lo + 1 + sp) := by unfold ofS; rw [if_neg (by omega)]
    rw [e7]
    refine ⟨?_, fun _ => rfl⟩
    have : ¬ mxI f lo ≥ lo + 1 + sp := by omega
    simp [hc, this]
  · have e7 : ofS (mxI f lo) (lo + 1 + sp) = (0, 0) := by unfold ofS; rw [if_pos (by omega)]
    rw [e7]
    exact ⟨by simp [hc], fun h => absurd h hc⟩
theorem hear_fin {id nodes f lo sp : Int} (h : FloorIn f lo sp) : (((newT id nodes f).asks 1 kB).hear (ansM id lo sp)).1.finish.2 = cond (decide (f < lo + 1 + sp)) (lo + sp, 0) (0, 31) := by
  obtain ⟨k1, k2⟩ := fits_of (id := id) (nodes := nodes) h
  have e0 : ((newT id nodes f).asks 1 kB).hear (ansM id lo sp) = cond (((newT id nodes f).asks 1 kB).fits lo (lo + 1 + sp)) (((newT id nodes f).asks 1 kB).takes false ⟨#[]⟩ lo (lo + 1 + sp), {}, true) (((newT id nodes f).asks 1 kB).asks 2 kB, (((newT id nodes f).asks 1 kB).asks 2 kB).req, true) := by
    unfold TxS.hear
    have a1 : decide ((ansM id lo sp).tx = ((newT id nodes f).asks 1 kB).id) = true := decide_eq_true rfl
    have a2 : decide ((ansM id lo sp).seq = ((newT id nodes f).asks 1 kB).seq) = true := decide_eq_true rfl
    have a3 : ((newT id nodes f).asks 1 kB).busy = true := rfl
    rw [a1, a2, a3]
    rfl
  rw [e0, k1]
  obtain ⟨f0, f1, l0, l1, s0, s1⟩ := h
  by_cases hc : f < lo + 1 + sp
  · rw [decide_eq_true hc]
    have k3 : ((newT id nodes f).asks 1 kB).takes false ⟨#[]⟩ lo (lo + 1 + sp) = (((newT id nodes f).asks 1 kB).took false ⟨#[]⟩ lo (lo + 1 + sp)).rests 0 0 := takes_eq (by rw [k1]; exact decide_eq_true hc)
    simp only [cond_true]
    rw [k3]
    have k4 : ((((newT id nodes f).asks 1 kB).took false ⟨#[]⟩ lo (lo + 1 + sp)).rests 0 0).hi = lo + 1 + sp := by show (((newT id nodes f).asks 1 kB).pinT lo (lo + 1 + sp)).2 = _; rw [k2 hc]
    have k5 : ((((newT id nodes f).asks 1 kB).took false ⟨#[]⟩ lo (lo + 1 + sp)).rests 0 0).st = 0 := rfl
    generalize (((newT id nodes f).asks 1 kB).took false ⟨#[]⟩ lo (lo + 1 + sp)).rests 0 0 = T at k4 k5
    rw [finish_alt]
    have k6 : decide (T.hi = 4611686018427387904) = false := by rw [k4]; simp; omega
    simp only [k5, k6]
    show (IntKind.i64.wrap (T.hi - 1), (0 : Int)) = _
    rw [k4, wi64 (by omega)]
    congr 1; omega
  · rw [decide_eq_false hc]
    rfl
theorem raise_up {S : SesS} {n : Int} (h : n ≤ 1099511627776) : (S.raise n).floor = mxI S.floor n := by
  unfold SesS.raise; rw [decide_eq_true h]; rfl
end Go.Proofs.YtaoafjlocjjbbaaDoor
