/- A commit into a new store: what it answers. -/
import Derived.Test.YtaoafjlocjjbbaaDoorC4
namespace Go.Proofs.YtaoafjlocjjbbaaDoor
open Go.Sp
set_option linter.unusedSimpArgs false
set_option linter.unusedVariables false
theorem chk_twice : ∀ (ws : List Wr) (i : Nat) (l : List (ByteArray × Value)), chk ws i l true ≠ 0
  | [], i, l => by show (22 : Int) ≠ 0; decide
  | w :: r, i, l => by
    unfold chk
    cases goodW w
    · show (1 : Int) ≠ 0; decide
    · exact chk_twice r _ _
theorem chk_zero {w : Wr} {r : List Wr} {i : Nat} {l : List (ByteArray × Value)} (h : chk (w :: r) i l false = 0) : mget l w.key = none ∧ chk r (i + 1) (mput l w.key (.int .i64 i)) false = 0 := by
  unfold chk at h
  cases hg : goodW w <;> rw [hg] at h
  · exact absurd h (by show (1 : Int) ≠ 0; decide)
  · have h : chk r (i + 1) (mput l w.key (.int .i64 i)) (false || (mget l w.key).isSome) = 0 := h
    cases hm : mget l w.key with
    | none => rw [hm] at h; exact ⟨rfl, h⟩
    | some x => rw [hm] at h; exact absurd h (chk_twice _ _ _)
theorem mget_mput (k k' : ByteArray) (v : Value) : ∀ (l : List (ByteArray × Value)), (mget (mput l k v) k').isSome = (decide (k' = k) || (mget l k').isSome)
  | [] => by by_cases h : k' = k <;> simp [mput, mget, h]
  | p :: r => by
    have ih := mget_mput k k' v r
    unfold mput
    by_cases h : k = p.1
    · rw [if_pos h]
      unfold mget
      by_cases h' : k' = k
      · rw [if_pos h', if_pos (h'.trans h)]; simp
      · rw [if_neg h', if_neg (fun e => h' (e.trans h.symm))]; simp [h']
    · rw [if_neg h]
      unfold mget
      by_cases h' : k' = p.1
      · rw [if_pos h', if_pos h']; simp
      · rw [if_neg h', if_neg h']; exact ih
theorem clone71n (σ : Hp) : ACalls Tryd.prog 71 #[.slice none 0 0] σ fun u σ' => u = .slice none 0 0 ∧ σ' = σ := by
  (refine acalls_F ok71 (by simp) ?_; unfold c71 r71; simp (config := { contextual := true, dsimp := false }) only [Wr.cells, ↓reduceIte, ↓evP, evQ, if_true, if_false, eq_self, binv, eqv, lenv, fillO, splice, fldv, Sp.eqa, eqL, eq1, Nat.reduceAdd, Nat.reduceEqDiff, Nat.reduceLeDiff, Nat.reduceMul, reduceCtorEq, Int.reduceLT, Int.reduceLE, Int.reduceGT, Int.reduceGE, Int.reduceEq, Int.reduceNeg])
  (repeat' (first | (refine condF_split (fun hc => ?_) (fun hc => ?_) <;> (try simp only [Bool.not_eq_true', Bool.not_eq_false', Bool.and_eq_true, Bool.or_eq_false_iff] at hc) <;> (try (simp (config := { contextual := true, dsimp := false }) only [*, Wr.cells, ↓reduceIte, ↓evP, evQ, if_true, if_false, eq_self, binv, eqv, lenv, fillO, splice, fldv, Sp.eqa, eqL, eq1, Nat.reduceAdd, Nat.reduceEqDiff, Nat.reduceLeDiff, Nat.reduceMul, reduceCtorEq, Int.reduceLT, Int.reduceLE, Int.reduceGT, Int.reduceGE, Int.reduceEq, Int.reduceNeg]))) | (intro _; intros) | ((refine And.intro ?_ ?_; focus (first | omega | (first | exact Sub.refl _ | ((repeat (first | exact Sub.refl _ | (refine Sub.drop ?_ ?_; focus (simp only [none_upd, none_set, not_false_eq_true, true_and, and_true, *]; done)) | refine Sub.both ?_)); done)) | ((simp only [decide_eq_true_eq, decide_eq_false_iff_not] at *); omega) | (simp_all; done) | (simp_all; omega))); (try (simp (config := { contextual := true, dsimp := false }) only [*, Wr.cells, ↓reduceIte, ↓evP, evQ, if_true, if_false, eq_self, binv, eqv, lenv, fillO, splice, fldv, Sp.eqa, eqL, eq1, Nat.reduceAdd, Nat.reduceEqDiff, Nat.reduceLeDiff, Nat.reduceMul, reduceCtorEq, Int.reduceLT, Int.reduceLE, Int.reduceGT, Int.reduceGE, Int.reduceEq, Int.reduceNeg])))))
  all_goals (refine endF_det ?_ ?_; (focus ((try simp only [cond_true, cond_false, *]) <;> ((try simp only [decide_eq_true_eq, decide_eq_false_iff_not] at *) <;> first | rfl | (simp []; done) | (simp_all []; done) | (simp []; omega) | (simp []; (rw [Bool.eq_iff_iff]); simp; omega) | (simp_all [] <;> omega) | ((try unfold id); (rw [Value.bool.injEq, Bool.eq_iff_iff]); simp <;> omega) | ((try unfold id); (repeat' split) <;> simp_all <;> omega) | (simp_all [] <;> (repeat' split) <;> simp_all <;> omega)))); (focus ((try simp only [cond_true, cond_false, set_same, *]); exact (by (first | exact Sub.refl _ | ((repeat (first | exact Sub.refl _ | (refine Sub.drop ?_ ?_; focus (simp only [none_upd, none_set, not_false_eq_true, true_and, and_true, *]; done)) | refine Sub.both ?_)); done))))))
set_option maxRecDepth 100000 in
theorem commit45 {σ : Hp} {m g : Nat} {v : Value} {ws : List Wr} (hm : σ m = none) (hg : σ g = none) (hne : ¬ g = m) (hv : RoRows 3 Wr.cells σ v ws) (hn : ws.length ≤ 140737488355328) :
    ACalls Tryd.prog 45 #[.pointer (some ⟨g, 0, none⟩), v] (upd (upd σ m (.mp [])) g (.cells [.map (some m), .int .i64 1, .int .i64 0] 137)) fun u σ' => u = .tuple #[.int .i64 (cond (decide (checkV ws = 0)) 1 0), .int .i64 (checkV ws)] ∧ σ' = σ := by
  have hne' : ¬ m = g := fun e => hne e.symm
  have hv1 := Hid.mk (hv.sub (σ' := upd (upd σ m (.mp [])) g (.cells [.map (some m), .int .i64 1, .int .i64 0] 137)) (by (first | exact Sub.refl _ | ((repeat (first | exact Sub.refl _ | (refine Sub.drop ?_ ?_; focus (simp only [none_upd, none_set, not_false_eq_true, true_and, and_true, *]; done)) | refine Sub.both ?_)); done))))
  obtain ⟨A, c, rfl, hrow⟩ := hv
  have H := Hid.mk hrow
  clear hrow
  (refine acalls_F ok45 (by simp) ?_; unfold c45 r45; simp (config := { contextual := true, dsimp := false }) only [Wr.cells, ↓reduceIte, ↓evP, evQ, if_true, if_false, eq_self, binv, eqv, lenv, fillO, splice, fldv, Sp.eqa, eqL, eq1, Nat.reduceAdd, Nat.reduceEqDiff, Nat.reduceLeDiff, Nat.reduceMul, reduceCtorEq, Int.reduceLT, Int.reduceLE, Int.reduceGT, Int.reduceGE, Int.reduceEq, Int.reduceNeg])
  (repeat' (first | (refine condF_split (fun hc => ?_) (fun hc => ?_) <;> (try simp only [Bool.not_eq_true', Bool.not_eq_false', Bool.and_eq_true, Bool.or_eq_false_iff] at hc) <;> (try (simp (config := { contextual := true, dsimp := false }) only [*, Wr.cells, ↓reduceIte, ↓evP, evQ, if_true, if_false, eq_self, binv, eqv, lenv, fillO, splice, fldv, Sp.eqa, eqL, eq1, Nat.reduceAdd, Nat.reduceEqDiff, Nat.reduceLeDiff, Nat.reduceMul, reduceCtorEq, Int.reduceLT, Int.reduceLE, Int.reduceGT, Int.reduceGE, Int.reduceEq, Int.reduceNeg]))) | (refine callF_v (check70 hv1.out hn) ?_; (try (simp (config := { contextual := true, dsimp := false }) only [*, Wr.cells, ↓reduceIte, ↓evP, evQ, if_true, if_false, eq_self, binv, eqv, lenv, fillO, splice, fldv, Sp.eqa, eqL, eq1, Nat.reduceAdd, Nat.reduceEqDiff, Nat.reduceLeDiff, Nat.reduceMul, reduceCtorEq, Int.reduceLT, Int.reduceLE, Int.reduceGT, Int.reduceGE, Int.reduceEq, Int.reduceNeg]))) | (refine ccallF_of (check70 hv1.out hn) ?_; (try (simp (config := { contextual := true, dsimp := false }) only [*, Wr.cells, ↓reduceIte, ↓evP, evQ, if_true, if_false, eq_self, binv, eqv, lenv, fillO, splice, fldv, Sp.eqa, eqL, eq1, Nat.reduceAdd, Nat.reduceEqDiff, Nat.reduceLeDiff, Nat.reduceMul, reduceCtorEq, Int.reduceLT, Int.reduceLE, Int.reduceGT, Int.reduceGE, Int.reduceEq, Int.reduceNeg]))) | (refine gcallF_of (check70 hv1.out hn) ?_; (try (simp (config := { contextual := true, dsimp := false }) only [*, Wr.cells, ↓reduceIte, ↓evP, evQ, if_true, if_false, eq_self, binv, eqv, lenv, fillO, splice, fldv, Sp.eqa, eqL, eq1, Nat.reduceAdd, Nat.reduceEqDiff, Nat.reduceLeDiff, Nat.reduceMul, reduceCtorEq, Int.reduceLT, Int.reduceLE, Int.reduceGT, Int.reduceGE, Int.reduceEq, Int.reduceNeg]))) | (intro _; intros) | ((refine And.intro ?_ ?_; focus (first | omega | (first | exact Sub.refl _ | ((repeat (first | exact Sub.refl _ | (refine Sub.drop ?_ ?_; focus (simp only [none_upd, none_set, not_false_eq_true, true_and, and_true, *]; done)) | refine Sub.both ?_)); done)) | ((simp only [decide_eq_true_eq, decide_eq_false_iff_not] at *); omega) | (simp_all; done) | (simp_all; omega))); (try (simp (config := { contextual := true, dsimp := false }) only [*, Wr.cells, ↓reduceIte, ↓evP, evQ, if_true, if_false, eq_self, binv, eqv, lenv, fillO, splice, fldv, Sp.eqa, eqL, eq1, Nat.reduceAdd, Nat.reduceEqDiff, Nat.reduceLeDiff, Nat.reduceMul, reduceCtorEq, Int.reduceLT, Int.reduceLE, Int.reduceGT, Int.reduceGE, Int.reduceEq, Int.reduceNeg])))))
  · exact endF_det (by rw [hc]; rfl) (by (first | exact Sub.refl _ | ((repeat (first | exact Sub.refl _ | (refine Sub.drop ?_ ?_; focus (simp only [none_upd, none_set, not_false_eq_true, true_and, and_true, *]; done)) | refine Sub.both ?_)); done)))
  have hz : chk ws 0 [] false = 0 := by
    have h0 : checkV ws = 0 := of_decide_eq_true hc
    unfold checkV at h0
    cases he : (decide ((ws.length : Int) = 0) || decide ((ws.length : Int) > 8)) <;> rw [he] at h0
    · exact h0
    · exact absurd h0 (by show (1 : Int) ≠ 0; decide)
  have hck := Hid.mk hc
  clear hc
  refine loopF_of (fun k s σ' => ∃ (i : Nat) (l l' : List (ByteArray × Value)), i ≤ ws.length ∧ k = ws.length - i ∧ s 32 = .int .i64 i ∧ s 31 = .int .i64 ws.length ∧ s 30 = .slice A ws.length c ∧ s 0 = .pointer (some ⟨g, 0, none⟩) ∧ σ' = upd (upd σ m (.mp l')) g (.cells [.map (some m), .int .i64 1, .int .i64 1] 137) ∧
    chk (ws.drop i) i l false = 0 ∧ ∀ k, (mget l k).isSome = (mget l' k).isSome) ws.length (Sub.refl _) ⟨0, [], [], by omega, rfl, (by first | rfl | (simp only [↓putO_get, ↓putO_no, init_zero, init_succ, Nat.reduceEqDiff, ↓reduceIte, *]; done) | (simp only [↓putO_get, ↓putO_no, init_zero, init_succ, Nat.reduceEqDiff, ↓reduceIte, *]; rfl)), (by first | rfl | (simp only [↓putO_get, ↓putO_no, init_zero, init_succ, Nat.reduceEqDiff, ↓reduceIte, *]; done) | (simp only [↓putO_get, ↓putO_no, init_zero, init_succ, Nat.reduceEqDiff, ↓reduceIte, *]; rfl)), (by first | rfl | (simp only [↓putO_get, ↓putO_no, init_zero, init_succ, Nat.reduceEqDiff, ↓reduceIte, *]; done) | (simp only [↓putO_get, ↓putO_no, init_zero, init_succ, Nat.reduceEqDiff, ↓reduceIte, *]; rfl)), (by first | rfl | (simp only [↓putO_get, ↓putO_no, init_zero, init_succ, Nat.reduceEqDiff, ↓reduceIte, *]; done) | (simp only [↓putO_get, ↓putO_no, init_zero, init_succ, Nat.reduceEqDiff, ↓reduceIte, *]; rfl)), rfl, hz, fun k => rfl⟩ ?_
  clear hz hv1
  rintro k s σ' ⟨i, l, l', hi, hk, h32, h31, h30, h0, rfl, hz, hll⟩
  rcases Nat.lt_or_ge i ws.length with hlt | hge
  · obtain ⟨w, ho⟩ : ∃ w, ws[i]? = some w := ⟨_, List.getElem?_eq_getElem hlt⟩
    obtain ⟨b, off, rfl, hrd⟩ := H.out i w ho
    have hrd := rdn_sub (σ := upd (upd σ m (.mp l')) g (.cells [.map (some m), .int .i64 1, .int .i64 1] 137)) (by (first | exact Sub.refl _ | ((repeat (first | exact Sub.refl _ | (refine Sub.drop ?_ ?_; focus (simp only [none_upd, none_set, not_false_eq_true, true_and, and_true, *]; done)) | refine Sub.both ?_)); done))) hrd
    have hd : decide ((i : Int) < (ws.length : Int)) = true := by simp; omega
    have hdrop : ws.drop i = w :: ws.drop (i + 1) := by
      rw [List.drop_eq_getElem_cons hlt]
      rw [List.getElem?_eq_getElem hlt] at ho
      cases ho; rfl
    rw [hdrop] at hz
    obtain ⟨hnone, hz'⟩ := chk_zero hz
    have hnone' : mget l' w.key = none := by
      have := hll w.key
      rw [hnone] at this
      cases h : mget l' w.key with
      | none => rfl
      | some x => rw [h] at this; cases this
    have HZ := Hid.mk hz'
    have HL := Hid.mk hll
    clear ho hz hz' hdrop H hnone hll
    simp (config := { contextual := true, dsimp := false }) only [*, Wr.cells, ↓reduceIte, ↓evP, evQ, if_true, if_false, eq_self, binv, eqv, lenv, fillO, splice, fldv, Sp.eqa, eqL, eq1, Nat.reduceAdd, Nat.reduceEqDiff, Nat.reduceLeDiff, Nat.reduceMul, reduceCtorEq, Int.reduceLT, Int.reduceLE, Int.reduceGT, Int.reduceGE, Int.reduceEq, Int.reduceNeg]
    (repeat' (first | (refine condF_split (fun hc => ?_) (fun hc => ?_) <;> (try simp only [Bool.not_eq_true', Bool.not_eq_false', Bool.and_eq_true, Bool.or_eq_false_iff] at hc) <;> (try (simp (config := { contextual := true, dsimp := false }) only [*, Wr.cells, ↓reduceIte, ↓evP, evQ, if_true, if_false, eq_self, binv, eqv, lenv, fillO, splice, fldv, Sp.eqa, eqL, eq1, Nat.reduceAdd, Nat.reduceEqDiff, Nat.reduceLeDiff, Nat.reduceMul, reduceCtorEq, Int.reduceLT, Int.reduceLE, Int.reduceGT, Int.reduceGE, Int.reduceEq, Int.reduceNeg]))) | (refine callF_v (clone71n _) ?_; (try (simp (config := { contextual := true, dsimp := false }) only [*, Wr.cells, ↓reduceIte, ↓evP, evQ, if_true, if_false, eq_self, binv, eqv, lenv, fillO, splice, fldv, Sp.eqa, eqL, eq1, Nat.reduceAdd, Nat.reduceEqDiff, Nat.reduceLeDiff, Nat.reduceMul, reduceCtorEq, Int.reduceLT, Int.reduceLE, Int.reduceGT, Int.reduceGE, Int.reduceEq, Int.reduceNeg]))) | (refine ccallF_of (clone71n _) ?_; (try (simp (config := { contextual := true, dsimp := false }) only [*, Wr.cells, ↓reduceIte, ↓evP, evQ, if_true, if_false, eq_self, binv, eqv, lenv, fillO, splice, fldv, Sp.eqa, eqL, eq1, Nat.reduceAdd, Nat.reduceEqDiff, Nat.reduceLeDiff, Nat.reduceMul, reduceCtorEq, Int.reduceLT, Int.reduceLE, Int.reduceGT, Int.reduceGE, Int.reduceEq, Int.reduceNeg]))) | (refine gcallF_of (clone71n _) ?_; (try (simp (config := { contextual := true, dsimp := false }) only [*, Wr.cells, ↓reduceIte, ↓evP, evQ, if_true, if_false, eq_self, binv, eqv, lenv, fillO, splice, fldv, Sp.eqa, eqL, eq1, Nat.reduceAdd, Nat.reduceEqDiff, Nat.reduceLeDiff, Nat.reduceMul, reduceCtorEq, Int.reduceLT, Int.reduceLE, Int.reduceGT, Int.reduceGE, Int.reduceEq, Int.reduceNeg]))) | (intro _; intros) | ((refine And.intro ?_ ?_; focus (first | omega | (first | exact Sub.refl _ | ((repeat (first | exact Sub.refl _ | (refine Sub.drop ?_ ?_; focus (simp only [none_upd, none_set, not_false_eq_true, true_and, and_true, *]; done)) | refine Sub.both ?_)); done)) | ((simp only [decide_eq_true_eq, decide_eq_false_iff_not] at *); omega) | (simp_all; done) | (simp_all; omega))); (try (simp (config := { contextual := true, dsimp := false }) only [*, Wr.cells, ↓reduceIte, ↓evP, evQ, if_true, if_false, eq_self, binv, eqv, lenv, fillO, splice, fldv, Sp.eqa, eqL, eq1, Nat.reduceAdd, Nat.reduceEqDiff, Nat.reduceLeDiff, Nat.reduceMul, reduceCtorEq, Int.reduceLT, Int.reduceLE, Int.reduceGT, Int.reduceGE, Int.reduceEq, Int.reduceNeg])))))
    refine app_n (by first | (simp only [Nat.reduceMul, Nat.one_mul, Nat.zero_mul, rdn_row, rdn_same, rdn_ne, seg_zero, seg_cons, seg_skip, Option.map_some, not_false_eq_true, *]; done) | (simp only [Nat.reduceMul, Nat.one_mul, Nat.zero_mul, rdn_row, rdn_same, rdn_ne, seg_zero, seg_cons, seg_skip, Option.map_some, not_false_eq_true, *]; exact rfl)) rfl (by omega) (by omega) (by unfold maxLen; omega) ?_
    simp (config := { contextual := true, dsimp := false }) only [*, Wr.cells, ↓reduceIte, ↓evP, evQ, if_true, if_false, eq_self, binv, eqv, lenv, fillO, splice, fldv, Sp.eqa, eqL, eq1, Nat.reduceAdd, Nat.reduceEqDiff, Nat.reduceLeDiff, Nat.reduceMul, reduceCtorEq, Int.reduceLT, Int.reduceLE, Int.reduceGT, Int.reduceGE, Int.reduceEq, Int.reduceNeg]
    (repeat' (first | (refine condF_split (fun hc => ?_) (fun hc => ?_) <;> (try simp only [Bool.not_eq_true', Bool.not_eq_false', Bool.and_eq_true, Bool.or_eq_false_iff] at hc) <;> (try (simp (config := { contextual := true, dsimp := false }) only [*, Wr.cells, ↓reduceIte, ↓evP, evQ, if_true, if_false, eq_self, binv, eqv, lenv, fillO, splice, fldv, Sp.eqa, eqL, eq1, Nat.reduceAdd, Nat.reduceEqDiff, Nat.reduceLeDiff, Nat.reduceMul, reduceCtorEq, Int.reduceLT, Int.reduceLE, Int.reduceGT, Int.reduceGE, Int.reduceEq, Int.reduceNeg]))) | (intro _; intros) | ((refine And.intro ?_ ?_; focus (first | omega | (first | exact Sub.refl _ | ((repeat (first | exact Sub.refl _ | (refine Sub.drop ?_ ?_; focus (simp only [none_upd, none_set, not_false_eq_true, true_and, and_true, *]; done)) | refine Sub.both ?_)); done)) | ((simp only [decide_eq_true_eq, decide_eq_false_iff_not] at *); omega) | (simp_all; done) | (simp_all; omega))); (try (simp (config := { contextual := true, dsimp := false }) only [*, Wr.cells, ↓reduceIte, ↓evP, evQ, if_true, if_false, eq_self, binv, eqv, lenv, fillO, splice, fldv, Sp.eqa, eqL, eq1, Nat.reduceAdd, Nat.reduceEqDiff, Nat.reduceLeDiff, Nat.reduceMul, reduceCtorEq, Int.reduceLT, Int.reduceLE, Int.reduceGT, Int.reduceGE, Int.reduceEq, Int.reduceNeg])))))
    rename_i b' c' x1 x2 x3 x4 x5 x6 x7 x8 x9 x10 x11 x12
    refine nextF_of (σ₁ := upd (upd σ m (.mp (mput l' w.key (.agg #[.slice (some ⟨b', 0, none⟩) 1 c', .bool false])))) g (.cells [.map (some m), .int .i64 1, .int .i64 1] 137)) (ws.length - (i + 1)) (by omega) (by (first | exact Sub.refl _ | ((repeat (first | exact Sub.refl _ | (refine Sub.drop ?_ ?_; focus (simp only [none_upd, none_set, not_false_eq_true, true_and, and_true, *]; done)) | refine Sub.both ?_)); done))) ⟨i + 1, _, _, by omega, rfl, ?_, (by first | rfl | (simp only [↓putO_get, ↓putO_no, init_zero, init_succ, Nat.reduceEqDiff, ↓reduceIte, *]; done) | (simp only [↓putO_get, ↓putO_no, init_zero, init_succ, Nat.reduceEqDiff, ↓reduceIte, *]; rfl)), (by first | rfl | (simp only [↓putO_get, ↓putO_no, init_zero, init_succ, Nat.reduceEqDiff, ↓reduceIte, *]; done) | (simp only [↓putO_get, ↓putO_no, init_zero, init_succ, Nat.reduceEqDiff, ↓reduceIte, *]; rfl)), (by first | rfl | (simp only [↓putO_get, ↓putO_no, init_zero, init_succ, Nat.reduceEqDiff, ↓reduceIte, *]; done) | (simp only [↓putO_get, ↓putO_no, init_zero, init_succ, Nat.reduceEqDiff, ↓reduceIte, *]; rfl)), rfl, HZ.out, ?_⟩
    · show Value.int .i64 (IntKind.i64.wrap _) = _; rw [wi64 (by omega)]; rfl
    · intro k; rw [mget_mput, mget_mput, HL.out]
  · have hd : decide ((i : Int) < (ws.length : Int)) = false := by simp; omega
    clear hz hll
    simp (config := { contextual := true, dsimp := false }) only [*, Wr.cells, ↓reduceIte, ↓evP, evQ, if_true, if_false, eq_self, binv, eqv, lenv, fillO, splice, fldv, Sp.eqa, eqL, eq1, Nat.reduceAdd, Nat.reduceEqDiff, Nat.reduceLeDiff, Nat.reduceMul, reduceCtorEq, Int.reduceLT, Int.reduceLE, Int.reduceGT, Int.reduceGE, Int.reduceEq, Int.reduceNeg]
    exact endF_det (by rw [hck.out]; first | rfl | simp [of_decide_eq_true hck.out]) (by (first | exact Sub.refl _ | ((repeat (first | exact Sub.refl _ | (refine Sub.drop ?_ ?_; focus (simp only [none_upd, none_set, not_false_eq_true, true_and, and_true, *]; done)) | refine Sub.both ?_)); done)))
end Go.Proofs.YtaoafjlocjjbbaaDoor
