/- The reference's check of writes. -/
import Derived.Test.YtaoafjlocjjbbaaDoorC25
namespace Go.Proofs.YtaoafjlocjjbbaaDoor
open Go.Sp
set_option linter.unusedSimpArgs false
set_option linter.unusedVariables false
def dupl : Nat → List (ByteArray × Value) → List Wr → Bool
  | _, _, [] => false
  | i, l, w :: r => (mget l w.key).isSome || dupl (i + 1) (mput l w.key (.int .i64 i)) r
theorem chk_good : ∀ (ws : List Wr) (i : Nat) (l : List (ByteArray × Value)) (tw : Bool), (∀ w ∈ ws, goodW w = true) → chk ws i l tw = cond (tw || dupl i l ws) 22 0
  | [], i, l, tw, _ => by unfold chk dupl; rw [Bool.or_false]
  | w :: r, i, l, tw, h => by
    unfold chk dupl
    rw [h w (by simp), cond_true, chk_good r _ _ _ (fun x hx => h x (by simp [hx])), Bool.or_assoc]
theorem chk_bad : ∀ (ws : List Wr) (i : Nat) (l : List (ByteArray × Value)) (tw : Bool), (∃ w ∈ ws, goodW w = false) → chk ws i l tw = 1
  | [], i, l, tw, h => by obtain ⟨w, hw, _⟩ := h; cases hw
  | w :: r, i, l, tw, h => by
    unfold chk
    cases hg : goodW w with
    | false => rfl
    | true =>
      rw [cond_true]
      refine chk_bad r _ _ _ ?_
      obtain ⟨x, hx, hb⟩ := h
      rcases List.mem_cons.1 hx with e | e
      · subst e; rw [hg] at hb; cases hb
      · exact ⟨x, e, hb⟩
theorem dupl_false : ∀ (ws : List Wr) (i : Nat) (l : List (ByteArray × Value)), dupl i l ws = false ↔ (∀ w ∈ ws, (mget l w.key).isSome = false) ∧ ws.Pairwise (fun x y => x.key ≠ y.key)
  | [], i, l => by simp [dupl]
  | w :: r, i, l => by
    unfold dupl
    rw [Bool.or_eq_false_iff, dupl_false r, List.pairwise_cons]
    constructor
    · rintro ⟨h1, h2, h3⟩
      refine ⟨fun x hx => ?_, fun x hx => ?_, h3⟩
      · rcases List.mem_cons.1 hx with e | e
        · subst e; exact h1
        · have := h2 x e; rw [mget_mput, Bool.or_eq_false_iff] at this; exact this.2
      · have := h2 x hx; rw [mget_mput, Bool.or_eq_false_iff] at this; exact fun e => (of_decide_eq_false this.1) e.symm
    · rintro ⟨h1, h2, h3⟩
      refine ⟨h1 w (by simp), fun x hx => ?_, h3⟩
      rw [mget_mput, Bool.or_eq_false_iff]
      exact ⟨decide_eq_false fun e => h2 x hx e.symm, h1 x (by simp [hx])⟩
theorem checkV_len {ws : List Wr} (h : ws.length < 1 ∨ 8 < ws.length) : checkV ws = 1 := by
  unfold checkV
  have : (decide ((ws.length : Int) = 0) || decide ((ws.length : Int) > 8)) = true := by simp only [Bool.or_eq_true, decide_eq_true_eq]; omega
  rw [this]; rfl
theorem checkV_in {ws : List Wr} (h : ¬ (ws.length < 1 ∨ 8 < ws.length)) : checkV ws = chk ws 0 [] false := by
  unfold checkV
  have : (decide ((ws.length : Int) = 0) || decide ((ws.length : Int) > 8)) = false := by simp only [Bool.or_eq_false_iff, decide_eq_false_iff_not]; omega
  rw [this]; rfl
theorem checkV_dup {ws : List Wr} (h : ¬ (ws.length < 1 ∨ 8 < ws.length)) (hg : ∀ w ∈ ws, goodW w = true) {a b : Nat} {x y : Wr} (hab : a < b) (hx : ws[a]? = some x) (hy : ws[b]? = some y) (he : x.key = y.key) : checkV ws = 22 := by
  rw [checkV_in h, chk_good _ _ _ _ hg]
  cases hd : dupl 0 [] ws with
  | true => rfl
  | false =>
    have hp := ((dupl_false _ _ _).1 hd).2
    rw [List.pairwise_iff_getElem] at hp
    obtain ⟨ha, rfl⟩ := List.getElem?_eq_some_iff.1 hx
    obtain ⟨hb, rfl⟩ := List.getElem?_eq_some_iff.1 hy
    exact absurd he (hp a b ha hb hab)
theorem checkV_ok {ws : List Wr} (h : ¬ (ws.length < 1 ∨ 8 < ws.length)) (hg : ∀ w ∈ ws, goodW w = true) (hp : ∀ (a b : Nat) (x y : Wr), a < b → ws[a]? = some x → ws[b]? = some y → x.key ≠ y.key) : checkV ws = 0 := by
  rw [checkV_in h, chk_good _ _ _ _ hg, (dupl_false ws 0 []).2 ⟨fun w _ => rfl, ?_⟩]
  · rfl
  · rw [List.pairwise_iff_getElem]
    exact fun a b ha hb hab => hp a b _ _ hab (List.getElem?_eq_getElem ha) (List.getElem?_eq_getElem hb)
theorem ro_wr {σ : Hp} {A : Option Addr} {n c : Nat} {ws : List Wr} (h : RoRows 3 Wr.cells σ (.slice A n c) ws) {i : Nat} (hi : i < ws.length) : ∃ b o, A = some ⟨b, o, none⟩ ∧ rd σ b (o + i * 3) = some (.string ws[i].key) ∧ rdn σ b (o + i * 3 + 1) 2 = some [.bool ws[i].has, .string ws[i].data] := by
  obtain ⟨b, o, e, h⟩ := h.get hi
  refine ⟨b, o, e, ?_, rdn_part h 1 2 (by omega)⟩
  have := rd_part h 0 (v := .string ws[i].key) rfl
  simpa using this
set_option maxHeartbeats 1000000 in
theorem check75 {σ : Hp} {v : Value} {ws : List Wr} (hv : RoRows 3 Wr.cells σ v ws) (hn : ws.length ≤ 140737488355328) : ACalls Tryd.prog 75 #[v] σ fun u σ' => u = .int .i64 (checkV ws) ∧ σ' = σ := by
  have H := Hid.mk hv
  obtain ⟨A, c, rfl, _⟩ := hv
  (refine acalls_F ok75 (by simp) ?_; unfold c75 r75; simp (config := { contextual := true, dsimp := false }) only [Wr.cells, ↓reduceIte, ↓evP, evQ, if_true, if_false, eq_self, binv, eqv, lenv, fillO, splice, fldv, Sp.eqa, eqL, eq1, Nat.reduceAdd, Nat.reduceEqDiff, Nat.reduceLeDiff, Nat.reduceMul, reduceCtorEq, Int.reduceLT, Int.reduceLE, Int.reduceGT, Int.reduceGE, Int.reduceEq, Int.reduceNeg])
  (repeat' (first | (refine condF_split (fun hc => ?_) (fun hc => ?_) <;> (try simp only [Bool.not_eq_true', Bool.not_eq_false', Bool.and_eq_true, Bool.or_eq_false_iff] at hc) <;> (try (simp (config := { contextual := true, dsimp := false }) only [*, Wr.cells, ↓reduceIte, ↓evP, evQ, if_true, if_false, eq_self, binv, eqv, lenv, fillO, splice, fldv, Sp.eqa, eqL, eq1, Nat.reduceAdd, Nat.reduceEqDiff, Nat.reduceLeDiff, Nat.reduceMul, reduceCtorEq, Int.reduceLT, Int.reduceLE, Int.reduceGT, Int.reduceGE, Int.reduceEq, Int.reduceNeg]))) | (intro _; intros) | ((refine And.intro ?_ ?_; focus (first | omega | (first | exact Sub.refl _ | ((repeat (first | exact Sub.refl _ | (refine Sub.drop ?_ ?_; focus (simp only [none_upd, none_set, not_false_eq_true, true_and, and_true, *]; done)) | refine Sub.both ?_)); done)) | ((simp only [decide_eq_true_eq, decide_eq_false_iff_not] at *); omega) | (simp_all; done) | (simp_all; omega))); (try (simp (config := { contextual := true, dsimp := false }) only [*, Wr.cells, ↓reduceIte, ↓evP, evQ, if_true, if_false, eq_self, binv, eqv, lenv, fillO, splice, fldv, Sp.eqa, eqL, eq1, Nat.reduceAdd, Nat.reduceEqDiff, Nat.reduceLeDiff, Nat.reduceMul, reduceCtorEq, Int.reduceLT, Int.reduceLE, Int.reduceGT, Int.reduceGE, Int.reduceEq, Int.reduceNeg])))))
  · have hc := of_decide_eq_true ‹decide ((ws.length : Int) < 1) = true›
    exact endF_det (by rw [checkV_len (.inl (by omega))]) (Sub.refl _)
  · have hc := of_decide_eq_true ‹decide ((ws.length : Int) > 8) = true›
    exact endF_det (by rw [checkV_len (.inr (by omega))]) (Sub.refl _)
  have hlen : ¬ (ws.length < 1 ∨ 8 < ws.length) := by
    have h1 := of_decide_eq_false ‹decide ((ws.length : Int) < 1) = false›
    have h2 := of_decide_eq_false ‹decide ((ws.length : Int) > 8) = false›
    omega
  have HL := Hid.mk hlen
  clear hlen
  refine loopF_of (fun k s σ' => ∃ i : Nat, i ≤ ws.length ∧ k = ws.length - i ∧ s 0 = .slice A ws.length c ∧ s 3 = .int .i64 i ∧ σ' = σ ∧ ∀ j x, j < i → ws[j]? = some x → goodW x = true) ws.length (Sub.refl _) ⟨0, by omega, rfl, (by first | rfl | (simp only [↓putO_get, ↓putO_no, init_zero, init_succ, Nat.reduceEqDiff, ↓reduceIte, *]; done) | (simp only [↓putO_get, ↓putO_no, init_zero, init_succ, Nat.reduceEqDiff, ↓reduceIte, *]; rfl)), (by first | rfl | (simp only [↓putO_get, ↓putO_no, init_zero, init_succ, Nat.reduceEqDiff, ↓reduceIte, *]; done) | (simp only [↓putO_get, ↓putO_no, init_zero, init_succ, Nat.reduceEqDiff, ↓reduceIte, *]; rfl)), rfl, fun j x hj => by omega⟩ ?_
  rintro k s σ' ⟨i, hi, rfl, s0, s3, rfl, hg⟩
  have HG := Hid.mk hg
  clear hg
  rcases Nat.lt_or_ge i ws.length with hlt | hge
  · have hd : decide ((i : Int) < (ws.length : Int)) = true := by simp; omega
    obtain ⟨b1, o1, rfl, r1, r2⟩ := ro_wr H.out hlt
    have HX := Hid.mk (And.intro (List.getElem?_eq_getElem hlt) (goodW_eq ws[i]))
    have hlt3 : i + 1 ≤ ws.length := hlt
    generalize ws[i] = x at *
    clear hlt
    simp (config := { contextual := true, dsimp := false }) only [*, Wr.cells, ↓reduceIte, ↓evP, evQ, if_true, if_false, eq_self, binv, eqv, lenv, fillO, splice, fldv, Sp.eqa, eqL, eq1, Nat.reduceAdd, Nat.reduceEqDiff, Nat.reduceLeDiff, Nat.reduceMul, reduceCtorEq, Int.reduceLT, Int.reduceLE, Int.reduceGT, Int.reduceGE, Int.reduceEq, Int.reduceNeg]
    (repeat' (first | (refine condF_split (fun hc => ?_) (fun hc => ?_) <;> (try simp only [Bool.not_eq_true', Bool.not_eq_false', Bool.and_eq_true, Bool.or_eq_false_iff] at hc) <;> (try (simp (config := { contextual := true, dsimp := false }) only [*, Wr.cells, ↓reduceIte, ↓evP, evQ, if_true, if_false, eq_self, binv, eqv, lenv, fillO, splice, fldv, Sp.eqa, eqL, eq1, Nat.reduceAdd, Nat.reduceEqDiff, Nat.reduceLeDiff, Nat.reduceMul, reduceCtorEq, Int.reduceLT, Int.reduceLE, Int.reduceGT, Int.reduceGE, Int.reduceEq, Int.reduceNeg]))) | (refine callF_v (goodKey95 _ _) ?_; (try (simp (config := { contextual := true, dsimp := false }) only [*, Wr.cells, ↓reduceIte, ↓evP, evQ, if_true, if_false, eq_self, binv, eqv, lenv, fillO, splice, fldv, Sp.eqa, eqL, eq1, Nat.reduceAdd, Nat.reduceEqDiff, Nat.reduceLeDiff, Nat.reduceMul, reduceCtorEq, Int.reduceLT, Int.reduceLE, Int.reduceGT, Int.reduceGE, Int.reduceEq, Int.reduceNeg]))) | (refine callF_v (goodValue96 _ _ _) ?_; (try (simp (config := { contextual := true, dsimp := false }) only [*, Wr.cells, ↓reduceIte, ↓evP, evQ, if_true, if_false, eq_self, binv, eqv, lenv, fillO, splice, fldv, Sp.eqa, eqL, eq1, Nat.reduceAdd, Nat.reduceEqDiff, Nat.reduceLeDiff, Nat.reduceMul, reduceCtorEq, Int.reduceLT, Int.reduceLE, Int.reduceGT, Int.reduceGE, Int.reduceEq, Int.reduceNeg]))) | (refine ccallF_of (goodKey95 _ _) ?_; (try (simp (config := { contextual := true, dsimp := false }) only [*, Wr.cells, ↓reduceIte, ↓evP, evQ, if_true, if_false, eq_self, binv, eqv, lenv, fillO, splice, fldv, Sp.eqa, eqL, eq1, Nat.reduceAdd, Nat.reduceEqDiff, Nat.reduceLeDiff, Nat.reduceMul, reduceCtorEq, Int.reduceLT, Int.reduceLE, Int.reduceGT, Int.reduceGE, Int.reduceEq, Int.reduceNeg]))) | (refine ccallF_of (goodValue96 _ _ _) ?_; (try (simp (config := { contextual := true, dsimp := false }) only [*, Wr.cells, ↓reduceIte, ↓evP, evQ, if_true, if_false, eq_self, binv, eqv, lenv, fillO, splice, fldv, Sp.eqa, eqL, eq1, Nat.reduceAdd, Nat.reduceEqDiff, Nat.reduceLeDiff, Nat.reduceMul, reduceCtorEq, Int.reduceLT, Int.reduceLE, Int.reduceGT, Int.reduceGE, Int.reduceEq, Int.reduceNeg]))) | (refine gcallF_of (goodKey95 _ _) ?_; (try (simp (config := { contextual := true, dsimp := false }) only [*, Wr.cells, ↓reduceIte, ↓evP, evQ, if_true, if_false, eq_self, binv, eqv, lenv, fillO, splice, fldv, Sp.eqa, eqL, eq1, Nat.reduceAdd, Nat.reduceEqDiff, Nat.reduceLeDiff, Nat.reduceMul, reduceCtorEq, Int.reduceLT, Int.reduceLE, Int.reduceGT, Int.reduceGE, Int.reduceEq, Int.reduceNeg]))) | (refine gcallF_of (goodValue96 _ _ _) ?_; (try (simp (config := { contextual := true, dsimp := false }) only [*, Wr.cells, ↓reduceIte, ↓evP, evQ, if_true, if_false, eq_self, binv, eqv, lenv, fillO, splice, fldv, Sp.eqa, eqL, eq1, Nat.reduceAdd, Nat.reduceEqDiff, Nat.reduceLeDiff, Nat.reduceMul, reduceCtorEq, Int.reduceLT, Int.reduceLE, Int.reduceGT, Int.reduceGE, Int.reduceEq, Int.reduceNeg]))) | (intro _; intros) | ((refine And.intro ?_ ?_; focus (first | omega | (first | exact Sub.refl _ | ((repeat (first | exact Sub.refl _ | (refine Sub.drop ?_ ?_; focus (simp only [none_upd, none_set, not_false_eq_true, true_and, and_true, *]; done)) | refine Sub.both ?_)); done)) | ((simp only [decide_eq_true_eq, decide_eq_false_iff_not] at *); omega) | (simp_all; done) | (simp_all; omega))); (try (simp (config := { contextual := true, dsimp := false }) only [*, Wr.cells, ↓reduceIte, ↓evP, evQ, if_true, if_false, eq_self, binv, eqv, lenv, fillO, splice, fldv, Sp.eqa, eqL, eq1, Nat.reduceAdd, Nat.reduceEqDiff, Nat.reduceLeDiff, Nat.reduceMul, reduceCtorEq, Int.reduceLT, Int.reduceLE, Int.reduceGT, Int.reduceGE, Int.reduceEq, Int.reduceNeg])))))
    · have hb : goodW x = false := by rw [HX.out.2, ‹goodK x.key = false›]; rfl
      exact endF_det (by rw [checkV_in HL.out, chk_bad _ _ _ _ ⟨x, List.mem_of_getElem? HX.out.1, hb⟩]) (Sub.refl _)
    · have hb : goodW x = false := by rw [HX.out.2, ‹goodK x.key = true›, ‹goodV x.has x.data = false›]; rfl
      exact endF_det (by rw [checkV_in HL.out, chk_bad _ _ _ _ ⟨x, List.mem_of_getElem? HX.out.1, hb⟩]) (Sub.refl _)
    · have hb : goodW x = true := by rw [HX.out.2, ‹goodK x.key = true›, ‹goodV x.has x.data = true›]; rfl
      refine nextF_of (σ₁ := σ') (ws.length - (i + 1)) (by omega) (Sub.refl _) ⟨i + 1, by omega, rfl, (by first | rfl | (simp only [↓putO_get, ↓putO_no, init_zero, init_succ, Nat.reduceEqDiff, ↓reduceIte, *]; done) | (simp only [↓putO_get, ↓putO_no, init_zero, init_succ, Nat.reduceEqDiff, ↓reduceIte, *]; rfl)), ?_, rfl, fun j y hj hy => ?_⟩
      · show Value.int .i64 (IntKind.i64.wrap _) = _; rw [wi64 (by omega)]; rfl
      · rcases Nat.lt_or_ge j i with h | h
        · exact HG.out j y h hy
        · obtain rfl : j = i := by omega
          rw [HX.out.1] at hy; cases hy; exact hb
  have hd : decide ((i : Int) < (ws.length : Int)) = false := by simp; omega
  simp (config := { contextual := true, dsimp := false }) only [*, Wr.cells, ↓reduceIte, ↓evP, evQ, if_true, if_false, eq_self, binv, eqv, lenv, fillO, splice, fldv, Sp.eqa, eqL, eq1, Nat.reduceAdd, Nat.reduceEqDiff, Nat.reduceLeDiff, Nat.reduceMul, reduceCtorEq, Int.reduceLT, Int.reduceLE, Int.reduceGT, Int.reduceGE, Int.reduceEq, Int.reduceNeg]
  have hall : ∀ w ∈ ws, goodW w = true := fun w hw => by
    obtain ⟨j, hj, rfl⟩ := List.getElem_of_mem hw
    exact HG.out j _ (by omega) (List.getElem?_eq_getElem hj)
  have HA := Hid.mk hall
  clear hall hd HG
  refine loopF_of (fun k s σ'' => ∃ i : Nat, i ≤ ws.length ∧ k = ws.length - i ∧ s 0 = .slice A ws.length c ∧ s 4 = .int .i64 i ∧ σ'' = σ' ∧ ∀ a b x y, a < b → b < i → ws[a]? = some x → ws[b]? = some y → x.key ≠ y.key) ws.length (Sub.refl _) ⟨0, by omega, rfl, (by first | rfl | (simp only [↓putO_get, ↓putO_no, init_zero, init_succ, Nat.reduceEqDiff, ↓reduceIte, *]; done) | (simp only [↓putO_get, ↓putO_no, init_zero, init_succ, Nat.reduceEqDiff, ↓reduceIte, *]; rfl)), (by first | rfl | (simp only [↓putO_get, ↓putO_no, init_zero, init_succ, Nat.reduceEqDiff, ↓reduceIte, *]; done) | (simp only [↓putO_get, ↓putO_no, init_zero, init_succ, Nat.reduceEqDiff, ↓reduceIte, *]; rfl)), rfl, fun a b x y hab hb => by omega⟩ ?_
  clear hge hi s0 s3 i s
  rintro k s σ' ⟨i, hi, rfl, s0, s4, rfl, hp⟩
  have HP := Hid.mk hp
  clear hp
  rcases Nat.lt_or_ge i ws.length with hlt | hge
  · have hd : decide ((i : Int) < (ws.length : Int)) = true := by simp; omega
    simp (config := { contextual := true, dsimp := false }) only [*, Wr.cells, ↓reduceIte, ↓evP, evQ, if_true, if_false, eq_self, binv, eqv, lenv, fillO, splice, fldv, Sp.eqa, eqL, eq1, Nat.reduceAdd, Nat.reduceEqDiff, Nat.reduceLeDiff, Nat.reduceMul, reduceCtorEq, Int.reduceLT, Int.reduceLE, Int.reduceGT, Int.reduceGE, Int.reduceEq, Int.reduceNeg]
    refine loopF_of (fun k s σ'' => ∃ j : Nat, j ≤ i ∧ k = i - j ∧ s 0 = .slice A ws.length c ∧ s 4 = .int .i64 i ∧ s 5 = .int .i64 j ∧ σ'' = σ' ∧ ∀ a x y, a < j → ws[a]? = some x → ws[i]? = some y → x.key ≠ y.key) i (Sub.refl _) ⟨0, by omega, rfl, (by first | rfl | (simp only [↓putO_get, ↓putO_no, init_zero, init_succ, Nat.reduceEqDiff, ↓reduceIte, *]; done) | (simp only [↓putO_get, ↓putO_no, init_zero, init_succ, Nat.reduceEqDiff, ↓reduceIte, *]; rfl)), (by first | rfl | (simp only [↓putO_get, ↓putO_no, init_zero, init_succ, Nat.reduceEqDiff, ↓reduceIte, *]; done) | (simp only [↓putO_get, ↓putO_no, init_zero, init_succ, Nat.reduceEqDiff, ↓reduceIte, *]; rfl)), (by first | rfl | (simp only [↓putO_get, ↓putO_no, init_zero, init_succ, Nat.reduceEqDiff, ↓reduceIte, *]; done) | (simp only [↓putO_get, ↓putO_no, init_zero, init_succ, Nat.reduceEqDiff, ↓reduceIte, *]; rfl)), rfl, fun a x y ha => by omega⟩ ?_
    clear s0 s4 s hd
    rintro k s σ' ⟨j, hj, rfl, s0, s4, s5, rfl, hq⟩
    have HQ := Hid.mk hq
    clear hq
    rcases Nat.lt_or_ge j i with hji | hji
    · have hd : decide ((j : Int) < (i : Int)) = true := by simp; omega
      have hjl : j < ws.length := by omega
      obtain ⟨b1, o1, rfl, r1, _⟩ := ro_wr H.out hlt
      obtain ⟨b2, o2, e, r2, _⟩ := ro_wr H.out hjl
      cases e
      have HX := Hid.mk (And.intro (List.getElem?_eq_getElem hlt) (List.getElem?_eq_getElem hjl))
      have hlt3 : i + 1 ≤ ws.length := hlt
      generalize ws[i] = x at *
      generalize ws[j] = y at *
      clear hlt hjl
      simp (config := { contextual := true, dsimp := false }) only [*, Wr.cells, ↓reduceIte, ↓evP, evQ, if_true, if_false, eq_self, binv, eqv, lenv, fillO, splice, fldv, Sp.eqa, eqL, eq1, Nat.reduceAdd, Nat.reduceEqDiff, Nat.reduceLeDiff, Nat.reduceMul, reduceCtorEq, Int.reduceLT, Int.reduceLE, Int.reduceGT, Int.reduceGE, Int.reduceEq, Int.reduceNeg]
      (repeat' (first | (refine condF_split (fun hc => ?_) (fun hc => ?_) <;> (try simp only [Bool.not_eq_true', Bool.not_eq_false', Bool.and_eq_true, Bool.or_eq_false_iff] at hc) <;> (try (simp (config := { contextual := true, dsimp := false }) only [*, Wr.cells, ↓reduceIte, ↓evP, evQ, if_true, if_false, eq_self, binv, eqv, lenv, fillO, splice, fldv, Sp.eqa, eqL, eq1, Nat.reduceAdd, Nat.reduceEqDiff, Nat.reduceLeDiff, Nat.reduceMul, reduceCtorEq, Int.reduceLT, Int.reduceLE, Int.reduceGT, Int.reduceGE, Int.reduceEq, Int.reduceNeg]))) | (intro _; intros) | ((refine And.intro ?_ ?_; focus (first | omega | (first | exact Sub.refl _ | ((repeat (first | exact Sub.refl _ | (refine Sub.drop ?_ ?_; focus (simp only [none_upd, none_set, not_false_eq_true, true_and, and_true, *]; done)) | refine Sub.both ?_)); done)) | ((simp only [decide_eq_true_eq, decide_eq_false_iff_not] at *); omega) | (simp_all; done) | (simp_all; omega))); (try (simp (config := { contextual := true, dsimp := false }) only [*, Wr.cells, ↓reduceIte, ↓evP, evQ, if_true, if_false, eq_self, binv, eqv, lenv, fillO, splice, fldv, Sp.eqa, eqL, eq1, Nat.reduceAdd, Nat.reduceEqDiff, Nat.reduceLeDiff, Nat.reduceMul, reduceCtorEq, Int.reduceLT, Int.reduceLE, Int.reduceGT, Int.reduceGE, Int.reduceEq, Int.reduceNeg])))))
      · exact endF_det (by rw [checkV_dup HL.out HA.out hji HX.out.2 HX.out.1 (of_decide_eq_true ‹decide (y.key = x.key) = true›)]) (Sub.refl _)
      · refine nextF_of (σ₁ := σ') (i - (j + 1)) (by omega) (Sub.refl _) ⟨j + 1, by omega, rfl, (by first | rfl | (simp only [↓putO_get, ↓putO_no, init_zero, init_succ, Nat.reduceEqDiff, ↓reduceIte, *]; done) | (simp only [↓putO_get, ↓putO_no, init_zero, init_succ, Nat.reduceEqDiff, ↓reduceIte, *]; rfl)), (by first | rfl | (simp only [↓putO_get, ↓putO_no, init_zero, init_succ, Nat.reduceEqDiff, ↓reduceIte, *]; done) | (simp only [↓putO_get, ↓putO_no, init_zero, init_succ, Nat.reduceEqDiff, ↓reduceIte, *]; rfl)), ?_, rfl, fun a x' y' ha hx hy => ?_⟩
        · show Value.int .i64 (IntKind.i64.wrap _) = _; rw [wi64 (by omega)]; rfl
        · rcases Nat.lt_or_ge a j with h | h
          · exact HQ.out a x' y' h hx hy
          · obtain rfl : a = j := by omega
            rw [HX.out.2] at hx; rw [HX.out.1] at hy
            cases hx; cases hy
            exact of_decide_eq_false ‹decide (y.key = x.key) = false›
    · have hd : decide ((j : Int) < (i : Int)) = false := by simp; omega
      simp (config := { contextual := true, dsimp := false }) only [*, Wr.cells, ↓reduceIte, ↓evP, evQ, if_true, if_false, eq_self, binv, eqv, lenv, fillO, splice, fldv, Sp.eqa, eqL, eq1, Nat.reduceAdd, Nat.reduceEqDiff, Nat.reduceLeDiff, Nat.reduceMul, reduceCtorEq, Int.reduceLT, Int.reduceLE, Int.reduceGT, Int.reduceGE, Int.reduceEq, Int.reduceNeg]
      refine nextF_of (σ₁ := σ') (ws.length - (i + 1)) (by omega) (Sub.refl _) ⟨i + 1, by omega, rfl, (by first | rfl | (simp only [↓putO_get, ↓putO_no, init_zero, init_succ, Nat.reduceEqDiff, ↓reduceIte, *]; done) | (simp only [↓putO_get, ↓putO_no, init_zero, init_succ, Nat.reduceEqDiff, ↓reduceIte, *]; rfl)), ?_, rfl, fun a b x y hab hb hx hy => ?_⟩
      · show Value.int .i64 (IntKind.i64.wrap _) = _; rw [wi64 (by omega)]; rfl
      · rcases Nat.lt_or_ge b i with h | h
        · exact HP.out a b x y hab h hx hy
        · obtain rfl : b = i := by omega
          exact HQ.out a x y (by omega) hx hy
  · have hd : decide ((i : Int) < (ws.length : Int)) = false := by simp; omega
    simp (config := { contextual := true, dsimp := false }) only [*, Wr.cells, ↓reduceIte, ↓evP, evQ, if_true, if_false, eq_self, binv, eqv, lenv, fillO, splice, fldv, Sp.eqa, eqL, eq1, Nat.reduceAdd, Nat.reduceEqDiff, Nat.reduceLeDiff, Nat.reduceMul, reduceCtorEq, Int.reduceLT, Int.reduceLE, Int.reduceGT, Int.reduceGE, Int.reduceEq, Int.reduceNeg]
    refine endF_det ?_ (Sub.refl _)
    rw [checkV_ok HL.out HA.out (fun a b x y hab hx hy => HP.out a b x y hab (by have := (List.getElem?_eq_some_iff.1 hy).1; omega) hx hy)]
end Go.Proofs.YtaoafjlocjjbbaaDoor
