/- A ring of marks: commits noted, marks read. -/
import Derived.Test.YtpnghjmphbhkjaaX25
namespace Go.Proofs.Ytpnghjmphbhkjaa
open Go.Sp
set_option linter.unusedSimpArgs false
set_option linter.unusedVariables false
def noteM (C n : Nat) (S : List Mk × Nat) (ks : List ByteArray) : List Mk × Nat := ks.foldl (fun S k => pushM C S.1 S.2 ⟨n, k⟩) S
theorem pRec_9 (cs : List Value) (r : Nat) : ¬ pRec (.row cs r 9) := by
  rintro (h | h)
  · exact h.elim
  · exact absurd (show (9 : Nat) = 130 from h) (by decide)
set_option maxHeartbeats 1000000 in
theorem note20 {σ : Hp} {g b C : Nat} {M : List Mk} {since last : Nat} (h : RecAt σ g b C M since last) (n : Nat) {kv : Value} {ks : List ByteArray} (hk : RowsAt 9 1 sC σ kv ks) (hk8 : ks.length ≤ 8) (hC : C ≤ 255) (hn : last < n) (hm : n ≤ 1048576) :
    ACalls Try.prog 20 #[.pointer (some ⟨g, 0, none⟩), .int .i64 (n : Nat), kv] σ fun u σ' => u = .bool true ∧ RecAt σ' g b C (noteM C n (M, since) ks).1 (noteM C n (M, since) ks).2 n ∧ KSame pRec σ σ' := by
  obtain ⟨R, f, h1, h2, h3⟩ := h.st
  clear h
  have hgb : ¬ g = b := fun e => by rw [← e, h1] at h2; cases h2
  have hbg : ¬ b = g := fun e => hgb e.symm
  have d1 : decide ((n : Int) ≤ (last : Int)) = false := by simp; omega
  have d2 : decide ((n : Int) > 1099511627776) = false := by simp; omega
  obtain ⟨A, kc, rfl⟩ := hk.slice
  have HK := Hid.mk hk
  have H3 := Hid.mk h3
  clear hk h3
  obtain ⟨τ, hτ⟩ := open_2 h1 h2 hgb
  have H12 := Hid.mk (And.intro h1 h2)
  clear h1 h2
  rw [hτ]
  (refine acalls_F ok20 (by simp) ?_; unfold c20 r20)
  (repeat' (first | (simp +contextual -dsimp only [*, ↓reduceIte, ↓evP, evQ, splice_nil, splice_zero, splice_skip, Nat.reduceAdd, Nat.reduceEqDiff, Nat.reduceLeDiff, Nat.reduceMul, reduceCtorEq, Int.reduceLT, Int.reduceLE, Int.reduceGT, Int.reduceGE, Int.reduceEq, Int.reduceNeg]) | (refine condF_split (fun hc => ?_) (fun hc => ?_) <;> (try simp only [Bool.not_eq_true', Bool.not_eq_false', Bool.and_eq_true, Bool.or_eq_false_iff] at hc)) | (intro _; intros) | (refine And.intro ?_ ?_; focus (first | omega | ((repeat (first | exact Sub.refl _ | (refine Sub.drop ?_ ?_; focus (simp only [evN, *]; done)) | refine Sub.both ?_)); done) | (simp_all; done) | (simp_all; omega)))))
  have f1 : KSame pRec σ (upd (upd τ b (.row (R.flatMap Mk.cells) (C * 2) 130)) g (.cells [.slice (some ⟨b, 0, none⟩) C C, .int .i64 (f : Nat), .int .i64 (M.length : Nat), .int .i64 (since : Nat), .int .i64 (n : Nat)] 125)) := by
    rw [hτ]; exact (KSame.refl _ _).both (.inl rfl) _
  have f2 : RecAt (upd (upd τ b (.row (R.flatMap Mk.cells) (C * 2) 130)) g (.cells [.slice (some ⟨b, 0, none⟩) C C, .int .i64 (f : Nat), .int .i64 (M.length : Nat), .int .i64 (since : Nat), .int .i64 (n : Nat)] 125)) g b C M since n := ⟨R, f, upd_same _ _ _, by rw [upd_ne _ _ hbg, upd_same], H3.out⟩
  rw [← hτ]
  clear hτ
  refine loopF_of (fun k s σ' => ∃ (i : Nat), i ≤ ks.length ∧ k = ks.length - i ∧ s 29 = .int .i64 i ∧ s 28 = .int .i64 (ks.length : Nat) ∧ s 27 = .slice A ks.length kc ∧ s 0 = .pointer (some ⟨g, 0, none⟩) ∧ s 1 = .int .i64 (n : Nat) ∧
    RecAt σ' g b C (noteM C n (M, since) (ks.take i)).1 (noteM C n (M, since) (ks.take i)).2 n ∧ KSame pRec σ σ') ks.length (Sub.refl _)
    ⟨0, by omega, rfl, (by first | rfl | (simp only [↓putO_get, ↓putO_no, init_zero, init_succ, Nat.reduceEqDiff, ↓reduceIte, *]; done) | (simp only [↓putO_get, ↓putO_no, init_zero, init_succ, Nat.reduceEqDiff, ↓reduceIte, *]; rfl)), (by first | rfl | (simp only [↓putO_get, ↓putO_no, init_zero, init_succ, Nat.reduceEqDiff, ↓reduceIte, *]; done) | (simp only [↓putO_get, ↓putO_no, init_zero, init_succ, Nat.reduceEqDiff, ↓reduceIte, *]; rfl)), (by first | rfl | (simp only [↓putO_get, ↓putO_no, init_zero, init_succ, Nat.reduceEqDiff, ↓reduceIte, *]; done) | (simp only [↓putO_get, ↓putO_no, init_zero, init_succ, Nat.reduceEqDiff, ↓reduceIte, *]; rfl)), (by first | rfl | (simp only [↓putO_get, ↓putO_no, init_zero, init_succ, Nat.reduceEqDiff, ↓reduceIte, *]; done) | (simp only [↓putO_get, ↓putO_no, init_zero, init_succ, Nat.reduceEqDiff, ↓reduceIte, *]; rfl)), (by first | rfl | (simp only [↓putO_get, ↓putO_no, init_zero, init_succ, Nat.reduceEqDiff, ↓reduceIte, *]; done) | (simp only [↓putO_get, ↓putO_no, init_zero, init_succ, Nat.reduceEqDiff, ↓reduceIte, *]; rfl)), f2, f1⟩ ?_
  clear f1 f2
  rintro k s τ1 ⟨i, hi, hk, s29, s28, s27, s0, s1, hR, hS⟩
  rcases Nat.lt_or_ge i ks.length with hlt | hge
  · obtain ⟨x, hx⟩ : ∃ x, ks[i]? = some x := ⟨_, List.getElem?_eq_getElem hlt⟩
    obtain ⟨bk, off, e, hrd⟩ := ((HK.out.ks hS pRec_9).ro sC_len).get hlt
    subst e
    rw [show ks[i] = x by rw [List.getElem?_eq_getElem hlt] at hx; exact Option.some.inj hx] at hrd
    have hrd := rd_part hrd 0 (v := .string x) rfl
    rw [Nat.add_zero] at hrd
    have hd : decide ((i : Int) < (ks.length : Int)) = true := by simp; omega
    have e1 : IntKind.i64.wrap ((i : Int) + 1) = ((i + 1 : Nat) : Int) := by rw [wi64 (by omega)]; rfl
    have HR := Hid.mk (And.intro hR (And.intro hS hx))
    clear hR hS hx
    (repeat' (first | (simp +contextual -dsimp only [*, ↓reduceIte, ↓evP, evQ, splice_nil, splice_zero, splice_skip, Nat.reduceAdd, Nat.reduceEqDiff, Nat.reduceLeDiff, Nat.reduceMul, reduceCtorEq, Int.reduceLT, Int.reduceLE, Int.reduceGT, Int.reduceGE, Int.reduceEq, Int.reduceNeg]) | (refine condF_split (fun hc => ?_) (fun hc => ?_) <;> (try simp only [Bool.not_eq_true', Bool.not_eq_false', Bool.and_eq_true, Bool.or_eq_false_iff] at hc)) | (intro _; intros) | (refine And.intro ?_ ?_; focus (first | omega | ((repeat (first | exact Sub.refl _ | (refine Sub.drop ?_ ?_; focus (simp only [evN, *]; done)) | refine Sub.both ?_)); done) | (simp_all; done) | (simp_all; omega)))))
    refine callF_of (put54 HR.out.1 n x hC) ?_
    rintro u σ' ⟨rfl, hR', hS'⟩
    have HR' := Hid.mk (And.intro hR' hS')
    clear hR' hS'
    (repeat' (first | (simp +contextual -dsimp only [*, ↓reduceIte, ↓evP, evQ, splice_nil, splice_zero, splice_skip, Nat.reduceAdd, Nat.reduceEqDiff, Nat.reduceLeDiff, Nat.reduceMul, reduceCtorEq, Int.reduceLT, Int.reduceLE, Int.reduceGT, Int.reduceGE, Int.reduceEq, Int.reduceNeg]) | (refine condF_split (fun hc => ?_) (fun hc => ?_) <;> (try simp only [Bool.not_eq_true', Bool.not_eq_false', Bool.and_eq_true, Bool.or_eq_false_iff] at hc)) | (intro _; intros) | (refine And.intro ?_ ?_; focus (first | omega | ((repeat (first | exact Sub.refl _ | (refine Sub.drop ?_ ?_; focus (simp only [evN, *]; done)) | refine Sub.both ?_)); done) | (simp_all; done) | (simp_all; omega)))))
    refine nextF_of (ks.length - (i + 1)) (by omega) (Sub.refl _) ⟨i + 1, by omega, rfl, (by first | rfl | (simp only [↓putO_get, ↓putO_no, init_zero, init_succ, Nat.reduceEqDiff, ↓reduceIte, *]; done) | (simp only [↓putO_get, ↓putO_no, init_zero, init_succ, Nat.reduceEqDiff, ↓reduceIte, *]; rfl)), (by first | rfl | (simp only [↓putO_get, ↓putO_no, init_zero, init_succ, Nat.reduceEqDiff, ↓reduceIte, *]; done) | (simp only [↓putO_get, ↓putO_no, init_zero, init_succ, Nat.reduceEqDiff, ↓reduceIte, *]; rfl)), (by first | rfl | (simp only [↓putO_get, ↓putO_no, init_zero, init_succ, Nat.reduceEqDiff, ↓reduceIte, *]; done) | (simp only [↓putO_get, ↓putO_no, init_zero, init_succ, Nat.reduceEqDiff, ↓reduceIte, *]; rfl)), (by first | rfl | (simp only [↓putO_get, ↓putO_no, init_zero, init_succ, Nat.reduceEqDiff, ↓reduceIte, *]; done) | (simp only [↓putO_get, ↓putO_no, init_zero, init_succ, Nat.reduceEqDiff, ↓reduceIte, *]; rfl)), (by first | rfl | (simp only [↓putO_get, ↓putO_no, init_zero, init_succ, Nat.reduceEqDiff, ↓reduceIte, *]; done) | (simp only [↓putO_get, ↓putO_no, init_zero, init_succ, Nat.reduceEqDiff, ↓reduceIte, *]; rfl)), ?_, HR.out.2.1.trans HR'.out.2⟩
    have e2 : ks.take (i + 1) = ks.take i ++ [x] := by rw [List.take_add_one, HR.out.2.2]; rfl
    rw [e2]; unfold noteM at *; rw [List.foldl_append]; exact HR'.out.1
  · have hd : decide ((i : Int) < (ks.length : Int)) = false := by simp; omega
    have HR := Hid.mk (And.intro hR hS)
    clear hR hS
    (repeat' (first | (simp +contextual -dsimp only [*, ↓reduceIte, ↓evP, evQ, splice_nil, splice_zero, splice_skip, Nat.reduceAdd, Nat.reduceEqDiff, Nat.reduceLeDiff, Nat.reduceMul, reduceCtorEq, Int.reduceLT, Int.reduceLE, Int.reduceGT, Int.reduceGE, Int.reduceEq, Int.reduceNeg]) | (refine condF_split (fun hc => ?_) (fun hc => ?_) <;> (try simp only [Bool.not_eq_true', Bool.not_eq_false', Bool.and_eq_true, Bool.or_eq_false_iff] at hc)) | (intro _; intros) | (refine And.intro ?_ ?_; focus (first | omega | ((repeat (first | exact Sub.refl _ | (refine Sub.drop ?_ ?_; focus (simp only [evN, *]; done)) | refine Sub.both ?_)); done) | (simp_all; done) | (simp_all; omega)))))
    have e2 : ks.take i = ks := List.take_of_length_le hge
    have := HR.out
    rw [e2] at this
    exact endF_at ⟨rfl, this⟩
theorem last19 {σ : Hp} {g b C : Nat} {M : List Mk} {since last : Nat} (h : RecAt σ g b C M since last) : ACalls Try.prog 19 #[.pointer (some ⟨g, 0, none⟩)] σ fun u σ' => u = .int .i64 (last : Nat) ∧ σ' = σ := by
  have hr : rd σ g 4 = some (.int .i64 (last : Nat)) := by obtain ⟨R, f, h1, _⟩ := h.st; unfold rd; rw [h1]; rfl
  clear h
  (refine acalls_F ok19 (by simp) ?_; unfold c19 r19)
  (repeat' (first | (simp +contextual -dsimp only [*, ↓reduceIte, ↓evP, evQ, splice_nil, splice_zero, splice_skip, Nat.reduceAdd, Nat.reduceEqDiff, Nat.reduceLeDiff, Nat.reduceMul, reduceCtorEq, Int.reduceLT, Int.reduceLE, Int.reduceGT, Int.reduceGE, Int.reduceEq, Int.reduceNeg]) | (refine condF_split (fun hc => ?_) (fun hc => ?_) <;> (try simp only [Bool.not_eq_true', Bool.not_eq_false', Bool.and_eq_true, Bool.or_eq_false_iff] at hc)) | (intro _; intros) | (refine And.intro ?_ ?_; focus (first | omega | ((repeat (first | exact Sub.refl _ | (refine Sub.drop ?_ ?_; focus (simp only [evN, *]; done)) | refine Sub.both ?_)); done) | (simp_all; done) | (simp_all; omega)))))
  all_goals (refine endF_det ?_ ?_; (focus ((try simp only [cond_true, cond_false, *]) <;> ((try simp only [decide_eq_true_eq, decide_eq_false_iff_not] at *) <;> first | rfl | (simp []; done) | (simp_all []; done) | (simp []; omega) | (simp []; (rw [Bool.eq_iff_iff]); simp; omega) | (simp_all [] <;> omega) | ((try unfold id); (rw [Value.bool.injEq, Bool.eq_iff_iff]); simp <;> omega) | ((try unfold id); (repeat' split) <;> simp_all <;> omega) | (simp_all [] <;> (repeat' split) <;> simp_all <;> omega)))); (focus ((try simp only [cond_true, cond_false, set_same, *]); exact (by (repeat (first | exact Sub.refl _ | (refine Sub.drop ?_ ?_; focus (simp only [evN, *]; done)) | refine Sub.both ?_)); done))))
theorem covers22 {σ : Hp} {g b C : Nat} {M : List Mk} {since last : Nat} (h : RecAt σ g b C M since last) (n : Nat) : ACalls Try.prog 22 #[.pointer (some ⟨g, 0, none⟩), .int .i64 (n : Nat)] σ fun u σ' => u = .bool (decide (since ≤ n) && decide (n ≤ last)) ∧ σ' = σ := by
  have hr3 : rd σ g 3 = some (.int .i64 (since : Nat)) := by obtain ⟨R, f, h1, _⟩ := h.st; unfold rd; rw [h1]; rfl
  have hr : rd σ g 4 = some (.int .i64 (last : Nat)) := by obtain ⟨R, f, h1, _⟩ := h.st; unfold rd; rw [h1]; rfl
  clear h
  cases d1 : decide (since ≤ n) with
  | true =>
    have e1 : decide ((since : Int) ≤ (n : Int)) = true := by have := of_decide_eq_true d1; simp; omega
    cases d2 : decide (n ≤ last) with
    | true =>
      have e2 : decide ((n : Int) ≤ (last : Int)) = true := by have := of_decide_eq_true d2; simp; omega
      clear d1 d2
      (refine acalls_F ok22 (by simp) ?_; unfold c22 r22)
      (repeat' (first | (simp +contextual -dsimp only [*, ↓reduceIte, ↓evP, evQ, splice_nil, splice_zero, splice_skip, Nat.reduceAdd, Nat.reduceEqDiff, Nat.reduceLeDiff, Nat.reduceMul, reduceCtorEq, Int.reduceLT, Int.reduceLE, Int.reduceGT, Int.reduceGE, Int.reduceEq, Int.reduceNeg]) | (refine condF_split (fun hc => ?_) (fun hc => ?_) <;> (try simp only [Bool.not_eq_true', Bool.not_eq_false', Bool.and_eq_true, Bool.or_eq_false_iff] at hc)) | (intro _; intros) | (refine And.intro ?_ ?_; focus (first | omega | ((repeat (first | exact Sub.refl _ | (refine Sub.drop ?_ ?_; focus (simp only [evN, *]; done)) | refine Sub.both ?_)); done) | (simp_all; done) | (simp_all; omega)))))
      all_goals (refine endF_det ?_ ?_; (focus ((try simp only [cond_true, cond_false, *]) <;> ((try simp only [decide_eq_true_eq, decide_eq_false_iff_not] at *) <;> first | rfl | (simp []; done) | (simp_all []; done) | (simp []; omega) | (simp []; (rw [Bool.eq_iff_iff]); simp; omega) | (simp_all [] <;> omega) | ((try unfold id); (rw [Value.bool.injEq, Bool.eq_iff_iff]); simp <;> omega) | ((try unfold id); (repeat' split) <;> simp_all <;> omega) | (simp_all [] <;> (repeat' split) <;> simp_all <;> omega)))); (focus ((try simp only [cond_true, cond_false, set_same, *]); exact (by (repeat (first | exact Sub.refl _ | (refine Sub.drop ?_ ?_; focus (simp only [evN, *]; done)) | refine Sub.both ?_)); done))))
    | false =>
      have e2 : decide ((n : Int) ≤ (last : Int)) = false := by have := of_decide_eq_false d2; simp; omega
      clear d1 d2
      (refine acalls_F ok22 (by simp) ?_; unfold c22 r22)
      (repeat' (first | (simp +contextual -dsimp only [*, ↓reduceIte, ↓evP, evQ, splice_nil, splice_zero, splice_skip, Nat.reduceAdd, Nat.reduceEqDiff, Nat.reduceLeDiff, Nat.reduceMul, reduceCtorEq, Int.reduceLT, Int.reduceLE, Int.reduceGT, Int.reduceGE, Int.reduceEq, Int.reduceNeg]) | (refine condF_split (fun hc => ?_) (fun hc => ?_) <;> (try simp only [Bool.not_eq_true', Bool.not_eq_false', Bool.and_eq_true, Bool.or_eq_false_iff] at hc)) | (intro _; intros) | (refine And.intro ?_ ?_; focus (first | omega | ((repeat (first | exact Sub.refl _ | (refine Sub.drop ?_ ?_; focus (simp only [evN, *]; done)) | refine Sub.both ?_)); done) | (simp_all; done) | (simp_all; omega)))))
      all_goals (refine endF_det ?_ ?_; (focus ((try simp only [cond_true, cond_false, *]) <;> ((try simp only [decide_eq_true_eq, decide_eq_false_iff_not] at *) <;> first | rfl | (simp []; done) | (simp_all []; done) | (simp []; omega) | (simp []; (rw [Bool.eq_iff_iff]); simp; omega) | (simp_all [] <;> omega) | ((try unfold id); (rw [Value.bool.injEq, Bool.eq_iff_iff]); simp <;> omega) | ((try unfold id); (repeat' split) <;> simp_all <;> omega) | (simp_all [] <;> (repeat' split) <;> simp_all <;> omega)))); (focus ((try simp only [cond_true, cond_false, set_same, *]); exact (by (repeat (first | exact Sub.refl _ | (refine Sub.drop ?_ ?_; focus (simp only [evN, *]; done)) | refine Sub.both ?_)); done))))
  | false =>
    have e1 : decide ((since : Int) ≤ (n : Int)) = false := by have := of_decide_eq_false d1; simp; omega
    clear d1
    (refine acalls_F ok22 (by simp) ?_; unfold c22 r22)
    (repeat' (first | (simp +contextual -dsimp only [*, ↓reduceIte, ↓evP, evQ, splice_nil, splice_zero, splice_skip, Nat.reduceAdd, Nat.reduceEqDiff, Nat.reduceLeDiff, Nat.reduceMul, reduceCtorEq, Int.reduceLT, Int.reduceLE, Int.reduceGT, Int.reduceGE, Int.reduceEq, Int.reduceNeg]) | (refine condF_split (fun hc => ?_) (fun hc => ?_) <;> (try simp only [Bool.not_eq_true', Bool.not_eq_false', Bool.and_eq_true, Bool.or_eq_false_iff] at hc)) | (intro _; intros) | (refine And.intro ?_ ?_; focus (first | omega | ((repeat (first | exact Sub.refl _ | (refine Sub.drop ?_ ?_; focus (simp only [evN, *]; done)) | refine Sub.both ?_)); done) | (simp_all; done) | (simp_all; omega)))))
    all_goals (refine endF_det ?_ ?_; (focus ((try simp only [cond_true, cond_false, *]) <;> ((try simp only [decide_eq_true_eq, decide_eq_false_iff_not] at *) <;> first | rfl | (simp []; done) | (simp_all []; done) | (simp []; omega) | (simp []; (rw [Bool.eq_iff_iff]); simp; omega) | (simp_all [] <;> omega) | ((try unfold id); (rw [Value.bool.injEq, Bool.eq_iff_iff]); simp <;> omega) | ((try unfold id); (repeat' split) <;> simp_all <;> omega) | (simp_all [] <;> (repeat' split) <;> simp_all <;> omega)))); (focus ((try simp only [cond_true, cond_false, set_same, *]); exact (by (repeat (first | exact Sub.refl _ | (refine Sub.drop ?_ ?_; focus (simp only [evN, *]; done)) | refine Sub.both ?_)); done))))
theorem at55 {σ : Hp} {g b C : Nat} {M : List Mk} {since last : Nat} (h : RecAt σ g b C M since last) (hC : C ≤ 255) {i : Nat} {m : Mk} (hi : M[i]? = some m) : ACalls Try.prog 55 #[.pointer (some ⟨g, 0, none⟩), .int .i64 (i : Nat)] σ fun u σ' => u = .agg #[.int .i64 (m.n : Nat), .string m.key] ∧ σ' = σ := by
  obtain ⟨R, f, h1, h2, h3, h4, h5, h6⟩ := h.st
  clear h
  have hgb : ¬ g = b := fun e => by rw [← e, h1] at h2; cases h2
  have hbg : ¬ b = g := fun e => hgb e.symm
  have hlt := (List.getElem?_eq_some_iff.1 hi).1
  have hR := h6 i m hi
  clear h6
  have hn0 : ¬ (C : Int) = 0 := by omega
  have w1 : IntKind.i64.wrap ((f : Int) + (i : Int)) = ((f + i : Nat) : Int) := by rw [wi64 (by omega)]; rfl
  have t1 := tmod_nat (f + i) C
  have q0 := Nat.mod_lt (f + i) (show 0 < C by omega)
  have hlen : (R.flatMap Mk.cells).length = C * 2 := by rw [flat_len Mk.cells_len, h3]
  have hseg : seg (R.flatMap Mk.cells) ((f + i) % C * 2) 2 = some [.int .i64 (m.n : Nat), .string m.key] := by
    have := mk_two hR
    unfold seg
    rw [if_pos (by omega), this]
  have H := Hid.mk (And.intro hi (And.intro hR hlt))
  clear hi hR hlt h5 h4
  obtain ⟨τ, rfl⟩ := open_2 h1 h2 hgb
  clear h1 h2
  (refine acalls_F ok55 (by simp) ?_; unfold c55 r55)
  (repeat' (first | (simp +contextual -dsimp only [*, ↓reduceIte, ↓evP, evQ, splice_nil, splice_zero, splice_skip, Nat.reduceAdd, Nat.reduceEqDiff, Nat.reduceLeDiff, Nat.reduceMul, reduceCtorEq, Int.reduceLT, Int.reduceLE, Int.reduceGT, Int.reduceGE, Int.reduceEq, Int.reduceNeg]) | (refine condF_split (fun hc => ?_) (fun hc => ?_) <;> (try simp only [Bool.not_eq_true', Bool.not_eq_false', Bool.and_eq_true, Bool.or_eq_false_iff] at hc)) | (intro _; intros) | (refine And.intro ?_ ?_; focus (first | omega | ((repeat (first | exact Sub.refl _ | (refine Sub.drop ?_ ?_; focus (simp only [evN, *]; done)) | refine Sub.both ?_)); done) | (simp_all; done) | (simp_all; omega)))))
  all_goals (refine endF_det ?_ ?_; (focus ((try simp only [cond_true, cond_false, *]) <;> ((try simp only [decide_eq_true_eq, decide_eq_false_iff_not] at *) <;> first | rfl | (simp []; done) | (simp_all []; done) | (simp []; omega) | (simp []; (rw [Bool.eq_iff_iff]); simp; omega) | (simp_all [] <;> omega) | ((try unfold id); (rw [Value.bool.injEq, Bool.eq_iff_iff]); simp <;> omega) | ((try unfold id); (repeat' split) <;> simp_all <;> omega) | (simp_all [] <;> (repeat' split) <;> simp_all <;> omega)))); (focus ((try simp only [cond_true, cond_false, set_same, *]); exact (by (repeat (first | exact Sub.refl _ | (refine Sub.drop ?_ ?_; focus (simp only [evN, *]; done)) | refine Sub.both ?_)); done))))
end Go.Proofs.Ytpnghjmphbhkjaa
