/- The stream: Get; a gap and a recent, new. -/
import Derived.Test.YtpnghjmphbhkjaaX19
import Derived.Test.YtpnghjmphbhkjaaXT2
import Derived.Test.YtpnghjmphbhkjaaSpN
namespace Go.Proofs.Ytpnghjmphbhkjaa
open Go.Sp
set_option linter.unusedSimpArgs false
set_option linter.unusedVariables false
theorem LogAt.ks {σ σ' : Hp} {g : Nat} {v : Value} {H : List (List ByteArray)} {p : Blk → Prop} (h : LogAt σ g v H) (hs : KSame p σ σ') (h1 : ∀ cs, ¬ p (.cells cs 102)) (h2 : ∀ cs r, ¬ p (.row cs r 36)) (h3 : ∀ cs r, ¬ p (.row cs r 9)) : LogAt σ' g v H := by
  obtain ⟨vs, a, b, c⟩ := h.rows
  exact ⟨hs _ _ h.cell (h1 _), vs, a.ks hs h2, b, fun i x l hx hl => ⟨(c i x l hx hl).1.ks hs h3, (c i x l hx hl).2⟩⟩
/-- One element of a list of records' lists. -/
theorem LogAt.get {σ : Hp} {g : Nat} {v : Value} {H : List (List ByteArray)} (h : LogAt σ g v H) {i : Nat} {ks : List ByteArray} (hi : H[i]? = some ks) : ∃ b c x, v = .slice (some ⟨b, 0, none⟩) H.length c ∧ rd σ b (i * 1) = some x ∧ RowsAt 9 1 sC σ x ks ∧ ks ≠ [] ∧ ks.length ≤ 8 := by
  obtain ⟨vs, hr, hl, hk⟩ := h.rows
  have hlt := (List.getElem?_eq_some_iff.1 hi).1
  obtain ⟨h1, h2, h3⟩ := hk i _ ks (List.getElem?_eq_getElem (by omega)) hi
  rcases hr with ⟨_, e⟩ | ⟨b, c, rfl, hc, hb⟩
  · rw [e] at hl; simp at hl; omega
  · refine ⟨b, c, vs[i], by rw [hl], ?_, h1, h2, h3⟩
    unfold rd; rw [hb]
    have := get_flat vC_len (List.getElem?_eq_getElem (show i < vs.length by omega)) 0 (by omega)
    show (vs.flatMap vC)[i * 1]? = _
    rw [Nat.add_zero] at this; rw [this]; rfl
theorem get17x {σ : Hp} {g : Nat} {v : Value} {H : List (List ByteArray)} (h : LogAt σ g v H) (n : Int) (hn : n < 1 ∨ n > H.length) :
    ACalls Try.prog 17 #[.pointer (some ⟨g, 0, none⟩), .int .i64 n] σ fun u σ' => u = .tuple #[.agg #[.int .i64 0, .slice none 0 0], .int .i64 3] ∧ σ' = σ := by
  obtain ⟨A, c, rfl⟩ : ∃ A c, v = .slice A H.length c := by obtain ⟨vs, h, e, _⟩ := h.rows; rw [← e]; exact h.slice
  have hgn : ∀ y, σ y = none → ¬ g = y := fun y hy e => by have := h.cell; rw [e, hy] at this; cases this
  have hl : ∀ b o, σ b = none → ACalls Try.prog 13 #[.pointer (some ⟨g, 0, none⟩)] (upd σ b o) fun u σ' => u = .int .i64 (H.length : Nat) ∧ σ' = upd σ b o := fun b o hb =>
    last13 (by rw [rd_ne _ _ _ (hgn b hb)]; unfold rd; rw [h.cell]; rfl)
  cases h1 : decide (n < 1) with
  | true =>
    (refine acalls_F ok17 (by simp) ?_; unfold c17 r17)
    (repeat' (first | (simp +contextual -dsimp only [*, ↓reduceIte, ↓evP, evQ, splice, Nat.reduceAdd, Nat.reduceEqDiff, Nat.reduceLeDiff, Nat.reduceMul, reduceCtorEq, Int.reduceLT, Int.reduceLE, Int.reduceGT, Int.reduceGE, Int.reduceEq, Int.reduceNeg]) | (refine condF_split (fun hc => ?_) (fun hc => ?_) <;> (try simp only [Bool.not_eq_true', Bool.not_eq_false', Bool.and_eq_true, Bool.or_eq_false_iff] at hc)) | refine callF_v (hl _ _ (by assumption)) ?_ | refine ccallF_of (hl _ _ (by assumption)) ?_ | refine gcallF_of (hl _ _ (by assumption)) ?_ | (intro _; intros) | (refine And.intro ?_ ?_; focus (first | omega | ((repeat (first | exact Sub.refl _ | (refine Sub.drop ?_ ?_; focus (simp only [evN, *]; done)) | refine Sub.both ?_)); done) | (simp_all; done) | (simp_all; omega)))))
    all_goals (refine endF_det ?_ ?_; (focus ((try simp only [cond_true, cond_false, *]) <;> ((try simp only [decide_eq_true_eq, decide_eq_false_iff_not] at *) <;> first | rfl | (simp []; done) | (simp_all []; done) | (simp []; omega) | (simp []; (rw [Bool.eq_iff_iff]); simp; omega) | (simp_all [] <;> omega) | ((try unfold id); (rw [Value.bool.injEq, Bool.eq_iff_iff]); simp <;> omega) | ((try unfold id); (repeat' split) <;> simp_all <;> omega) | (simp_all [] <;> (repeat' split) <;> simp_all <;> omega)))); (focus ((try simp only [cond_true, cond_false, set_same, *]); exact (by (repeat (first | exact Sub.refl _ | (refine Sub.drop ?_ ?_; focus (simp only [evN, *]; done)) | refine Sub.both ?_)); done))))
  | false =>
    have h2 : decide (n > (H.length : Int)) = true := by have := of_decide_eq_false h1; simp; omega
    (refine acalls_F ok17 (by simp) ?_; unfold c17 r17)
    (repeat' (first | (simp +contextual -dsimp only [*, ↓reduceIte, ↓evP, evQ, splice, Nat.reduceAdd, Nat.reduceEqDiff, Nat.reduceLeDiff, Nat.reduceMul, reduceCtorEq, Int.reduceLT, Int.reduceLE, Int.reduceGT, Int.reduceGE, Int.reduceEq, Int.reduceNeg]) | (refine condF_split (fun hc => ?_) (fun hc => ?_) <;> (try simp only [Bool.not_eq_true', Bool.not_eq_false', Bool.and_eq_true, Bool.or_eq_false_iff] at hc)) | refine callF_v (hl _ _ (by assumption)) ?_ | refine ccallF_of (hl _ _ (by assumption)) ?_ | refine gcallF_of (hl _ _ (by assumption)) ?_ | (intro _; intros) | (refine And.intro ?_ ?_; focus (first | omega | ((repeat (first | exact Sub.refl _ | (refine Sub.drop ?_ ?_; focus (simp only [evN, *]; done)) | refine Sub.both ?_)); done) | (simp_all; done) | (simp_all; omega)))))
    all_goals (refine endF_det ?_ ?_; (focus ((try simp only [cond_true, cond_false, *]) <;> ((try simp only [decide_eq_true_eq, decide_eq_false_iff_not] at *) <;> first | rfl | (simp []; done) | (simp_all []; done) | (simp []; omega) | (simp []; (rw [Bool.eq_iff_iff]); simp; omega) | (simp_all [] <;> omega) | ((try unfold id); (rw [Value.bool.injEq, Bool.eq_iff_iff]); simp <;> omega) | ((try unfold id); (repeat' split) <;> simp_all <;> omega) | (simp_all [] <;> (repeat' split) <;> simp_all <;> omega)))); (focus ((try simp only [cond_true, cond_false, set_same, *]); exact (by (repeat (first | exact Sub.refl _ | (refine Sub.drop ?_ ?_; focus (simp only [evN, *]; done)) | refine Sub.both ?_)); done))))
theorem get17 {σ : Hp} {g : Nat} {v : Value} {H : List (List ByteArray)} (h : LogAt σ g v H) (i : Nat) {ks : List ByteArray} (hi : H[i]? = some ks) (hH : H.length < 1048576) :
    ACalls Try.prog 17 #[.pointer (some ⟨g, 0, none⟩), .int .i64 (i + 1 : Nat)] σ fun u σ' => ∃ b c, σ b = none ∧ ks.length ≤ c ∧ u = .tuple #[.agg #[.int .i64 (i + 1 : Nat), .slice (some ⟨b, 0, none⟩) ks.length c], .int .i64 0] ∧ σ' = upd σ b (.row (ks.flatMap sC) (c * 1) 9) := by
  obtain ⟨b, c, x, rfl, hrd, hr, h0, h8⟩ := h.get hi
  have hlt := (List.getElem?_eq_some_iff.1 hi).1
  have hgn : ∀ y, σ y = none → ¬ g = y := fun y hy e => by have := h.cell; rw [e, hy] at this; cases this
  have hbn : ∀ y, σ y = none → ¬ b = y := fun y hy e => by unfold rd at hrd; rw [e, hy] at hrd; cases hrd
  have hl : ∀ b' o, σ b' = none → ACalls Try.prog 13 #[.pointer (some ⟨g, 0, none⟩)] (upd σ b' o) fun u σ' => u = .int .i64 (H.length : Nat) ∧ σ' = upd σ b' o := fun b' o hb =>
    last13 (a := some ⟨b, 0, none⟩) (c := c) (by rw [rd_ne _ _ _ (hgn b' hb)]; unfold rd; rw [h.cell]; rfl)
  have hg0 : rd σ g 0 = some (.slice (some ⟨b, 0, none⟩) H.length c) := by unfold rd; rw [h.cell]; rfl
  have d1 : decide (((i + 1 : Nat) : Int) < 1) = false := by simp; omega
  have d2 : decide (((i + 1 : Nat) : Int) > (H.length : Int)) = false := by simp; omega
  have e1 : IntKind.i64.wrap (((i + 1 : Nat) : Int) - 1) = (i : Int) := by rw [wi64 (by omega)]; omega
  have hlt' : (i : Int) < (H.length : Int) := by omega
  have HH := Hid.mk (And.intro hr h)
  clear h hr
  (refine acalls_F ok17 (by simp) ?_; unfold c17 r17)
  (repeat' (first | (simp +contextual -dsimp only [*, ↓reduceIte, ↓evP, evQ, splice, Nat.reduceAdd, Nat.reduceEqDiff, Nat.reduceLeDiff, Nat.reduceMul, reduceCtorEq, Int.reduceLT, Int.reduceLE, Int.reduceGT, Int.reduceGE, Int.reduceEq, Int.reduceNeg]) | (refine condF_split (fun hc => ?_) (fun hc => ?_) <;> (try simp only [Bool.not_eq_true', Bool.not_eq_false', Bool.and_eq_true, Bool.or_eq_false_iff] at hc)) | refine callF_v (hl _ _ (by assumption)) ?_ | refine ccallF_of (hl _ _ (by assumption)) ?_ | refine gcallF_of (hl _ _ (by assumption)) ?_ | (intro _; intros) | (refine And.intro ?_ ?_; focus (first | omega | ((repeat (first | exact Sub.refl _ | (refine Sub.drop ?_ ?_; focus (simp only [evN, *]; done)) | refine Sub.both ?_)); done) | (simp_all; done) | (simp_all; omega)))))
  rename_i y y0
  have q1 := hgn y y0
  have q2 := hbn y y0
  (repeat' (first | (simp +contextual -dsimp only [*, ↓reduceIte, ↓evP, evQ, splice, Nat.reduceAdd, Nat.reduceEqDiff, Nat.reduceLeDiff, Nat.reduceMul, reduceCtorEq, Int.reduceLT, Int.reduceLE, Int.reduceGT, Int.reduceGE, Int.reduceEq, Int.reduceNeg]) | (refine condF_split (fun hc => ?_) (fun hc => ?_) <;> (try simp only [Bool.not_eq_true', Bool.not_eq_false', Bool.and_eq_true, Bool.or_eq_false_iff] at hc)) | (intro _; intros) | (refine And.intro ?_ ?_; focus (first | omega | ((repeat (first | exact Sub.refl _ | (refine Sub.drop ?_ ?_; focus (simp only [evN, *]; done)) | refine Sub.both ?_)); done) | (simp_all; done) | (simp_all; omega)))))
  refine callF_of (clone44 ((HH.out.1.fresh y0 _).ro sC_len) h0 (by omega)) ?_
  rintro u σ1 ⟨z, cz, hz, hzc, rfl, rfl⟩
  have hz' := hz
  simp only [none_upd] at hz'
  obtain ⟨⟨z1, z2⟩, z3⟩ := hz'
  (repeat' (first | (simp +contextual -dsimp only [*, ↓reduceIte, ↓evP, evQ, splice, Nat.reduceAdd, Nat.reduceEqDiff, Nat.reduceLeDiff, Nat.reduceMul, reduceCtorEq, Int.reduceLT, Int.reduceLE, Int.reduceGT, Int.reduceGE, Int.reduceEq, Int.reduceNeg]) | (refine condF_split (fun hc => ?_) (fun hc => ?_) <;> (try simp only [Bool.not_eq_true', Bool.not_eq_false', Bool.and_eq_true, Bool.or_eq_false_iff] at hc)) | (intro _; intros) | (refine And.intro ?_ ?_; focus (first | omega | ((repeat (first | exact Sub.refl _ | (refine Sub.drop ?_ ?_; focus (simp only [evN, *]; done)) | refine Sub.both ?_)); done) | (simp_all; done) | (simp_all; omega)))))
  refine endF_sub ?_ ⟨z, cz, z3, hzc, rfl, rfl⟩
  rw [upd_comm _ _ _ (fun e => z1 e.symm)]
  exact Sub.drop (by simp only [evN, *]; done) (Sub.refl _)
end Go.Proofs.Ytpnghjmphbhkjaa
