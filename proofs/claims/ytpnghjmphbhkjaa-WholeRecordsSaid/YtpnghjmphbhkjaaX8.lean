/- A record appended to the stream. -/
import Derived.Test.YtpnghjmphbhkjaaX7
namespace Go.Proofs.Ytpnghjmphbhkjaa
open Go.Sp
set_option linter.unusedSimpArgs false
set_option linter.unusedVariables false
def vC (v : Value) : List Value := [v]
theorem vC_len (v : Value) : (vC v).length = 1 := rfl
/-- A list of records over a heap: the stream at g, its list behind v. -/
structure LogAt (σ : Hp) (g : Nat) (v : Value) (H : List (List ByteArray)) : Prop where
  cell : σ g = some (.cells [v] 102)
  rows : ∃ vs, RowsAt 36 1 vC σ v vs ∧ vs.length = H.length ∧ ∀ (i : Nat) x l, vs[i]? = some x → H[i]? = some l → RowsAt 9 1 sC σ x l ∧ l ≠ [] ∧ l.length ≤ 8
/-- Nothing that was known has turned but g and the block of v; the block of v' is that of v or new. -/
def Step (σ : Hp) (g : Nat) (v : Value) (σ' : Hp) (v' : Value) : Prop := Same (fun k => k = g ∨ blk v = some k) σ σ' ∧ (∀ k, blk v' = some k → blk v = some k ∨ σ k = none)
theorem LogAt.same {σ σ' : Hp} {g : Nat} {v : Value} {H : List (List ByteArray)} {F : Nat → Prop} (h : LogAt σ g v H) (hs : Same F σ σ') (hg : ¬ F g) (hr : ∀ k cs r E, F k → σ k = some (.row cs r E) → E ≠ 36 ∧ E ≠ 9) : LogAt σ' g v H := by
  obtain ⟨vs, h1, h2, h3⟩ := h.rows
  have key : ∀ {α : Type} {E sz : Nat} {f : α → List Value} {x : Value} {l : List α}, RowsAt E sz f σ x l → (E = 36 ∨ E = 9) → RowsAt E sz f σ' x l := by
    intro α E sz f x l hx hE
    refine hx.sameF hs fun k hk hF => ?_
    rcases hx with ⟨rfl, _⟩ | ⟨b, c, rfl, _, hb⟩
    · cases hk
    · cases hk
      have := hr _ _ _ _ hF hb
      rcases hE with e | e
      · exact this.1 e
      · exact this.2 e
  refine ⟨hs.at h.cell hg, vs, key h1 (.inl rfl), h2, fun i x l hx hl => ?_⟩
  obtain ⟨a, b⟩ := h3 i x l hx hl
  exact ⟨key a (.inr rfl), b⟩
theorem leafLog {σ σ' : Hp} {g : Nat} {v v' x : Value} {H : List (List ByteArray)} {ks : List ByteArray} (h : LogAt σ g v H) (hg : σ' g = some (.cells [v'] 102)) (hv : ∀ vs, RowsAt 36 1 vC σ v vs → RowsAt 36 1 vC σ' v' (vs ++ [x])) (hx : RowsAt 9 1 sC σ' x ks) (h0 : ks ≠ []) (h8 : ks.length ≤ 8)
    (hs : Same (fun k => k = g ∨ blk v = some k) σ σ') (hb : ∀ k, blk v' = some k → blk v = some k ∨ σ k = none) : LogAt σ' g v' (H ++ [ks]) ∧ Step σ g v σ' v' := by
  obtain ⟨vs, h1, h2, h3⟩ := h.rows
  refine ⟨⟨hg, vs ++ [x], hv vs h1, by simp [h2], fun i y l hy hl => ?_⟩, hs, hb⟩
  by_cases hi : i < vs.length
  · rw [List.getElem?_append_left hi] at hy
    rw [List.getElem?_append_left (by omega)] at hl
    obtain ⟨a, b⟩ := h3 i y l hy hl
    refine ⟨a.sameF hs fun k hk hF => ?_, b⟩
    rcases hF with e | e
    · subst e; exact a.notCells h.cell hk
    · exact h1.apart a (by decide) e hk
  · have e : i = vs.length := by
      have := (List.getElem?_eq_some_iff.1 hy).1
      simp at this; omega
    subst e
    rw [List.getElem?_append_right (by omega)] at hy
    rw [List.getElem?_append_right (by omega)] at hl
    simp at hy
    rw [← h2] at hl
    simp at hl
    subst hy; subst hl
    exact ⟨hx, h0, h8⟩
/-- What Append answers. -/
def Appended (σ : Hp) (g : Nat) (v : Value) (H : List (List ByteArray)) (ks : List ByteArray) (u : Value) (σ' : Hp) : Prop :=
  (∃ e, ¬ e = 0 ∧ u = .tuple #[.int .i64 0, .int .i64 e] ∧ σ' = σ ∧ ¬ (ks ≠ [] ∧ ks.length ≤ 8 ∧ (∀ k ∈ ks, goodS k = true) ∧ ks.Nodup)) ∨
  ∃ v', u = .tuple #[.int .i64 (H.length + 1 : Nat), .int .i64 0] ∧ LogAt σ' g v' (H ++ [ks]) ∧ Step σ g v σ' v' ∧ ks ≠ [] ∧ ks.length ≤ 8 ∧ ∀ k ∈ ks, goodS k = true
theorem leafApp {σ σ' : Hp} {g : Nat} {v v' x u : Value} {H : List (List ByteArray)} {ks : List ByteArray} (h : LogAt σ g v H) (hu : u = .tuple #[.int .i64 (H.length + 1 : Nat), .int .i64 0]) (hg : σ' g = some (.cells [v'] 102)) (hv : ∀ vs, RowsAt 36 1 vC σ v vs → RowsAt 36 1 vC σ' v' (vs ++ [x])) (hx : RowsAt 9 1 sC σ' x ks) (h0 : ks ≠ []) (h8 : ks.length ≤ 8)
    (hs : Same (fun k => k = g ∨ blk v = some k) σ σ') (hb : ∀ k, blk v' = some k → blk v = some k ∨ σ k = none) (hk : ∀ k ∈ ks, goodS k = true) : Appended σ g v H ks u σ' :=
  .inr ⟨v', hu, (leafLog h hg hv hx h0 h8 hs hb).1, (leafLog h hg hv hx h0 h8 hs hb).2, h0, h8, hk⟩
set_option maxHeartbeats 2000000 in
theorem append10 {σ : Hp} {g : Nat} {v w : Value} {H : List (List ByteArray)} {ks : List ByteArray} (hL : LogAt σ g v H) (hv : RoRows 1 sC σ w ks) (hn : ks.length ≤ 140737488355328) (hHl : H.length < 1048576) :
    ACalls Try.prog 10 #[.pointer (some ⟨g, 0, none⟩), w] σ (Appended σ g v H ks) := by
  have HV := Hid.mk hv
  have HL := Hid.mk hL
  obtain ⟨vs, hrow, hvl, _⟩ := hL.rows
  have HN := Hid.mk hvl
  have hH : vs.length < 1048576 := by omega
  have hcell := hL.cell
  clear hL
  obtain ⟨A, c, rfl⟩ : ∃ A c, w = .slice A ks.length c := by obtain ⟨A, c, rfl, _⟩ := hv; exact ⟨A, c, rfl⟩
  clear hv
  rcases hrow with ⟨rfl, hnil⟩ | ⟨b, cap, rfl, hcap, hb⟩
  · have h0 : H.length = 0 := by rw [← hvl, hnil]; rfl
    clear hvl
    obtain ⟨τ, rfl⟩ := open_upd hcell
    clear hcell
    have hl := last13 (a := none) (n := 0) (c := 0) (σ := upd τ g (.cells [.slice none 0 0] 102)) (g := g) (by rw [rd_same]; rfl)
    (refine acalls_F ok10 (by simp) ?_; unfold c10 r10; simp +contextual -dsimp only [↓reduceIte, ↓evP, evQ, splice, Nat.reduceAdd, Nat.reduceEqDiff, Nat.reduceLeDiff, Nat.reduceMul, reduceCtorEq, Int.reduceLT, Int.reduceLE, Int.reduceGT, Int.reduceGE, Int.reduceEq, Int.reduceNeg])
    refine callF_of (check43 HV.out hn) ?_
    rintro u σ' ⟨⟨e, rfl, HE⟩, rfl⟩
    have HE := Hid.mk HE
    (repeat' (first | (simp +contextual -dsimp only [*, ↓reduceIte, ↓evP, evQ, splice, Nat.reduceAdd, Nat.reduceEqDiff, Nat.reduceLeDiff, Nat.reduceMul, reduceCtorEq, Int.reduceLT, Int.reduceLE, Int.reduceGT, Int.reduceGE, Int.reduceEq, Int.reduceNeg]) | (refine condF_split (fun hc => ?_) (fun hc => ?_) <;> (try simp only [Bool.not_eq_true', Bool.not_eq_false', Bool.and_eq_true, Bool.or_eq_false_iff] at hc)) | refine callF_v (hl) ?_ | refine ccallF_of (hl) ?_ | refine gcallF_of (hl) ?_ | (intro _; intros) | (refine And.intro ?_ ?_; focus (first | omega | ((repeat (first | exact Sub.refl _ | (refine Sub.drop ?_ ?_; focus (simp only [evN, *]; done)) | refine Sub.both ?_)); done) | (simp_all; done) | (simp_all; omega)))))
    · refine endF_at (.inl ⟨e, of_decide_eq_false hc, rfl, rfl, fun h => of_decide_eq_false hc ?_⟩)
      exact HE.out.good (fun x => h.1 (List.eq_nil_of_length_eq_zero x)) h.2.1 h.2.2.1 h.2.2.2
    · have hks := HE.out.few (of_decide_eq_true hc)
      have hk0 : ks ≠ [] := fun x => hks.1 (by rw [x]; rfl)
      have hk8 : ks.length ≤ 8 := hks.2.1
      have hks := Hid.mk hks.2.2
      refine gcallF_first (clone44 HV.out hk0 (by omega)) ?_ ?_
      · rintro u σ1 ⟨nb, nc, hnb, hnc, rfl, rfl⟩
        exact Sub.drop hnb (Sub.refl _)
      rintro u σ1 ⟨nb, nc, hnb, hnc, rfl, rfl⟩
      have hnb' := (none_upd _ _ _ _).1 hnb
      obtain ⟨⟨hb1, hb2⟩, hb3⟩ := hnb'
      (repeat' (first | (simp +contextual -dsimp only [*, ↓reduceIte, ↓evP, evQ, splice, Nat.reduceAdd, Nat.reduceEqDiff, Nat.reduceLeDiff, Nat.reduceMul, reduceCtorEq, Int.reduceLT, Int.reduceLE, Int.reduceGT, Int.reduceGE, Int.reduceEq, Int.reduceNeg]) | (refine condF_split (fun hc => ?_) (fun hc => ?_) <;> (try simp only [Bool.not_eq_true', Bool.not_eq_false', Bool.and_eq_true, Bool.or_eq_false_iff] at hc)) | (intro _; intros) | (refine And.intro ?_ ?_; focus (first | omega | ((repeat (first | exact Sub.refl _ | (refine Sub.drop ?_ ?_; focus (simp only [evN, *]; done)) | refine Sub.both ?_)); done) | (simp_all; done) | (simp_all; omega)))))
      refine app_n (by first | (simp only [Nat.reduceMul, Nat.one_mul, Nat.zero_mul, rdn_row, rdn_same, rdn_ne, seg_zero, seg_cons, seg_skip, Option.map_some, not_false_eq_true, *]; done) | (simp only [Nat.reduceMul, Nat.one_mul, Nat.zero_mul, rdn_row, rdn_same, rdn_ne, seg_zero, seg_cons, seg_skip, Option.map_some, not_false_eq_true, *]; exact rfl)) rfl (by omega) (by omega) (by unfold maxLen; omega) ?_
      (repeat' (first | (simp +contextual -dsimp only [*, ↓reduceIte, ↓evP, evQ, splice, Nat.reduceAdd, Nat.reduceEqDiff, Nat.reduceLeDiff, Nat.reduceMul, reduceCtorEq, Int.reduceLT, Int.reduceLE, Int.reduceGT, Int.reduceGE, Int.reduceEq, Int.reduceNeg]) | (refine condF_split (fun hc => ?_) (fun hc => ?_) <;> (try simp only [Bool.not_eq_true', Bool.not_eq_false', Bool.and_eq_true, Bool.or_eq_false_iff] at hc)) | (intro _; intros) | (refine And.intro ?_ ?_; focus (first | omega | ((repeat (first | exact Sub.refl _ | (refine Sub.drop ?_ ?_; focus (simp only [evN, *]; done)) | refine Sub.both ?_)); done) | (simp_all; done) | (simp_all; omega)))))
      refine callF_v (last13 (a := some ⟨_, 0, none⟩) (n := 1) (c := _) (by first | (simp only [rd_ne, rd_same, rd_row, not_false_eq_true, List.getElem?_cons_zero, List.getElem?_cons_succ, *]; done) | (simp only [rd_ne, rd_same, rd_row, not_false_eq_true, List.getElem?_cons_zero, List.getElem?_cons_succ, *]; rfl))) ?_
      (repeat' (first | (simp +contextual -dsimp only [*, ↓reduceIte, ↓evP, evQ, splice, Nat.reduceAdd, Nat.reduceEqDiff, Nat.reduceLeDiff, Nat.reduceMul, reduceCtorEq, Int.reduceLT, Int.reduceLE, Int.reduceGT, Int.reduceGE, Int.reduceEq, Int.reduceNeg]) | (refine condF_split (fun hc => ?_) (fun hc => ?_) <;> (try simp only [Bool.not_eq_true', Bool.not_eq_false', Bool.and_eq_true, Bool.or_eq_false_iff] at hc)) | (intro _; intros) | (refine And.intro ?_ ?_; focus (first | omega | ((repeat (first | exact Sub.refl _ | (refine Sub.drop ?_ ?_; focus (simp only [evN, *]; done)) | refine Sub.both ?_)); done) | (simp_all; done) | (simp_all; omega)))))
      refine endF_at (leafApp (x := .slice (some ⟨nb, 0, none⟩) ks.length nc) HL.out (by rw [h0]; rfl) (by first | (simp only [upd_at, *, ↓reduceIte]; done) | (simp only [upd_at, *, ↓reduceIte]; rfl)) (fun vs' h => ?_) ?_ hk0 hk8 (by repeat (first | exact Same.refl _ _ | (refine Same.updNew ?_ ?_; focus (simp only [evN, *]; done)) | (refine Same.both ?_ ?_; focus (first | exact rfl | exact .inl rfl | exact .inr rfl)) | (refine Same.updIn ?_ ?_; focus (first | exact rfl | exact .inl rfl | exact .inr rfl)) | refine Same.eq ?_)) ?_ hks.out)
      · rcases h with ⟨_, rfl⟩ | ⟨_, _, e, _⟩
        · exact rows_mk rfl (by omega) (by first | (simp only [upd_at, *, ↓reduceIte]; done) | (simp only [upd_at, *, ↓reduceIte]; rfl))
        · cases e
      · exact rows_mk rfl hnc (by first | (simp only [upd_at, *, ↓reduceIte]; done) | (simp only [upd_at, *, ↓reduceIte]; rfl))
      · intro k hk; cases hk; exact .inr (by simp only [evN, *]; done)
  · clear hvl
    have hH0 : (vs.length : Int) < 1048576 := by omega
    obtain ⟨τ, rfl, hne1, hne2⟩ := open_two hcell hb (by simp)
    clear hcell hb
    have hl := last13 (a := some ⟨b, 0, none⟩) (n := vs.length) (c := cap) (σ := upd (upd τ b (.row (vs.flatMap vC) (cap * 1) 36)) g (.cells [.slice (some ⟨b, 0, none⟩) vs.length cap] 102)) (g := g) (by rw [rd_same]; rfl)
    have hbig : decide ((vs.length : Int) ≥ 1099511627776) = false := by simp; omega
    (refine acalls_F ok10 (by simp) ?_; unfold c10 r10; simp +contextual -dsimp only [↓reduceIte, ↓evP, evQ, splice, Nat.reduceAdd, Nat.reduceEqDiff, Nat.reduceLeDiff, Nat.reduceMul, reduceCtorEq, Int.reduceLT, Int.reduceLE, Int.reduceGT, Int.reduceGE, Int.reduceEq, Int.reduceNeg])
    refine callF_of (check43 HV.out hn) ?_
    rintro u σ' ⟨⟨e, rfl, HE⟩, rfl⟩
    have HE := Hid.mk HE
    (repeat' (first | (simp +contextual -dsimp only [*, ↓reduceIte, ↓evP, evQ, splice, Nat.reduceAdd, Nat.reduceEqDiff, Nat.reduceLeDiff, Nat.reduceMul, reduceCtorEq, Int.reduceLT, Int.reduceLE, Int.reduceGT, Int.reduceGE, Int.reduceEq, Int.reduceNeg]) | (refine condF_split (fun hc => ?_) (fun hc => ?_) <;> (try simp only [Bool.not_eq_true', Bool.not_eq_false', Bool.and_eq_true, Bool.or_eq_false_iff] at hc)) | refine callF_v (hl) ?_ | refine ccallF_of (hl) ?_ | refine gcallF_of (hl) ?_ | (intro _; intros) | (refine And.intro ?_ ?_; focus (first | omega | ((repeat (first | exact Sub.refl _ | (refine Sub.drop ?_ ?_; focus (simp only [evN, *]; done)) | refine Sub.both ?_)); done) | (simp_all; done) | (simp_all; omega)))))
    · refine endF_at (.inl ⟨e, of_decide_eq_false hc, rfl, rfl, fun h => of_decide_eq_false hc ?_⟩)
      exact HE.out.good (fun x => h.1 (List.eq_nil_of_length_eq_zero x)) h.2.1 h.2.2.1 h.2.2.2
    · have hks := HE.out.few (of_decide_eq_true hc)
      have hk0 : ks ≠ [] := fun x => hks.1 (by rw [x]; rfl)
      have hk8 : ks.length ≤ 8 := hks.2.1
      have hks := Hid.mk hks.2.2
      refine gcallF_first (clone44 HV.out hk0 (by omega)) ?_ ?_
      · rintro u σ1 ⟨nb, nc, hnb, hnc, rfl, rfl⟩
        exact Sub.drop hnb (Sub.refl _)
      rintro u σ1 ⟨nb, nc, hnb, hnc, rfl, rfl⟩
      have hnb' := hnb
      simp only [none_upd] at hnb'
      obtain ⟨⟨hb1, hb2⟩, ⟨hb3, hb4⟩, hb5⟩ := hnb'
      (repeat' (first | (simp +contextual -dsimp only [*, ↓reduceIte, ↓evP, evQ, splice, Nat.reduceAdd, Nat.reduceEqDiff, Nat.reduceLeDiff, Nat.reduceMul, reduceCtorEq, Int.reduceLT, Int.reduceLE, Int.reduceGT, Int.reduceGE, Int.reduceEq, Int.reduceNeg]) | (refine condF_split (fun hc => ?_) (fun hc => ?_) <;> (try simp only [Bool.not_eq_true', Bool.not_eq_false', Bool.and_eq_true, Bool.or_eq_false_iff] at hc)) | (intro _; intros) | (refine And.intro ?_ ?_; focus (first | omega | ((repeat (first | exact Sub.refl _ | (refine Sub.drop ?_ ?_; focus (simp only [evN, *]; done)) | refine Sub.both ?_)); done) | (simp_all; done) | (simp_all; omega)))))
      refine app_b (by first | (simp only [Nat.reduceMul, Nat.one_mul, Nat.zero_mul, rdn_row, rdn_same, rdn_ne, seg_zero, seg_cons, seg_skip, Option.map_some, not_false_eq_true, *]; done) | (simp only [Nat.reduceMul, Nat.one_mul, Nat.zero_mul, rdn_row, rdn_same, rdn_ne, seg_zero, seg_cons, seg_skip, Option.map_some, not_false_eq_true, *]; exact rfl)) rfl (by simp only [upd_at, *, ↓reduceIte]) (flat_len vC_len _) (by omega) (by omega) (by unfold maxLen; omega) ?_ ?_
      · (repeat' (first | (simp +contextual -dsimp only [*, ↓reduceIte, ↓evP, evQ, splice, Nat.reduceAdd, Nat.reduceEqDiff, Nat.reduceLeDiff, Nat.reduceMul, reduceCtorEq, Int.reduceLT, Int.reduceLE, Int.reduceGT, Int.reduceGE, Int.reduceEq, Int.reduceNeg]) | (refine condF_split (fun hc => ?_) (fun hc => ?_) <;> (try simp only [Bool.not_eq_true', Bool.not_eq_false', Bool.and_eq_true, Bool.or_eq_false_iff] at hc)) | (intro _; intros) | (refine And.intro ?_ ?_; focus (first | omega | ((repeat (first | exact Sub.refl _ | (refine Sub.drop ?_ ?_; focus (simp only [evN, *]; done)) | refine Sub.both ?_)); done) | (simp_all; done) | (simp_all; omega)))))
        refine callF_v (last13 (a := some ⟨_, 0, none⟩) (n := vs.length + 1) (c := _) (by first | (simp only [rd_ne, rd_same, rd_row, not_false_eq_true, List.getElem?_cons_zero, List.getElem?_cons_succ, *]; done) | (simp only [rd_ne, rd_same, rd_row, not_false_eq_true, List.getElem?_cons_zero, List.getElem?_cons_succ, *]; rfl))) ?_
        (repeat' (first | (simp +contextual -dsimp only [*, ↓reduceIte, ↓evP, evQ, splice, Nat.reduceAdd, Nat.reduceEqDiff, Nat.reduceLeDiff, Nat.reduceMul, reduceCtorEq, Int.reduceLT, Int.reduceLE, Int.reduceGT, Int.reduceGE, Int.reduceEq, Int.reduceNeg]) | (refine condF_split (fun hc => ?_) (fun hc => ?_) <;> (try simp only [Bool.not_eq_true', Bool.not_eq_false', Bool.and_eq_true, Bool.or_eq_false_iff] at hc)) | (intro _; intros) | (refine And.intro ?_ ?_; focus (first | omega | ((repeat (first | exact Sub.refl _ | (refine Sub.drop ?_ ?_; focus (simp only [evN, *]; done)) | refine Sub.both ?_)); done) | (simp_all; done) | (simp_all; omega)))))
        refine endF_at (leafApp (x := .slice (some ⟨nb, 0, none⟩) ks.length nc) HL.out (by rw [← HN.out]) (by first | (simp only [upd_at, *, ↓reduceIte]; done) | (simp only [upd_at, *, ↓reduceIte]; rfl)) (fun vs' h => ?_) ?_ hk0 hk8 (by repeat (first | exact Same.refl _ _ | (refine Same.updNew ?_ ?_; focus (simp only [evN, *]; done)) | (refine Same.both ?_ ?_; focus (first | exact rfl | exact .inl rfl | exact .inr rfl)) | (refine Same.updIn ?_ ?_; focus (first | exact rfl | exact .inl rfl | exact .inr rfl)) | refine Same.eq ?_)) ?_ hks.out)
        · have hv' : vs' = vs := by
            rcases h with ⟨e, _⟩ | ⟨_, _, e, _, hbb⟩
            · cases e
            · injection e with e1 e2 e3
              injection e1 with e1; injection e1 with e1
              subst e1
              rw [upd_ne _ _ hne2, upd_same] at hbb
              have := (Blk.row.inj (Option.some.inj hbb)).1
              unfold vC at this
              simpa using this.symm
          subst hv'
          exact rows_mk (by simp) (by omega) (by rw [List.flatMap_append]; first | (simp only [upd_at, *, ↓reduceIte]; done) | (simp only [upd_at, *, ↓reduceIte]; rfl))
        · exact rows_mk rfl hnc (by first | (simp only [upd_at, *, ↓reduceIte]; done) | (simp only [upd_at, *, ↓reduceIte]; rfl))
        · intro k hk; cases hk; first | exact .inl rfl | exact .inr (by simp only [evN, *]; done)
      · (repeat' (first | (simp +contextual -dsimp only [*, ↓reduceIte, ↓evP, evQ, splice, Nat.reduceAdd, Nat.reduceEqDiff, Nat.reduceLeDiff, Nat.reduceMul, reduceCtorEq, Int.reduceLT, Int.reduceLE, Int.reduceGT, Int.reduceGE, Int.reduceEq, Int.reduceNeg]) | (refine condF_split (fun hc => ?_) (fun hc => ?_) <;> (try simp only [Bool.not_eq_true', Bool.not_eq_false', Bool.and_eq_true, Bool.or_eq_false_iff] at hc)) | (intro _; intros) | (refine And.intro ?_ ?_; focus (first | omega | ((repeat (first | exact Sub.refl _ | (refine Sub.drop ?_ ?_; focus (simp only [evN, *]; done)) | refine Sub.both ?_)); done) | (simp_all; done) | (simp_all; omega)))))
        refine callF_v (last13 (a := some ⟨_, 0, none⟩) (n := vs.length + 1) (c := _) (by first | (simp only [rd_ne, rd_same, rd_row, not_false_eq_true, List.getElem?_cons_zero, List.getElem?_cons_succ, *]; done) | (simp only [rd_ne, rd_same, rd_row, not_false_eq_true, List.getElem?_cons_zero, List.getElem?_cons_succ, *]; rfl))) ?_
        (repeat' (first | (simp +contextual -dsimp only [*, ↓reduceIte, ↓evP, evQ, splice, Nat.reduceAdd, Nat.reduceEqDiff, Nat.reduceLeDiff, Nat.reduceMul, reduceCtorEq, Int.reduceLT, Int.reduceLE, Int.reduceGT, Int.reduceGE, Int.reduceEq, Int.reduceNeg]) | (refine condF_split (fun hc => ?_) (fun hc => ?_) <;> (try simp only [Bool.not_eq_true', Bool.not_eq_false', Bool.and_eq_true, Bool.or_eq_false_iff] at hc)) | (intro _; intros) | (refine And.intro ?_ ?_; focus (first | omega | ((repeat (first | exact Sub.refl _ | (refine Sub.drop ?_ ?_; focus (simp only [evN, *]; done)) | refine Sub.both ?_)); done) | (simp_all; done) | (simp_all; omega)))))
        refine endF_at (leafApp (x := .slice (some ⟨nb, 0, none⟩) ks.length nc) HL.out (by rw [← HN.out]) (by first | (simp only [upd_at, *, ↓reduceIte]; done) | (simp only [upd_at, *, ↓reduceIte]; rfl)) (fun vs' h => ?_) ?_ hk0 hk8 (by repeat (first | exact Same.refl _ _ | (refine Same.updNew ?_ ?_; focus (simp only [evN, *]; done)) | (refine Same.both ?_ ?_; focus (first | exact rfl | exact .inl rfl | exact .inr rfl)) | (refine Same.updIn ?_ ?_; focus (first | exact rfl | exact .inl rfl | exact .inr rfl)) | refine Same.eq ?_)) ?_ hks.out)
        · have hv' : vs' = vs := by
            rcases h with ⟨e, _⟩ | ⟨_, _, e, _, hbb⟩
            · cases e
            · injection e with e1 e2 e3
              injection e1 with e1; injection e1 with e1
              subst e1
              rw [upd_ne _ _ hne2, upd_same] at hbb
              have := (Blk.row.inj (Option.some.inj hbb)).1
              unfold vC at this
              simpa using this.symm
          subst hv'
          exact rows_mk (by simp) (by omega) (by rw [List.flatMap_append]; first | (simp only [upd_at, *, ↓reduceIte]; done) | (simp only [upd_at, *, ↓reduceIte]; rfl))
        · exact rows_mk rfl hnc (by first | (simp only [upd_at, *, ↓reduceIte]; done) | (simp only [upd_at, *, ↓reduceIte]; rfl))
        · intro k hk; cases hk; first | exact .inl rfl | exact .inr (by simp only [evN, *]; done)
end Go.Proofs.Ytpnghjmphbhkjaa
