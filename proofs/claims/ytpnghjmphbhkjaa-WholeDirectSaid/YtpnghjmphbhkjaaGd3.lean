/- Texts of mine, part 3 of 4, laid together: A record appended to the stream. The stream: First. Rows appended to, whatever the heap beside them. The keys of writes. The store: the check of a commit's writes. Versions of a key: rows that begin somewhere in their block; cloned. The store: a commit. The store: what was dropped; the search among versions. The store: a key read. WholeLogs: what a read says, and what First says; store and stream  No condition. -/
import Derived.Test.YtpnghjmphbhkjaaGd2
import Derived.Test.YtpnghjmphbhkjaaProg
import Derived.KernelRfl
-- X8
namespace Go.Proofs.Ytpnghjmphbhkjaa
open Go.Sp
set_option linter.unusedSimpArgs false
set_option linter.unusedVariables false
def vC (v : Value) : List Value := [v]
theorem vC_len (v : Value) : (vC v).length = 1 := rfl
/-- A list of records over a heap: the stream at g, its list behind v. -/
structure LogAt (σ : Hp) (g : Nat) (v : Value) (H : List (List ByteArray)) : Prop where
  cell : σ g = some (.cells [v] 102)
  rows : ∃ vs, RowsAt 36 1 vC σ v vs ∧ vs.length = H.length ∧ ∀ (i : Nat) x l, vs[i]? = some x → H[i]? = some l → RowsAt 9 1 sC σ x l ∧ l ≠ [] ∧ l.length ≤ 8
/-- Nothing that was known has turned but g and the block of v; the block of v' is that of v or new. -/
def Step (σ : Hp) (g : Nat) (v : Value) (σ' : Hp) (v' : Value) : Prop := Same (fun k => k = g ∨ blk v = some k) σ σ' ∧ (∀ k, blk v' = some k → blk v = some k ∨ σ k = none)
theorem LogAt.same {σ σ' : Hp} {g : Nat} {v : Value} {H : List (List ByteArray)} {F : Nat → Prop} (h : LogAt σ g v H) (hs : Same F σ σ') (hg : ¬ F g) (hr : ∀ k cs r E, F k → σ k = some (.row cs r E) → E ≠ 36 ∧ E ≠ 9) : LogAt σ' g v H := by
  obtain ⟨vs, h1, h2, h3⟩ := h.rows
  have key : ∀ {α : Type} {E sz : Nat} {f : α → List Value} {x : Value} {l : List α}, RowsAt E sz f σ x l → (E = 36 ∨ E = 9) → RowsAt E sz f σ' x l := by
    intro α E sz f x l hx hE
    refine hx.sameF hs fun k hk hF => ?_
    rcases hx with ⟨rfl, _⟩ | ⟨b, c, rfl, _, hb⟩
    · cases hk
    · cases hk
      have := hr _ _ _ _ hF hb
      rcases hE with e | e
      · exact this.1 e
      · exact this.2 e
  refine ⟨hs.at h.cell hg, vs, key h1 (.inl rfl), h2, fun i x l hx hl => ?_⟩
  obtain ⟨a, b⟩ := h3 i x l hx hl
  exact ⟨key a (.inr rfl), b⟩
theorem leafLog {σ σ' : Hp} {g : Nat} {v v' x : Value} {H : List (List ByteArray)} {ks : List ByteArray} (h : LogAt σ g v H) (hg : σ' g = some (.cells [v'] 102)) (hv : ∀ vs, RowsAt 36 1 vC σ v vs → RowsAt 36 1 vC σ' v' (vs ++ [x])) (hx : RowsAt 9 1 sC σ' x ks) (h0 : ks ≠ []) (h8 : ks.length ≤ 8)
    (hs : Same (fun k => k = g ∨ blk v = some k) σ σ') (hb : ∀ k, blk v' = some k → blk v = some k ∨ σ k = none) : LogAt σ' g v' (H ++ [ks]) ∧ Step σ g v σ' v' := by
  obtain ⟨vs, h1, h2, h3⟩ := h.rows
  refine ⟨⟨hg, vs ++ [x], hv vs h1, by simp [h2], fun i y l hy hl => ?_⟩, hs, hb⟩
  by_cases hi : i < vs.length
  · rw [List.getElem?_append_left hi] at hy
    rw [List.getElem?_append_left (by omega)] at hl
    obtain ⟨a, b⟩ := h3 i y l hy hl
    refine ⟨a.sameF hs fun k hk hF => ?_, b⟩
    rcases hF with e | e
    · subst e; exact a.notCells h.cell hk
    · exact h1.apart a (by decide) e hk
  · have e : i = vs.length := by
      have := (List.getElem?_eq_some_iff.1 hy).1
      simp at this; omega
    subst e
    rw [List.getElem?_append_right (by omega)] at hy
    rw [List.getElem?_append_right (by omega)] at hl
    simp at hy
    rw [← h2] at hl
    simp at hl
    subst hy; subst hl
    exact ⟨hx, h0, h8⟩
/-- What Append answers. -/
def Appended (σ : Hp) (g : Nat) (v : Value) (H : List (List ByteArray)) (ks : List ByteArray) (u : Value) (σ' : Hp) : Prop :=
  (∃ e, ¬ e = 0 ∧ u = .tuple #[.int .i64 0, .int .i64 e] ∧ σ' = σ ∧ ¬ (ks ≠ [] ∧ ks.length ≤ 8 ∧ (∀ k ∈ ks, goodS k = true) ∧ ks.Nodup)) ∨
  ∃ v', u = .tuple #[.int .i64 (H.length + 1 : Nat), .int .i64 0] ∧ LogAt σ' g v' (H ++ [ks]) ∧ Step σ g v σ' v' ∧ ks ≠ [] ∧ ks.length ≤ 8 ∧ ∀ k ∈ ks, goodS k = true
theorem leafApp {σ σ' : Hp} {g : Nat} {v v' x u : Value} {H : List (List ByteArray)} {ks : List ByteArray} (h : LogAt σ g v H) (hu : u = .tuple #[.int .i64 (H.length + 1 : Nat), .int .i64 0]) (hg : σ' g = some (.cells [v'] 102)) (hv : ∀ vs, RowsAt 36 1 vC σ v vs → RowsAt 36 1 vC σ' v' (vs ++ [x])) (hx : RowsAt 9 1 sC σ' x ks) (h0 : ks ≠ []) (h8 : ks.length ≤ 8)
    (hs : Same (fun k => k = g ∨ blk v = some k) σ σ') (hb : ∀ k, blk v' = some k → blk v = some k ∨ σ k = none) (hk : ∀ k ∈ ks, goodS k = true) : Appended σ g v H ks u σ' :=
  .inr ⟨v', hu, (leafLog h hg hv hx h0 h8 hs hb).1, (leafLog h hg hv hx h0 h8 hs hb).2, h0, h8, hk⟩
set_option maxHeartbeats 2000000 in
theorem append10 {σ : Hp} {g : Nat} {v w : Value} {H : List (List ByteArray)} {ks : List ByteArray} (hL : LogAt σ g v H) (hv : RoRows 1 sC σ w ks) (hn : ks.length ≤ 140737488355328) (hHl : H.length < 1048576) :
    ACalls Try.prog 10 #[.pointer (some ⟨g, 0, none⟩), w] σ (Appended σ g v H ks) := by
  have HV := Hid.mk hv
  have HL := Hid.mk hL
  obtain ⟨vs, hrow, hvl, _⟩ := hL.rows
  have HN := Hid.mk hvl
  have hH : vs.length < 1048576 := by omega
  have hcell := hL.cell
  clear hL
  obtain ⟨A, c, rfl⟩ : ∃ A c, w = .slice A ks.length c := by obtain ⟨A, c, rfl, _⟩ := hv; exact ⟨A, c, rfl⟩
  clear hv
  rcases hrow with ⟨rfl, hnil⟩ | ⟨b, cap, rfl, hcap, hb⟩
  · have h0 : H.length = 0 := by rw [← hvl, hnil]; rfl
    clear hvl
    obtain ⟨τ, rfl⟩ := open_upd hcell
    clear hcell
    have hl := last13 (a := none) (n := 0) (c := 0) (σ := upd τ g (.cells [.slice none 0 0] 102)) (g := g) (by rw [rd_same]; rfl)
    (refine acalls_F ok10 (by simp) ?_; unfold c10 r10; simp +contextual -dsimp only [↓reduceIte, ↓evP, evQ, splice, Nat.reduceAdd, Nat.reduceEqDiff, Nat.reduceLeDiff, Nat.reduceMul, reduceCtorEq, Int.reduceLT, Int.reduceLE, Int.reduceGT, Int.reduceGE, Int.reduceEq, Int.reduceNeg])
    refine callF_of (check43 HV.out hn) ?_
    rintro u σ' ⟨⟨e, rfl, HE⟩, rfl⟩
    have HE := Hid.mk HE
    (repeat' (first | (simp +contextual -dsimp only [*, ↓reduceIte, ↓evP, evQ, splice, Nat.reduceAdd, Nat.reduceEqDiff, Nat.reduceLeDiff, Nat.reduceMul, reduceCtorEq, Int.reduceLT, Int.reduceLE, Int.reduceGT, Int.reduceGE, Int.reduceEq, Int.reduceNeg]) | (refine condF_split (fun hc => ?_) (fun hc => ?_) <;> (try simp only [Bool.not_eq_true', Bool.not_eq_false', Bool.and_eq_true, Bool.or_eq_false_iff] at hc)) | refine callF_v (hl) ?_ | refine ccallF_of (hl) ?_ | refine gcallF_of (hl) ?_ | (intro _; intros) | (refine And.intro ?_ ?_; focus (first | omega | ((repeat (first | exact Sub.refl _ | (refine Sub.drop ?_ ?_; focus (simp only [evN, *]; done)) | refine Sub.both ?_)); done) | (simp_all; done) | (simp_all; omega)))))
    · refine endF_at (.inl ⟨e, of_decide_eq_false hc, rfl, rfl, fun h => of_decide_eq_false hc ?_⟩)
      exact HE.out.good (fun x => h.1 (List.eq_nil_of_length_eq_zero x)) h.2.1 h.2.2.1 h.2.2.2
    · have hks := HE.out.few (of_decide_eq_true hc)
      have hk0 : ks ≠ [] := fun x => hks.1 (by rw [x]; rfl)
      have hk8 : ks.length ≤ 8 := hks.2.1
      have hks := Hid.mk hks.2.2
      refine gcallF_first (clone44 HV.out hk0 (by omega)) ?_ ?_
      · rintro u σ1 ⟨nb, nc, hnb, hnc, rfl, rfl⟩
        exact Sub.drop hnb (Sub.refl _)
      rintro u σ1 ⟨nb, nc, hnb, hnc, rfl, rfl⟩
      have hnb' := (none_upd _ _ _ _).1 hnb
      obtain ⟨⟨hb1, hb2⟩, hb3⟩ := hnb'
      (repeat' (first | (simp +contextual -dsimp only [*, ↓reduceIte, ↓evP, evQ, splice, Nat.reduceAdd, Nat.reduceEqDiff, Nat.reduceLeDiff, Nat.reduceMul, reduceCtorEq, Int.reduceLT, Int.reduceLE, Int.reduceGT, Int.reduceGE, Int.reduceEq, Int.reduceNeg]) | (refine condF_split (fun hc => ?_) (fun hc => ?_) <;> (try simp only [Bool.not_eq_true', Bool.not_eq_false', Bool.and_eq_true, Bool.or_eq_false_iff] at hc)) | (intro _; intros) | (refine And.intro ?_ ?_; focus (first | omega | ((repeat (first | exact Sub.refl _ | (refine Sub.drop ?_ ?_; focus (simp only [evN, *]; done)) | refine Sub.both ?_)); done) | (simp_all; done) | (simp_all; omega)))))
      refine app_n (by first | (simp only [Nat.reduceMul, Nat.one_mul, Nat.zero_mul, rdn_row, rdn_same, rdn_ne, seg_zero, seg_cons, seg_skip, Option.map_some, not_false_eq_true, *]; done) | (simp only [Nat.reduceMul, Nat.one_mul, Nat.zero_mul, rdn_row, rdn_same, rdn_ne, seg_zero, seg_cons, seg_skip, Option.map_some, not_false_eq_true, *]; exact rfl)) rfl (by omega) (by omega) (by unfold maxLen; omega) ?_
      (repeat' (first | (simp +contextual -dsimp only [*, ↓reduceIte, ↓evP, evQ, splice, Nat.reduceAdd, Nat.reduceEqDiff, Nat.reduceLeDiff, Nat.reduceMul, reduceCtorEq, Int.reduceLT, Int.reduceLE, Int.reduceGT, Int.reduceGE, Int.reduceEq, Int.reduceNeg]) | (refine condF_split (fun hc => ?_) (fun hc => ?_) <;> (try simp only [Bool.not_eq_true', Bool.not_eq_false', Bool.and_eq_true, Bool.or_eq_false_iff] at hc)) | (intro _; intros) | (refine And.intro ?_ ?_; focus (first | omega | ((repeat (first | exact Sub.refl _ | (refine Sub.drop ?_ ?_; focus (simp only [evN, *]; done)) | refine Sub.both ?_)); done) | (simp_all; done) | (simp_all; omega)))))
      refine callF_v (last13 (a := some ⟨_, 0, none⟩) (n := 1) (c := _) (by first | (simp only [rd_ne, rd_same, rd_row, not_false_eq_true, List.getElem?_cons_zero, List.getElem?_cons_succ, *]; done) | (simp only [rd_ne, rd_same, rd_row, not_false_eq_true, List.getElem?_cons_zero, List.getElem?_cons_succ, *]; rfl))) ?_
      (repeat' (first | (simp +contextual -dsimp only [*, ↓reduceIte, ↓evP, evQ, splice, Nat.reduceAdd, Nat.reduceEqDiff, Nat.reduceLeDiff, Nat.reduceMul, reduceCtorEq, Int.reduceLT, Int.reduceLE, Int.reduceGT, Int.reduceGE, Int.reduceEq, Int.reduceNeg]) | (refine condF_split (fun hc => ?_) (fun hc => ?_) <;> (try simp only [Bool.not_eq_true', Bool.not_eq_false', Bool.and_eq_true, Bool.or_eq_false_iff] at hc)) | (intro _; intros) | (refine And.intro ?_ ?_; focus (first | omega | ((repeat (first | exact Sub.refl _ | (refine Sub.drop ?_ ?_; focus (simp only [evN, *]; done)) | refine Sub.both ?_)); done) | (simp_all; done) | (simp_all; omega)))))
      refine endF_at (leafApp (x := .slice (some ⟨nb, 0, none⟩) ks.length nc) HL.out (by rw [h0]; rfl) (by first | (simp only [upd_at, *, ↓reduceIte]; done) | (simp only [upd_at, *, ↓reduceIte]; rfl)) (fun vs' h => ?_) ?_ hk0 hk8 (by repeat (first | exact Same.refl _ _ | (refine Same.updNew ?_ ?_; focus (simp only [evN, *]; done)) | (refine Same.both ?_ ?_; focus (first | exact rfl | exact .inl rfl | exact .inr rfl)) | (refine Same.updIn ?_ ?_; focus (first | exact rfl | exact .inl rfl | exact .inr rfl)) | refine Same.eq ?_)) ?_ hks.out)
      · rcases h with ⟨_, rfl⟩ | ⟨_, _, e, _⟩
        · exact rows_mk rfl (by omega) (by first | (simp only [upd_at, *, ↓reduceIte]; done) | (simp only [upd_at, *, ↓reduceIte]; rfl))
        · cases e
      · exact rows_mk rfl hnc (by first | (simp only [upd_at, *, ↓reduceIte]; done) | (simp only [upd_at, *, ↓reduceIte]; rfl))
      · intro k hk; cases hk; exact .inr (by simp only [evN, *]; done)
  · clear hvl
    have hH0 : (vs.length : Int) < 1048576 := by omega
    obtain ⟨τ, rfl, hne1, hne2⟩ := open_two hcell hb (by simp)
    clear hcell hb
    have hl := last13 (a := some ⟨b, 0, none⟩) (n := vs.length) (c := cap) (σ := upd (upd τ b (.row (vs.flatMap vC) (cap * 1) 36)) g (.cells [.slice (some ⟨b, 0, none⟩) vs.length cap] 102)) (g := g) (by rw [rd_same]; rfl)
    have hbig : decide ((vs.length : Int) ≥ 1099511627776) = false := by simp; omega
    (refine acalls_F ok10 (by simp) ?_; unfold c10 r10; simp +contextual -dsimp only [↓reduceIte, ↓evP, evQ, splice, Nat.reduceAdd, Nat.reduceEqDiff, Nat.reduceLeDiff, Nat.reduceMul, reduceCtorEq, Int.reduceLT, Int.reduceLE, Int.reduceGT, Int.reduceGE, Int.reduceEq, Int.reduceNeg])
    refine callF_of (check43 HV.out hn) ?_
    rintro u σ' ⟨⟨e, rfl, HE⟩, rfl⟩
    have HE := Hid.mk HE
    (repeat' (first | (simp +contextual -dsimp only [*, ↓reduceIte, ↓evP, evQ, splice, Nat.reduceAdd, Nat.reduceEqDiff, Nat.reduceLeDiff, Nat.reduceMul, reduceCtorEq, Int.reduceLT, Int.reduceLE, Int.reduceGT, Int.reduceGE, Int.reduceEq, Int.reduceNeg]) | (refine condF_split (fun hc => ?_) (fun hc => ?_) <;> (try simp only [Bool.not_eq_true', Bool.not_eq_false', Bool.and_eq_true, Bool.or_eq_false_iff] at hc)) | refine callF_v (hl) ?_ | refine ccallF_of (hl) ?_ | refine gcallF_of (hl) ?_ | (intro _; intros) | (refine And.intro ?_ ?_; focus (first | omega | ((repeat (first | exact Sub.refl _ | (refine Sub.drop ?_ ?_; focus (simp only [evN, *]; done)) | refine Sub.both ?_)); done) | (simp_all; done) | (simp_all; omega)))))
    · refine endF_at (.inl ⟨e, of_decide_eq_false hc, rfl, rfl, fun h => of_decide_eq_false hc ?_⟩)
      exact HE.out.good (fun x => h.1 (List.eq_nil_of_length_eq_zero x)) h.2.1 h.2.2.1 h.2.2.2
    · have hks := HE.out.few (of_decide_eq_true hc)
      have hk0 : ks ≠ [] := fun x => hks.1 (by rw [x]; rfl)
      have hk8 : ks.length ≤ 8 := hks.2.1
      have hks := Hid.mk hks.2.2
      refine gcallF_first (clone44 HV.out hk0 (by omega)) ?_ ?_
      · rintro u σ1 ⟨nb, nc, hnb, hnc, rfl, rfl⟩
        exact Sub.drop hnb (Sub.refl _)
      rintro u σ1 ⟨nb, nc, hnb, hnc, rfl, rfl⟩
      have hnb' := hnb
      simp only [none_upd] at hnb'
      obtain ⟨⟨hb1, hb2⟩, ⟨hb3, hb4⟩, hb5⟩ := hnb'
      (repeat' (first | (simp +contextual -dsimp only [*, ↓reduceIte, ↓evP, evQ, splice, Nat.reduceAdd, Nat.reduceEqDiff, Nat.reduceLeDiff, Nat.reduceMul, reduceCtorEq, Int.reduceLT, Int.reduceLE, Int.reduceGT, Int.reduceGE, Int.reduceEq, Int.reduceNeg]) | (refine condF_split (fun hc => ?_) (fun hc => ?_) <;> (try simp only [Bool.not_eq_true', Bool.not_eq_false', Bool.and_eq_true, Bool.or_eq_false_iff] at hc)) | (intro _; intros) | (refine And.intro ?_ ?_; focus (first | omega | ((repeat (first | exact Sub.refl _ | (refine Sub.drop ?_ ?_; focus (simp only [evN, *]; done)) | refine Sub.both ?_)); done) | (simp_all; done) | (simp_all; omega)))))
      refine app_b (by first | (simp only [Nat.reduceMul, Nat.one_mul, Nat.zero_mul, rdn_row, rdn_same, rdn_ne, seg_zero, seg_cons, seg_skip, Option.map_some, not_false_eq_true, *]; done) | (simp only [Nat.reduceMul, Nat.one_mul, Nat.zero_mul, rdn_row, rdn_same, rdn_ne, seg_zero, seg_cons, seg_skip, Option.map_some, not_false_eq_true, *]; exact rfl)) rfl (by simp only [upd_at, *, ↓reduceIte]) (flat_len vC_len _) (by omega) (by omega) (by unfold maxLen; omega) ?_ ?_
      · (repeat' (first | (simp +contextual -dsimp only [*, ↓reduceIte, ↓evP, evQ, splice, Nat.reduceAdd, Nat.reduceEqDiff, Nat.reduceLeDiff, Nat.reduceMul, reduceCtorEq, Int.reduceLT, Int.reduceLE, Int.reduceGT, Int.reduceGE, Int.reduceEq, Int.reduceNeg]) | (refine condF_split (fun hc => ?_) (fun hc => ?_) <;> (try simp only [Bool.not_eq_true', Bool.not_eq_false', Bool.and_eq_true, Bool.or_eq_false_iff] at hc)) | (intro _; intros) | (refine And.intro ?_ ?_; focus (first | omega | ((repeat (first | exact Sub.refl _ | (refine Sub.drop ?_ ?_; focus (simp only [evN, *]; done)) | refine Sub.both ?_)); done) | (simp_all; done) | (simp_all; omega)))))
        refine callF_v (last13 (a := some ⟨_, 0, none⟩) (n := vs.length + 1) (c := _) (by first | (simp only [rd_ne, rd_same, rd_row, not_false_eq_true, List.getElem?_cons_zero, List.getElem?_cons_succ, *]; done) | (simp only [rd_ne, rd_same, rd_row, not_false_eq_true, List.getElem?_cons_zero, List.getElem?_cons_succ, *]; rfl))) ?_
        (repeat' (first | (simp +contextual -dsimp only [*, ↓reduceIte, ↓evP, evQ, splice, Nat.reduceAdd, Nat.reduceEqDiff, Nat.reduceLeDiff, Nat.reduceMul, reduceCtorEq, Int.reduceLT, Int.reduceLE, Int.reduceGT, Int.reduceGE, Int.reduceEq, Int.reduceNeg]) | (refine condF_split (fun hc => ?_) (fun hc => ?_) <;> (try simp only [Bool.not_eq_true', Bool.not_eq_false', Bool.and_eq_true, Bool.or_eq_false_iff] at hc)) | (intro _; intros) | (refine And.intro ?_ ?_; focus (first | omega | ((repeat (first | exact Sub.refl _ | (refine Sub.drop ?_ ?_; focus (simp only [evN, *]; done)) | refine Sub.both ?_)); done) | (simp_all; done) | (simp_all; omega)))))
        refine endF_at (leafApp (x := .slice (some ⟨nb, 0, none⟩) ks.length nc) HL.out (by rw [← HN.out]) (by first | (simp only [upd_at, *, ↓reduceIte]; done) | (simp only [upd_at, *, ↓reduceIte]; rfl)) (fun vs' h => ?_) ?_ hk0 hk8 (by repeat (first | exact Same.refl _ _ | (refine Same.updNew ?_ ?_; focus (simp only [evN, *]; done)) | (refine Same.both ?_ ?_; focus (first | exact rfl | exact .inl rfl | exact .inr rfl)) | (refine Same.updIn ?_ ?_; focus (first | exact rfl | exact .inl rfl | exact .inr rfl)) | refine Same.eq ?_)) ?_ hks.out)
        · have hv' : vs' = vs := by
            rcases h with ⟨e, _⟩ | ⟨_, _, e, _, hbb⟩
            · cases e
            · injection e with e1 e2 e3
              injection e1 with e1; injection e1 with e1
              subst e1
              rw [upd_ne _ _ hne2, upd_same] at hbb
              have := (Blk.row.inj (Option.some.inj hbb)).1
              unfold vC at this
              simpa using this.symm
          subst hv'
          exact rows_mk (by simp) (by omega) (by rw [List.flatMap_append]; first | (simp only [upd_at, *, ↓reduceIte]; done) | (simp only [upd_at, *, ↓reduceIte]; rfl))
        · exact rows_mk rfl hnc (by first | (simp only [upd_at, *, ↓reduceIte]; done) | (simp only [upd_at, *, ↓reduceIte]; rfl))
        · intro k hk; cases hk; first | exact .inl rfl | exact .inr (by simp only [evN, *]; done)
      · (repeat' (first | (simp +contextual -dsimp only [*, ↓reduceIte, ↓evP, evQ, splice, Nat.reduceAdd, Nat.reduceEqDiff, Nat.reduceLeDiff, Nat.reduceMul, reduceCtorEq, Int.reduceLT, Int.reduceLE, Int.reduceGT, Int.reduceGE, Int.reduceEq, Int.reduceNeg]) | (refine condF_split (fun hc => ?_) (fun hc => ?_) <;> (try simp only [Bool.not_eq_true', Bool.not_eq_false', Bool.and_eq_true, Bool.or_eq_false_iff] at hc)) | (intro _; intros) | (refine And.intro ?_ ?_; focus (first | omega | ((repeat (first | exact Sub.refl _ | (refine Sub.drop ?_ ?_; focus (simp only [evN, *]; done)) | refine Sub.both ?_)); done) | (simp_all; done) | (simp_all; omega)))))
        refine callF_v (last13 (a := some ⟨_, 0, none⟩) (n := vs.length + 1) (c := _) (by first | (simp only [rd_ne, rd_same, rd_row, not_false_eq_true, List.getElem?_cons_zero, List.getElem?_cons_succ, *]; done) | (simp only [rd_ne, rd_same, rd_row, not_false_eq_true, List.getElem?_cons_zero, List.getElem?_cons_succ, *]; rfl))) ?_
        (repeat' (first | (simp +contextual -dsimp only [*, ↓reduceIte, ↓evP, evQ, splice, Nat.reduceAdd, Nat.reduceEqDiff, Nat.reduceLeDiff, Nat.reduceMul, reduceCtorEq, Int.reduceLT, Int.reduceLE, Int.reduceGT, Int.reduceGE, Int.reduceEq, Int.reduceNeg]) | (refine condF_split (fun hc => ?_) (fun hc => ?_) <;> (try simp only [Bool.not_eq_true', Bool.not_eq_false', Bool.and_eq_true, Bool.or_eq_false_iff] at hc)) | (intro _; intros) | (refine And.intro ?_ ?_; focus (first | omega | ((repeat (first | exact Sub.refl _ | (refine Sub.drop ?_ ?_; focus (simp only [evN, *]; done)) | refine Sub.both ?_)); done) | (simp_all; done) | (simp_all; omega)))))
        refine endF_at (leafApp (x := .slice (some ⟨nb, 0, none⟩) ks.length nc) HL.out (by rw [← HN.out]) (by first | (simp only [upd_at, *, ↓reduceIte]; done) | (simp only [upd_at, *, ↓reduceIte]; rfl)) (fun vs' h => ?_) ?_ hk0 hk8 (by repeat (first | exact Same.refl _ _ | (refine Same.updNew ?_ ?_; focus (simp only [evN, *]; done)) | (refine Same.both ?_ ?_; focus (first | exact rfl | exact .inl rfl | exact .inr rfl)) | (refine Same.updIn ?_ ?_; focus (first | exact rfl | exact .inl rfl | exact .inr rfl)) | refine Same.eq ?_)) ?_ hks.out)
        · have hv' : vs' = vs := by
            rcases h with ⟨e, _⟩ | ⟨_, _, e, _, hbb⟩
            · cases e
            · injection e with e1 e2 e3
              injection e1 with e1; injection e1 with e1
              subst e1
              rw [upd_ne _ _ hne2, upd_same] at hbb
              have := (Blk.row.inj (Option.some.inj hbb)).1
              unfold vC at this
              simpa using this.symm
          subst hv'
          exact rows_mk (by simp) (by omega) (by rw [List.flatMap_append]; first | (simp only [upd_at, *, ↓reduceIte]; done) | (simp only [upd_at, *, ↓reduceIte]; rfl))
        · exact rows_mk rfl hnc (by first | (simp only [upd_at, *, ↓reduceIte]; done) | (simp only [upd_at, *, ↓reduceIte]; rfl))
        · intro k hk; cases hk; first | exact .inl rfl | exact .inr (by simp only [evN, *]; done)
/-- The end of a slice from place i on. -/
theorem _root_.Go.Sp.sll_at (sz b o n c i : Nat) (h : i ≤ n) (hc : i < c) : lf (.sll sz) [.slice (some ⟨b, o, none⟩) n c, .int .i64 i] = some (.slice (some ⟨b, o + i * sz, none⟩) (n - i) (c - i)) := by
  rw [lf_sll_eq _ _ _ _ _ _ (by omega)]
  unfold sliced
  rw [Int.toNat_natCast, if_neg (by omega)]
  simp only [Option.map_some, Addr.add]
  by_cases e : i * sz = 0
  · rw [if_pos e, e]; rfl
  · rw [if_neg e]
end Go.Proofs.Ytpnghjmphbhkjaa

-- SpM
namespace Go.Sp
set_option linter.unusedSimpArgs false
set_option linter.unusedVariables false
/-- From σ to σ' nothing that was known has turned but the block of v; the block of v' is that of v or new. -/
structure Grew (σ : Hp) (v : Value) (σ' : Hp) (v' : Value) : Prop where
  same : Same (fun k => blk v = some k) σ σ'
  new : ∀ k, blk v' = some k → blk v = some k ∨ σ k = none
theorem app_rowv {α : Type} {E size bytes : Nat} {f : α → List Value} (hf : ∀ x, (f x).length = size) {K : Value → Hp → Prop} {σ : Hp} {δ} {v : Value} {l : List α} (hv : RowsAt E size f σ v l) {b off m c : Nat} {ys : List α} (h1 : (ys.flatMap f).all one = true)
    (hy : rdn σ b off (m * size) = some (ys.flatMap f)) (hm : ys.length = m) (hm0 : 0 < m) (hb : (l.length + m) * bytes ≤ 140737488355328) (hl : l.length + m ≤ maxLen)
    (hk : ∀ v' σ', RowsAt E size f σ' v' (l ++ ys) → Grew σ v σ' v' → K v' σ') : appF E size bytes v (.slice (some ⟨b, off, none⟩) m c) K σ δ := by
  rcases hv with ⟨rfl, rfl⟩ | ⟨g, cap, rfl, hcap, hg⟩
  · refine app_n hy h1 hm0 (by simpa using hb) (by simpa using hl) fun b' c' hb' hc' => hk _ _ ?_ ⟨?_, ?_⟩
    · exact .inr ⟨b', c', by simp [hm], by simp [hm]; exact hc', by simp [upd_same]⟩
    · exact Same.updNew hb' (Same.refl _ _)
    · intro k hk; cases hk; exact .inr hb'
  · refine app_b hy h1 hg (flat_len hf _) hcap hb hl (fun c' hc' => hk _ _ ?_ ⟨?_, ?_⟩) (fun b' c' hb' hc' => hk _ _ ?_ ⟨?_, ?_⟩)
    · refine .inr ⟨g, c', by simp [hm], by simp [hm]; exact hc', ?_⟩
      show upd σ g _ g = _
      rw [upd_same, List.flatMap_append]
    · exact Same.updIn (F := fun k => blk (.slice (some ⟨g, 0, none⟩) l.length cap) = some k) rfl (Same.refl _ _)
    · intro k hk; cases hk; exact .inl rfl
    · refine .inr ⟨b', c', by simp [hm], by simp [hm]; exact hc', ?_⟩
      rw [upd_same, List.flatMap_append]
    · exact Same.updNew hb' (Same.updIn (F := fun k => blk (.slice (some ⟨g, 0, none⟩) l.length cap) = some k) rfl (Same.refl _ _))
    · intro k hk; cases hk; exact .inr hb'
theorem app_row {α : Type} {E size bytes : Nat} {f : α → List Value} (hf : ∀ x, (f x).length = size) (hone : ∀ x, (f x).all one = true) {K : Value → Hp → Prop} {σ : Hp} {δ} {v : Value} {l : List α} (hv : RowsAt E size f σ v l) {b off m c : Nat} {ys : List α}
    (hy : rdn σ b off (m * size) = some (ys.flatMap f)) (hm : ys.length = m) (hm0 : 0 < m) (hb : (l.length + m) * bytes ≤ 140737488355328) (hl : l.length + m ≤ maxLen)
    (hk : ∀ v' σ', RowsAt E size f σ' v' (l ++ ys) → Grew σ v σ' v' → K v' σ') : appF E size bytes v (.slice (some ⟨b, off, none⟩) m c) K σ δ := by
  refine app_rowv hf hv ?_ hy hm hm0 hb hl hk
  clear hy hm hk
  induction ys with
  | nil => rfl
  | cons y r ih => rw [List.flatMap_cons, List.all_append, ih, hone]; rfl
theorem Grew.refl (σ : Hp) (v : Value) : Grew σ v σ v := ⟨Same.refl _ _, fun _ h => .inl h⟩
/-- A slice that lies in what is new since σ0 stays so. -/
theorem Made.grew {σ0 σ σ' : Hp} {v v' : Value} (h : Made σ0 σ v) (k : Grew σ v σ' v') : Made σ0 σ' v' :=
  ⟨h.1.trans k.same fun i hi hb => absurd (h.2 i hb) hi, fun i hi => by
    rcases k.new i hi with e | e
    · exact h.2 i e
    · exact h.old e⟩
theorem Made.nil (σ : Hp) : Made σ σ (.slice none 0 0) := ⟨Same.refl _ _, fun k hk => by cases hk⟩
/-- A block that is made anew beside. -/
theorem Made.beside {σ0 σ : Hp} {v : Value} (h : Made σ0 σ v) {b : Nat} (hb : σ b = none) (o : Blk) : Made σ0 (upd σ b o) v := h.grow hb o
end Go.Sp

-- X10
namespace Go.Proofs.Ytpnghjmphbhkjaa
open Go.Sp
set_option linter.unusedSimpArgs false
set_option linter.unusedVariables false
def chk : List Wr → Nat → List (ByteArray × Value) → Bool → Int
  | [], _, _, tw => cond tw 22 0
  | w :: r, i, l, tw => cond (goodW w) (chk r (i + 1) (mput l w.key (.int .i64 i)) (tw || (mget l w.key).isSome)) 1
def checkV (ws : List Wr) : Int := cond (decide ((ws.length : Int) = 0) || decide ((ws.length : Int) > 8)) 1 (chk ws 0 [] false)
theorem check41 {σ : Hp} {v : Value} {ws : List Wr} (hv : RoRows 3 Wr.cells σ v ws) (hn : ws.length ≤ 140737488355328) : ACalls Try.prog 41 #[v] σ fun u σ' => u = .int .i64 (checkV ws) ∧ σ' = σ := by
  obtain ⟨A, c, rfl, hrow⟩ := hv
  have H := Hid.mk hrow
  clear hrow
  (refine acalls_F ok41 (by simp) ?_; unfold c41 r41)
  (repeat' (first | (simp +contextual -dsimp only [*, Wr.cells, ↓reduceIte, ↓evP, evQ, splice, Nat.reduceAdd, Nat.reduceEqDiff, Nat.reduceLeDiff, Nat.reduceMul, reduceCtorEq, Int.reduceLT, Int.reduceLE, Int.reduceGT, Int.reduceGE, Int.reduceEq, Int.reduceNeg]) | (refine condF_split (fun hc => ?_) (fun hc => ?_) <;> (try simp only [Bool.not_eq_true', Bool.not_eq_false', Bool.and_eq_true, Bool.or_eq_false_iff] at hc)) | (intro _; intros) | (refine And.intro ?_ ?_; focus (first | omega | ((repeat (first | exact Sub.refl _ | (refine Sub.drop ?_ ?_; focus (simp only [evN, *]; done)) | refine Sub.both ?_)); done) | (simp_all; done) | (simp_all; omega)))))
  · exact endF_det (by unfold checkV; rw [hc]; rfl) (Sub.refl _)
  · rename_i h1; exact endF_det (by unfold checkV; rw [h1, hc]; rfl) (Sub.refl _)
  rename_i m hm
  have hck : checkV ws = chk ws 0 [] false := by unfold checkV; rw [‹decide ((ws.length : Int) = 0) = false›, ‹decide ((ws.length : Int) > 8) = false›]; rfl
  rw [hck]
  refine loopF_of (fun k s σ' => ∃ (i : Nat) (l : List (ByteArray × Value)) (tw : Bool), i ≤ ws.length ∧ k = ws.length - i ∧ s 20 = .int .i64 i ∧ s 19 = .int .i64 ws.length ∧ s 18 = .slice A ws.length c ∧ s 3 = .map (some m) ∧ s 4 = .bool tw ∧ σ' = upd σ m (.mp l) ∧
    chk (ws.drop i) i l tw = chk ws 0 [] false) ws.length (Sub.refl _) ⟨0, [], false, by omega, rfl, (by first | rfl | (simp only [↓putO_get, ↓putO_no, init_zero, init_succ, Nat.reduceEqDiff, ↓reduceIte, *]; done) | (simp only [↓putO_get, ↓putO_no, init_zero, init_succ, Nat.reduceEqDiff, ↓reduceIte, *]; rfl)), (by first | rfl | (simp only [↓putO_get, ↓putO_no, init_zero, init_succ, Nat.reduceEqDiff, ↓reduceIte, *]; done) | (simp only [↓putO_get, ↓putO_no, init_zero, init_succ, Nat.reduceEqDiff, ↓reduceIte, *]; rfl)), (by first | rfl | (simp only [↓putO_get, ↓putO_no, init_zero, init_succ, Nat.reduceEqDiff, ↓reduceIte, *]; done) | (simp only [↓putO_get, ↓putO_no, init_zero, init_succ, Nat.reduceEqDiff, ↓reduceIte, *]; rfl)), (by first | rfl | (simp only [↓putO_get, ↓putO_no, init_zero, init_succ, Nat.reduceEqDiff, ↓reduceIte, *]; done) | (simp only [↓putO_get, ↓putO_no, init_zero, init_succ, Nat.reduceEqDiff, ↓reduceIte, *]; rfl)), (by first | rfl | (simp only [↓putO_get, ↓putO_no, init_zero, init_succ, Nat.reduceEqDiff, ↓reduceIte, *]; done) | (simp only [↓putO_get, ↓putO_no, init_zero, init_succ, Nat.reduceEqDiff, ↓reduceIte, *]; rfl)), rfl, rfl⟩ ?_
  rintro k s σ' ⟨i, l, tw, hi, hk, h20, h19, h18, h3, h4, rfl, hc⟩
  rcases Nat.lt_or_ge i ws.length with hlt | hge
  · obtain ⟨w, ho⟩ : ∃ w, ws[i]? = some w := ⟨_, List.getElem?_eq_getElem hlt⟩
    obtain ⟨b, off, rfl, hrd⟩ := H.out i w ho
    have hrd := rdn_sub (Sub.drop (o := .mp l) hm (Sub.refl _)) hrd
    have hd : decide ((i : Int) < (ws.length : Int)) = true := by simp; omega
    have hdrop : ws.drop i = w :: ws.drop (i + 1) := by
      rw [List.drop_eq_getElem_cons hlt]
      rw [List.getElem?_eq_getElem hlt] at ho
      cases ho; rfl
    rw [hdrop] at hc
    have HC := Hid.mk hc
    have HK := Hid.mk hck
    clear ho hc hck hdrop H
    (repeat' (first | (simp +contextual -dsimp only [*, Wr.cells, ↓reduceIte, ↓evP, evQ, splice, Nat.reduceAdd, Nat.reduceEqDiff, Nat.reduceLeDiff, Nat.reduceMul, reduceCtorEq, Int.reduceLT, Int.reduceLE, Int.reduceGT, Int.reduceGE, Int.reduceEq, Int.reduceNeg]) | (refine condF_split (fun hc => ?_) (fun hc => ?_) <;> (try simp only [Bool.not_eq_true', Bool.not_eq_false', Bool.and_eq_true, Bool.or_eq_false_iff] at hc)) | refine callF_v (goodWrite74 _ _) ?_ | refine ccallF_of (goodWrite74 _ _) ?_ | refine gcallF_of (goodWrite74 _ _) ?_ | (intro _; intros) | (refine And.intro ?_ ?_; focus (first | omega | ((repeat (first | exact Sub.refl _ | (refine Sub.drop ?_ ?_; focus (simp only [evN, *]; done)) | refine Sub.both ?_)); done) | (simp_all; done) | (simp_all; omega)))))
    · have hg' := Hid.mk (show goodW w = false by assumption)
      refine endF_det ?_ ?_
      · rw [← HC.out]; unfold chk; rw [hg'.out]; rfl
      · refine Sub.drop ?_ (Sub.drop hm (Sub.refl _)); assumption
    · have hg' := Hid.mk (show goodW w = true by assumption)
      have htw' := Hid.mk (show tw = true by assumption)
      refine nextF_of (σ₁ := upd σ m (.mp (mput l w.key (.int .i64 i)))) (ws.length - (i + 1)) (by omega) (by (repeat (first | exact Sub.refl _ | (refine Sub.drop ?_ ?_; focus (simp only [evN, *]; done)) | refine Sub.both ?_)); done) ⟨i + 1, _, true, by omega, rfl, ?_, (by first | rfl | (simp only [↓putO_get, ↓putO_no, init_zero, init_succ, Nat.reduceEqDiff, ↓reduceIte, *]; done) | (simp only [↓putO_get, ↓putO_no, init_zero, init_succ, Nat.reduceEqDiff, ↓reduceIte, *]; rfl)), (by first | rfl | (simp only [↓putO_get, ↓putO_no, init_zero, init_succ, Nat.reduceEqDiff, ↓reduceIte, *]; done) | (simp only [↓putO_get, ↓putO_no, init_zero, init_succ, Nat.reduceEqDiff, ↓reduceIte, *]; rfl)), (by first | rfl | (simp only [↓putO_get, ↓putO_no, init_zero, init_succ, Nat.reduceEqDiff, ↓reduceIte, *]; done) | (simp only [↓putO_get, ↓putO_no, init_zero, init_succ, Nat.reduceEqDiff, ↓reduceIte, *]; rfl)), (by first | rfl | (simp only [↓putO_get, ↓putO_no, init_zero, init_succ, Nat.reduceEqDiff, ↓reduceIte, *]; done) | (simp only [↓putO_get, ↓putO_no, init_zero, init_succ, Nat.reduceEqDiff, ↓reduceIte, *]; rfl)), rfl, ?_⟩
      · show Value.int .i64 (IntKind.i64.wrap _) = _; rw [wi64 (by omega)]; rfl
      · rw [← HC.out]; conv => rhs; unfold chk
        rw [hg'.out, htw'.out]; rfl
    · have hg' := Hid.mk (show goodW w = true by assumption)
      have htw' := Hid.mk (show tw = false by assumption)
      refine nextF_of (σ₁ := upd σ m (.mp (mput l w.key (.int .i64 i)))) (ws.length - (i + 1)) (by omega) (by (repeat (first | exact Sub.refl _ | (refine Sub.drop ?_ ?_; focus (simp only [evN, *]; done)) | refine Sub.both ?_)); done) ⟨i + 1, _, (mget l w.key).isSome, by omega, rfl, ?_, (by first | rfl | (simp only [↓putO_get, ↓putO_no, init_zero, init_succ, Nat.reduceEqDiff, ↓reduceIte, *]; done) | (simp only [↓putO_get, ↓putO_no, init_zero, init_succ, Nat.reduceEqDiff, ↓reduceIte, *]; rfl)), (by first | rfl | (simp only [↓putO_get, ↓putO_no, init_zero, init_succ, Nat.reduceEqDiff, ↓reduceIte, *]; done) | (simp only [↓putO_get, ↓putO_no, init_zero, init_succ, Nat.reduceEqDiff, ↓reduceIte, *]; rfl)), (by first | rfl | (simp only [↓putO_get, ↓putO_no, init_zero, init_succ, Nat.reduceEqDiff, ↓reduceIte, *]; done) | (simp only [↓putO_get, ↓putO_no, init_zero, init_succ, Nat.reduceEqDiff, ↓reduceIte, *]; rfl)), (by first | rfl | (simp only [↓putO_get, ↓putO_no, init_zero, init_succ, Nat.reduceEqDiff, ↓reduceIte, *]; done) | (simp only [↓putO_get, ↓putO_no, init_zero, init_succ, Nat.reduceEqDiff, ↓reduceIte, *]; rfl)), rfl, ?_⟩
      · show Value.int .i64 (IntKind.i64.wrap _) = _; rw [wi64 (by omega)]; rfl
      · rw [← HC.out]; conv => rhs; unfold chk
        rw [hg'.out, htw'.out]; rfl
  · have hd : decide ((i : Int) < (ws.length : Int)) = false := by simp; omega
    have hdrop : ws.drop i = [] := List.drop_eq_nil_of_le hge
    rw [hdrop] at hc
    have HC := Hid.mk hc
    clear hc hck
    cases tw
    all_goals simp +contextual -dsimp only [*, Wr.cells, ↓reduceIte, ↓evP, evQ, splice, Nat.reduceAdd, Nat.reduceEqDiff, Nat.reduceLeDiff, Nat.reduceMul, reduceCtorEq, Int.reduceLT, Int.reduceLE, Int.reduceGT, Int.reduceGE, Int.reduceEq, Int.reduceNeg]
    all_goals exact endF_det (by rw [← HC.out]; rfl) (Sub.drop hm (Sub.refl _))
theorem chk_twice : ∀ (ws : List Wr) (i : Nat) (l : List (ByteArray × Value)), chk ws i l true ≠ 0
  | [], i, l => by show (22 : Int) ≠ 0; decide
  | w :: r, i, l => by
    unfold chk
    cases goodW w
    · show (1 : Int) ≠ 0; decide
    · exact chk_twice r _ _
theorem chk_zero {w : Wr} {r : List Wr} {i : Nat} {l : List (ByteArray × Value)} (h : chk (w :: r) i l false = 0) : mget l w.key = none ∧ chk r (i + 1) (mput l w.key (.int .i64 i)) false = 0 := by
  unfold chk at h
  cases hg : goodW w <;> rw [hg] at h
  · exact absurd h (by show (1 : Int) ≠ 0; decide)
  · have h : chk r (i + 1) (mput l w.key (.int .i64 i)) (false || (mget l w.key).isSome) = 0 := h
    cases hm : mget l w.key with
    | none => rw [hm] at h; exact ⟨rfl, h⟩
    | some x => rw [hm] at h; exact absurd h (chk_twice _ _ _)
theorem mget_mput (k k' : ByteArray) (v : Value) : ∀ (l : List (ByteArray × Value)), (mget (mput l k v) k').isSome = (decide (k' = k) || (mget l k').isSome)
  | [] => by by_cases h : k' = k <;> simp [mput, mget, h]
  | p :: r => by
    have ih := mget_mput k k' v r
    unfold mput
    by_cases h : k = p.1
    · rw [if_pos h]
      unfold mget
      by_cases h' : k' = k
      · rw [if_pos h', if_pos (h'.trans h)]; simp
      · rw [if_neg h', if_neg (fun e => h' (e.trans h.symm))]; simp [h']
    · rw [if_neg h]
      unfold mget
      by_cases h' : k' = p.1
      · rw [if_pos h', if_pos h']; simp
      · rw [if_neg h', if_neg h']; exact ih
theorem chk_good : ∀ (ws : List Wr) (i : Nat) (l : List (ByteArray × Value)), chk ws i l false = 0 → (∀ w ∈ ws, goodW w = true ∧ mget l w.key = none) ∧ (keysOf ws).Nodup
  | [], _, _, _ => ⟨(fun w h => by cases h), List.Pairwise.nil⟩
  | w :: r, i, l, h => by
    have hg : goodW w = true := by
      unfold chk at h
      cases hg : goodW w with
      | true => rfl
      | false => rw [hg] at h; exact absurd h (by show (1 : Int) ≠ 0; decide)
    obtain ⟨h1, h2⟩ := chk_zero h
    obtain ⟨h3, h4⟩ := chk_good r _ _ h2
    refine ⟨fun x hx => ?_, List.nodup_cons.2 ⟨fun hm => ?_, h4⟩⟩
    · rcases List.mem_cons.1 hx with rfl | hx
      · exact ⟨hg, h1⟩
      · obtain ⟨a, b⟩ := h3 x hx
        refine ⟨a, ?_⟩
        have := mget_mput w.key x.key (.int .i64 i) l
        rw [b] at this
        cases hq : mget l x.key with
        | none => rfl
        | some y => rw [hq] at this; simp at this
    · obtain ⟨x, hx, e⟩ := List.mem_map.1 hm
      obtain ⟨_, b⟩ := h3 x hx
      have := mget_mput w.key x.key (.int .i64 i) l
      rw [b] at this
      have e : x.key = w.key := e
      simp [e] at this
/-- Writes that may be committed. -/
structure GoodWs (ws : List Wr) : Prop where
  some : ws ≠ []
  few : ws.length ≤ 8
  good : ∀ w ∈ ws, goodW w = true
  once : (keysOf ws).Nodup
theorem check_good {ws : List Wr} (h : checkV ws = 0) : GoodWs ws := by
  unfold checkV at h
  cases h1 : (decide ((ws.length : Int) = 0) || decide ((ws.length : Int) > 8)) <;> rw [h1] at h
  · obtain ⟨a, b⟩ := chk_good ws 0 [] h
    simp only [Bool.or_eq_false_iff, decide_eq_false_iff_not] at h1
    exact ⟨fun e => h1.1 (by rw [e]; rfl), by omega, fun w hw => (a w hw).1, b⟩
  · exact absurd h (by show (1 : Int) ≠ 0; decide)
theorem goodW_key {w : Wr} (h : goodW w = true) : goodS w.key = true := by
  unfold goodW goodK at h
  unfold goodS
  simp only [Bool.and_eq_true, decide_eq_true_eq, Bool.not_eq_true', decide_eq_false_iff_not] at h ⊢
  refine ⟨fun e => ?_, by omega⟩
  have := h.1.1.1
  rw [e] at this
  exact absurd this (by decide)
theorem GoodWs.keys {ws : List Wr} (h : GoodWs ws) : keysOf ws ≠ [] ∧ (keysOf ws).length ≤ 8 ∧ (∀ k ∈ keysOf ws, goodS k = true) ∧ (keysOf ws).Nodup := by
  refine ⟨fun e => h.some (List.map_eq_nil_iff.1 e), by unfold keysOf; rw [List.length_map]; exact h.few, fun k hk => ?_, h.once⟩
  obtain ⟨w, hw, rfl⟩ := List.mem_map.1 hk
  exact goodW_key (h.good w hw)
/-- The slice v holds the list l: nil, or the end of a row. -/
def RowsOff {α : Type} (E sz : Nat) (f : α → List Value) (σ : Hp) (v : Value) (l : List α) : Prop :=
  (v = .slice none 0 0 ∧ l = []) ∨ ∃ b pre c, v = .slice (some ⟨b, pre.length, none⟩) l.length c ∧ l.length ≤ c ∧ σ b = some (.row (pre ++ l.flatMap f) (pre.length + c * sz) E)
theorem RowsOff.of {α : Type} {E sz : Nat} {f : α → List Value} {σ : Hp} {v : Value} {l : List α} (h : RowsAt E sz f σ v l) : RowsOff E sz f σ v l := by
  rcases h with h | ⟨b, c, rfl, hc, hb⟩
  · exact .inl h
  · exact .inr ⟨b, [], c, rfl, hc, by simpa using hb⟩
theorem RowsOff.ro {α : Type} {E sz : Nat} {f : α → List Value} (hf : ∀ x, (f x).length = sz) {σ : Hp} {v : Value} {l : List α} (h : RowsOff E sz f σ v l) : RoRows sz f σ v l := by
  rcases h with ⟨rfl, rfl⟩ | ⟨b, pre, c, rfl, hc, hb⟩
  · exact ⟨none, 0, rfl, fun i x hx => by simp at hx⟩
  · refine ⟨some ⟨b, pre.length, none⟩, c, rfl, fun i x hx => ⟨b, pre.length, rfl, ?_⟩⟩
    unfold rdn
    rw [hb]
    show seg _ (pre.length + i * sz) sz = _
    obtain ⟨A, B, h1, h2⟩ := flat_split hf hx
    rw [h1, ← List.append_assoc, ← List.append_assoc, ← h2, ← List.length_append]
    have := seg_mid (pre ++ A) (f x) B 0 sz (by rw [hf]; omega)
    rw [Nat.add_zero] at this
    rw [this]
    have e := seg_all (f x)
    rw [hf] at e
    exact e
theorem RowsOff.keep {α : Type} {E sz : Nat} {f : α → List Value} {σ σ' : Hp} {v : Value} {l : List α} (h : RowsOff E sz f σ v l) (hk : ∀ k, blk v = some k → σ' k = σ k) : RowsOff E sz f σ' v l := by
  rcases h with h | ⟨b, pre, c, rfl, hc, hb⟩
  · exact .inl h
  · exact .inr ⟨b, pre, c, rfl, hc, by rw [hk b rfl]; exact hb⟩
theorem RowsOff.same {α : Type} {E sz : Nat} {f : α → List Value} {σ σ' : Hp} {v : Value} {l : List α} {F : Nat → Prop} (h : RowsOff E sz f σ v l) (hs : Same F σ σ') (hF : ∀ k cs r, F k → σ k = some (.row cs r E) → False) : RowsOff E sz f σ' v l :=
  h.keep fun k hk => by
    rcases h with ⟨rfl, _⟩ | ⟨b, pre, c, rfl, _, hb⟩
    · cases hk
    · cases hk; exact hs _ (by rw [hb]; simp) fun hf => hF _ _ _ hf hb
theorem RowsOff.fresh {α : Type} {E sz : Nat} {f : α → List Value} {σ : Hp} {v : Value} {l : List α} (h : RowsOff E sz f σ v l) {b : Nat} (hb : σ b = none) (o : Blk) : RowsOff E sz f (upd σ b o) v l :=
  h.keep fun k hk => upd_ne _ _ fun e => by
    subst e
    rcases h with ⟨rfl, _⟩ | ⟨b, pre, c, rfl, _, hb'⟩
    · cases hk
    · cases hk; rw [hb] at hb'; cases hb'
theorem RowsOff.slice {α : Type} {E sz : Nat} {f : α → List Value} {σ : Hp} {v : Value} {l : List α} (h : RowsOff E sz f σ v l) : ∃ a c, v = .slice a l.length c := by
  rcases h with ⟨rfl, rfl⟩ | ⟨b, pre, c, rfl, _, _⟩
  · exact ⟨_, _, rfl⟩
  · exact ⟨_, _, rfl⟩
/-- The end of it, from place i on. -/
theorem RowsOff.drop {α : Type} {E sz : Nat} {f : α → List Value} (hf : ∀ x, (f x).length = sz) {σ : Hp} {b o n c : Nat} {l : List α} (h : RowsOff E sz f σ (.slice (some ⟨b, o, none⟩) n c) l) (i : Nat) (hi : i < n) : RowsOff E sz f σ (.slice (some ⟨b, o + i * sz, none⟩) (n - i) (c - i)) (l.drop i) := by
  rcases h with ⟨e, _⟩ | ⟨b', pre, c', e, hc, hb⟩
  · cases e
  · injection e with e1 e2 e3
    injection e1 with e1; injection e1 with e1 e4
    subst e1; subst e2; subst e3; subst e4
    have hlen : (pre ++ (l.take i).flatMap f).length = pre.length + i * sz := by rw [List.length_append, flat_len hf, List.length_take, Nat.min_eq_left (by omega)]
    refine .inr ⟨b, pre ++ (l.take i).flatMap f, c - i, by rw [hlen, List.length_drop], by rw [List.length_drop]; omega, ?_⟩
    rw [hlen, hb]
    congr 2
    · rw [List.append_assoc, ← List.flatMap_append, List.take_append_drop]
    · rw [Nat.sub_mul]
      have : i * sz ≤ c * sz := Nat.mul_le_mul_right _ (by omega)
      omega
theorem clone42 {σ : Hp} {v : Value} {l : List Ver} (h : RowsOff 109 3 Ver.cells σ v l) (hn : l.length ≤ 1048576) :
    ACalls Try.prog 42 #[v] σ fun u σ' => RowsAt 109 3 Ver.cells σ' u l ∧ Made σ σ' u := by
  have hro := h.ro Ver.cells_len
  rcases h with ⟨rfl, rfl⟩ | ⟨b, pre, c, rfl, hc, hb⟩
  · (refine acalls_F ok42 (by simp) ?_; unfold c42 r42; simp +contextual -dsimp only [↓reduceIte, ↓evP, evQ, splice, Nat.reduceAdd, Nat.reduceEqDiff, Nat.reduceLeDiff, Nat.reduceMul, reduceCtorEq, Int.reduceLT, Int.reduceLE, Int.reduceGT, Int.reduceGE, Int.reduceEq, Int.reduceNeg])
    exact endF_at ⟨.inl ⟨rfl, rfl⟩, Made.nil _⟩
  · have hrd : rdn σ b pre.length (l.length * 3) = some (l.flatMap Ver.cells) := by
      unfold rdn; rw [hb]
      have := seg_mid pre (l.flatMap Ver.cells) [] 0 (l.length * 3) (by rw [flat_len Ver.cells_len]; omega)
      rw [Nat.add_zero, List.append_nil] at this
      show seg _ _ _ = _
      rw [this]
      have e := seg_all (l.flatMap Ver.cells)
      rw [flat_len Ver.cells_len] at e
      exact e
    have hone : (l.flatMap Ver.cells).all Go.Sp.one = true := flat_one (fun _ => rfl) _
    clear hb hro
    (refine acalls_F ok42 (by simp) ?_; unfold c42 r42)
    (repeat' (first | (simp +contextual -dsimp only [*, ↓reduceIte, ↓evP, evQ, splice, Nat.reduceAdd, Nat.reduceEqDiff, Nat.reduceLeDiff, Nat.reduceMul, reduceCtorEq, Int.reduceLT, Int.reduceLE, Int.reduceGT, Int.reduceGE, Int.reduceEq, Int.reduceNeg]) | (refine condF_split (fun hc => ?_) (fun hc => ?_) <;> (try simp only [Bool.not_eq_true', Bool.not_eq_false', Bool.and_eq_true, Bool.or_eq_false_iff] at hc)) | (intro _; intros) | (refine And.intro ?_ ?_; focus (first | omega | ((repeat (first | exact Sub.refl _ | (refine Sub.drop ?_ ?_; focus (simp only [evN, *]; done)) | refine Sub.both ?_)); done) | (simp_all; done) | (simp_all; omega)))))
    rename_i b2 hb2
    refine app_b (rdn_sub (Sub.drop hb2 (Sub.refl _)) hrd) hone (by first | (simp only [upd_at, *, ↓reduceIte]; done) | (simp only [upd_at, *, ↓reduceIte]; rfl)) rfl (by omega) (by omega) (by unfold maxLen; omega) ?_ ?_
    all_goals (repeat' (first | (simp +contextual -dsimp only [*, ↓reduceIte, ↓evP, evQ, splice, Nat.reduceAdd, Nat.reduceEqDiff, Nat.reduceLeDiff, Nat.reduceMul, reduceCtorEq, Int.reduceLT, Int.reduceLE, Int.reduceGT, Int.reduceGE, Int.reduceEq, Int.reduceNeg]) | (refine condF_split (fun hc => ?_) (fun hc => ?_) <;> (try simp only [Bool.not_eq_true', Bool.not_eq_false', Bool.and_eq_true, Bool.or_eq_false_iff] at hc)) | (intro _; intros) | (refine And.intro ?_ ?_; focus (first | omega | ((repeat (first | exact Sub.refl _ | (refine Sub.drop ?_ ?_; focus (simp only [evN, *]; done)) | refine Sub.both ?_)); done) | (simp_all; done) | (simp_all; omega)))))
    all_goals (refine endF_at ⟨?_, ?_, ?_⟩; (focus exact rows_mk (by simp) (by omega) (by first | (simp only [upd_at, *, ↓reduceIte, List.nil_append]; done) | (simp only [upd_at, *, ↓reduceIte, List.nil_append]; rfl))); (focus exact (by repeat (first | exact Same.refl _ _ | (refine Same.updNew ?_ ?_; focus (simp only [evN, *]; done)) | (refine Same.both ?_ ?_; focus (first | exact rfl | exact .inl rfl | exact .inr rfl)) | (refine Same.updIn ?_ ?_; focus (first | exact rfl | exact .inl rfl | exact .inr rfl)) | refine Same.eq ?_))); (focus (intro k hk; cases hk; exact (by simp only [evN, *]; done))))
theorem push_len {m : Nat} {v : Ver} {r : Row} (h : r.list.length ≤ m) : (r.push m v).list.length ≤ m := by
  unfold Row.push
  by_cases e : m < r.list.length + 1
  · rw [if_pos e]; simp; omega
  · rw [if_neg e]; simp; omega
structure StOk (S : St) : Prop where
  most : 1 ≤ S.most ∧ S.most ≤ 64
  len : ∀ k, (S.row k).list.length ≤ S.most
  last : S.last < 1048576
def RowRep (σ : Hp) (v : Value) (r : Row) : Prop := ∃ sv, v = .agg #[sv, .bool r.dropped] ∧ RowsOff 109 3 Ver.cells σ sv r.list
def noRow : Value := .agg #[.slice none 0 0, .bool false]
def MapRep (σ : Hp) (l : List (ByteArray × Value)) (R : ByteArray → Row) : Prop := ∀ k, RowRep σ ((mget l k).getD noRow) (R k)
structure StoreAt (σ : Hp) (g m : Nat) (S : St) : Prop where
  cell : σ g = some (.cells [.map (some m), .int .i64 S.most, .int .i64 S.last] 100)
  map : ∃ l, σ m = some (.mp l) ∧ MapRep σ l S.row
theorem RowRep.same {σ σ' : Hp} {v : Value} {r : Row} {F : Nat → Prop} (h : RowRep σ v r) (hs : Same F σ σ') (hF : ∀ k cs n, F k → σ k = some (.row cs n 109) → False) : RowRep σ' v r := by
  obtain ⟨sv, e, h⟩ := h
  exact ⟨sv, e, h.same hs hF⟩
theorem mget_mput_eq (k k' : ByteArray) (v : Value) : ∀ (l : List (ByteArray × Value)), mget (mput l k v) k' = if k' = k then some v else mget l k'
  | [] => by
    unfold mput mget
    by_cases h : k' = k
    · rw [if_pos h, if_pos h]
    · rw [if_neg h, if_neg h]; rfl
  | p :: r => by
    have ih := mget_mput_eq k k' v r
    unfold mput
    by_cases h : k = p.1
    · rw [if_pos h]
      unfold mget
      by_cases h' : k' = k
      · rw [if_pos h', if_pos h']
      · rw [if_neg h', if_neg h', if_neg (fun e => h' (e.trans h.symm))]
    · rw [if_neg h]
      unfold mget
      by_cases h' : k' = p.1
      · rw [if_pos h', if_pos h', if_neg (fun e => h (e.symm.trans h'))]
      · rw [if_neg h', if_neg h', ih]
theorem _root_.Go.Sp.open_4 {σ : Hp} {a b c d : Nat} {A B C D : Blk} (ha : σ a = some A) (hb : σ b = some B) (hc : σ c = some C) (hd : σ d = some D) : ∃ τ, τ = σ ∧ σ = upd (upd (upd (upd τ d D) c C) b B) a A := ⟨σ, rfl, by rw [upd_self hd, upd_self hc, upd_self hb, upd_self ha]⟩
theorem commit_round {σ1 τ1 σd σf : Hp} {m y : Nat} {l : List (ByteArray × Value)} {R : ByteArray → Row} {w : Wr} {most n : Nat} {sv : Value} {d : Bool} (hr0 : MapRep τ1 l R) (hlen : ∀ k, (R k).list.length ≤ most) (hs1 : Same (fun k => k = m) σ1 τ1)
    (hm : τ1 m = some (.mp l)) (hy : τ1 y = none) (h1 : Same (fun _ => False) τ1 σd) (hS : Same (fun k => k = m ∨ k = y) σd σf) (hd : d = ((R w.key).push most (w.ver n)).dropped) (hrow : RowsOff 109 3 Ver.cells σf sv ((R w.key).push most (w.ver n)).list) :
    MapRep σf (mput l w.key (.agg #[sv, .bool d])) (stepW most n R w) ∧ (∀ k, (stepW most n R w k).list.length ≤ most) ∧ Same (fun k => k = m) σ1 σf := by
  have hall : Same (fun k => k = m) τ1 σf := fun k hk hkm => by
    rw [hS k (by rw [h1 k hk (fun x => x)]; exact hk) (fun e => e.elim hkm fun e => hk (by rw [e]; exact hy)), h1 k hk (fun x => x)]
  refine ⟨fun k => ?_, fun k => ?_, hs1.trans hall fun i _ h => h⟩
  · rw [mget_mput_eq]
    unfold stepW
    by_cases e : k = w.key
    · rw [if_pos e, if_pos e, e]
      exact ⟨sv, by rw [hd]; rfl, hrow⟩
    · rw [if_neg e, if_neg e]
      exact (hr0 k).same hall fun k' cs r e h => by subst e; rw [hm] at h; cases h
  · unfold stepW
    by_cases e : k = w.key
    · rw [if_pos e]; exact push_len (hlen k)
    · rw [if_neg e]; exact hlen k
set_option maxHeartbeats 4000000 in
theorem commit9 {σ : Hp} {g m : Nat} {S : St} {v : Value} {ws : List Wr} (hS : StoreAt σ g m S) (hO : StOk S) {σ0 : Hp} (hv0 : RoRows 3 Wr.cells σ0 v ws) (hs0 : Sub σ0 σ) (hg0 : σ0 g = none) (hm0 : σ0 m = none) (hn : ws.length ≤ 140737488355328) :
    ACalls Try.prog 9 #[.pointer (some ⟨g, 0, none⟩), v] σ fun u σ' => (¬ checkV ws = 0 ∧ u = .tuple #[.int .i64 0, .int .i64 (checkV ws)] ∧ σ' = σ) ∨
      (checkV ws = 0 ∧ u = .tuple #[.int .i64 (S.last + 1 : Nat), .int .i64 0] ∧ StoreAt σ' g m (S.commit ws) ∧ Same (fun k => k = g ∨ k = m) σ σ') := by
  have HV := Hid.mk (hv0.sub hs0)
  have HV0 := Hid.mk hv0
  obtain ⟨A, c, rfl⟩ : ∃ A c, v = .slice A ws.length c := by obtain ⟨A, c, rfl, _⟩ := hv0; exact ⟨A, c, rfl⟩
  clear hv0
  have HS0 := Hid.mk (And.intro hs0 (And.intro hg0 hm0))
  clear hs0 hg0 hm0
  obtain ⟨hcell, l0, hm, hrep⟩ := hS
  have HR := Hid.mk hrep
  have HO := Hid.mk hO
  have hgm : ¬ g = m := fun e => by rw [e, hm] at hcell; cases hcell
  have hmg : ¬ m = g := fun e => hgm e.symm
  obtain ⟨τ, rfl⟩ := open_2 hcell hm hgm
  clear hcell hm hrep hO
  have hb : decide ((S.last : Int) ≥ 1099511627776) = false := by have := HO.out.last; simp; omega
  have e0 : IntKind.i64.wrap ((S.last : Int) + 1) = ((S.last + 1 : Nat) : Int) := by have := HO.out.last; rw [wi64 (by omega)]; rfl
  (refine acalls_F ok9 (by simp) ?_; unfold c9 r9)
  (repeat' (first | (simp +contextual -dsimp only [*, Wr.cells, ↓reduceIte, ↓evP, evQ, splice, Nat.reduceAdd, Nat.reduceEqDiff, Nat.reduceLeDiff, Nat.reduceMul, reduceCtorEq, Int.reduceLT, Int.reduceLE, Int.reduceGT, Int.reduceGE, Int.reduceEq, Int.reduceNeg]) | (refine condF_split (fun hc => ?_) (fun hc => ?_) <;> (try simp only [Bool.not_eq_true', Bool.not_eq_false', Bool.and_eq_true, Bool.or_eq_false_iff] at hc)) | refine callF_v (check41 HV.out hn) ?_ | refine ccallF_of (check41 HV.out hn) ?_ | refine gcallF_of (check41 HV.out hn) ?_ | (intro _; intros) | (refine And.intro ?_ ?_; focus (first | omega | ((repeat (first | exact Sub.refl _ | (refine Sub.drop ?_ ?_; focus (simp only [evN, *]; done)) | refine Sub.both ?_)); done) | (simp_all; done) | (simp_all; omega)))))
  · exact endF_at (.inl ⟨of_decide_eq_false hc, rfl, rfl⟩)
  have hck := Hid.mk (of_decide_eq_true hc)
  clear hc
  have hw8 : ws.length ≤ 8 := (check_good hck.out).few
  have hlast := HO.out.last
  obtain ⟨σ, hσ⟩ : ∃ σ, σ = upd (upd τ m (.mp l0)) g (.cells [.map (some m), .int .i64 S.most, .int .i64 S.last] 100) := ⟨_, rfl⟩
  obtain ⟨σ1, hσ1⟩ : ∃ σ1, σ1 = upd (upd τ m (.mp l0)) g (.cells [.map (some m), .int .i64 S.most, .int .i64 (S.last + 1 : Nat)] 100) := ⟨_, rfl⟩
  have h01 : Same (fun k => k = g) σ σ1 := by rw [hσ, hσ1]; exact Same.both rfl (Same.refl _ _)
  have hcell1 : σ1 g = some (.cells [.map (some m), .int .i64 S.most, .int .i64 (S.last + 1 : Nat)] 100) := by rw [hσ1, upd_same]
  have hm1 : σ1 m = some (.mp l0) := by rw [hσ1, upd_ne _ _ hmg, upd_same]
  have hσg : σ g = some (.cells [.map (some m), .int .i64 S.most, .int .i64 S.last] 100) := by rw [hσ, upd_same]
  rw [← hσ] at HV HR HS0
  rw [← hσ, ← hσ1]
  clear hσ hσ1
  have hs1 : Sub σ0 σ1 := HS0.out.1.same h01 fun k e => by rw [e]; exact HS0.out.2.1
  have hrep1 : MapRep σ1 l0 S.row := fun k => (HR.out k).same h01 fun k' cs n e h => by rw [e, hσg] at h; cases h
  refine loopF_of (fun k s σ' => ∃ (i : Nat) (l : List (ByteArray × Value)), i ≤ ws.length ∧ k = ws.length - i ∧ s 32 = .int .i64 i ∧ s 31 = .int .i64 ws.length ∧ s 30 = .slice A ws.length c ∧ s 0 = .pointer (some ⟨g, 0, none⟩) ∧
    σ' g = some (.cells [.map (some m), .int .i64 S.most, .int .i64 (S.last + 1 : Nat)] 100) ∧ σ' m = some (.mp l) ∧ MapRep σ' l ((ws.take i).foldl (stepW S.most (S.last + 1)) S.row) ∧ (∀ k, ((ws.take i).foldl (stepW S.most (S.last + 1)) S.row k).list.length ≤ S.most) ∧ Same (fun k => k = m) σ1 σ') ws.length (Sub.refl _)
    ⟨0, l0, by omega, rfl, (by first | rfl | (simp only [↓putO_get, ↓putO_no, init_zero, init_succ, Nat.reduceEqDiff, ↓reduceIte, *]; done) | (simp only [↓putO_get, ↓putO_no, init_zero, init_succ, Nat.reduceEqDiff, ↓reduceIte, *]; rfl)), (by first | rfl | (simp only [↓putO_get, ↓putO_no, init_zero, init_succ, Nat.reduceEqDiff, ↓reduceIte, *]; done) | (simp only [↓putO_get, ↓putO_no, init_zero, init_succ, Nat.reduceEqDiff, ↓reduceIte, *]; rfl)), (by first | rfl | (simp only [↓putO_get, ↓putO_no, init_zero, init_succ, Nat.reduceEqDiff, ↓reduceIte, *]; done) | (simp only [↓putO_get, ↓putO_no, init_zero, init_succ, Nat.reduceEqDiff, ↓reduceIte, *]; rfl)), (by first | rfl | (simp only [↓putO_get, ↓putO_no, init_zero, init_succ, Nat.reduceEqDiff, ↓reduceIte, *]; done) | (simp only [↓putO_get, ↓putO_no, init_zero, init_succ, Nat.reduceEqDiff, ↓reduceIte, *]; rfl)), hcell1, hm1, hrep1, HO.out.len, Same.refl _ _⟩ ?_
  clear hcell1 hm1 hrep1
  have hs1 := Hid.mk hs1
  rintro k s τ1 ⟨i, l, hi, hk, h32, h31, h30, hp0, hcell, hm, hrep, hlen, hsame⟩
  rcases Nat.lt_or_ge i ws.length with hlt | hge
  · obtain ⟨w, hw⟩ : ∃ w, ws[i]? = some w := ⟨_, List.getElem?_eq_getElem hlt⟩
    have hsub : Sub σ0 τ1 := hs1.out.same hsame fun k e => by rw [e]; exact HS0.out.2.2
    obtain ⟨b, off, e, hrd⟩ := (HV0.out.sub hsub).get hlt
    subst e
    rw [show ws[i] = w by rw [List.getElem?_eq_getElem hlt] at hw; exact Option.some.inj hw] at hrd
    have hd : decide ((i : Int) < (ws.length : Int)) = true := by simp; omega
    have e1 : IntKind.i64.wrap ((i : Int) + 1) = ((i + 1 : Nat) : Int) := by rw [wi64 (by omega)]; rfl
    obtain ⟨r, hr⟩ : ∃ r, r = (ws.take i).foldl (stepW S.most (S.last + 1)) S.row w.key := ⟨_, rfl⟩
    obtain ⟨sv, hsv, hrow⟩ := hrep w.key
    rw [← hr] at hsv hrow
    obtain ⟨ra, rc, rfl⟩ := hrow.slice
    unfold noRow at hsv
    have hrl : r.list.length ≤ S.most := by rw [hr]; exact hlen _
    have HR2 := Hid.mk (And.intro hrep (And.intro hlen (And.intro hsame (And.intro hw hsub))))
    have HROW := Hid.mk hrow
    have Hr := Hid.mk hr
    have hfold : (ws.take (i + 1)).foldl (stepW S.most (S.last + 1)) S.row = stepW S.most (S.last + 1) ((ws.take i).foldl (stepW S.most (S.last + 1)) S.row) w := by
      rw [List.take_add_one, hw, List.foldl_append]; rfl
    have hfold := Hid.mk hfold
    clear hr hrep hlen hsame hw hrow hsub
    have HC := Hid.mk (And.intro hcell hm)
    obtain ⟨τ2, rfl⟩ := open_2 hcell hm hgm
    clear hcell hm
    have hmost := HO.out.most
    (repeat' (first | (simp +contextual -dsimp only [*, Wr.cells, ↓reduceIte, ↓evP, evQ, splice, Nat.reduceAdd, Nat.reduceEqDiff, Nat.reduceLeDiff, Nat.reduceMul, reduceCtorEq, Int.reduceLT, Int.reduceLE, Int.reduceGT, Int.reduceGE, Int.reduceEq, Int.reduceNeg]) | (refine condF_split (fun hc => ?_) (fun hc => ?_) <;> (try simp only [Bool.not_eq_true', Bool.not_eq_false', Bool.and_eq_true, Bool.or_eq_false_iff] at hc)) | (intro _; intros) | (refine And.intro ?_ ?_; focus (first | omega | ((repeat (first | exact Sub.refl _ | (refine Sub.drop ?_ ?_; focus (simp only [evN, *]; done)) | refine Sub.both ?_)); done) | (simp_all; done) | (simp_all; omega)))))
    rename_i x x1 x1' x2 x2' x0 y y1 y1' y2 y2' y3 y3' y0
    obtain ⟨σb, hσb⟩ : ∃ σb, σb = upd (upd (upd (upd τ2 m (.mp l)) g (.cells [.map (some m), .int .i64 S.most, .int .i64 (S.last + 1 : Nat)] 100)) x (.cells [.string w.key, .bool w.has, .string w.data] 33)) y (.cells [.slice ra r.list.length rc, .bool r.dropped] 106) := ⟨_, rfl⟩
    have hnx : upd (upd τ2 m (.mp l)) g (.cells [.map (some m), .int .i64 S.most, .int .i64 (S.last + 1 : Nat)] 100) x = none := (by simp only [evN, *]; done)
    have hny : upd (upd (upd τ2 m (.mp l)) g (.cells [.map (some m), .int .i64 S.most, .int .i64 (S.last + 1 : Nat)] 100)) x (.cells [.string w.key, .bool w.has, .string w.data] 33) y = none := (by simp only [evN, *]; done)
    have hrowb : RowsOff 109 3 Ver.cells σb (.slice ra r.list.length rc) r.list := by rw [hσb]; exact (HROW.out.fresh hnx _).fresh hny _
    refine gcallF_first (clone42 (hσb ▸ hrowb) (by omega)) (fun v σ1 h => h.2.sub) ?_
    rintro v1 σc ⟨hr1, hm1⟩
    rw [← hσb] at hm1
    have H1 := Hid.mk (And.intro hr1 hm1)
    clear hr1 hm1
    (repeat' (first | (simp +contextual -dsimp only [*, Wr.cells, ↓reduceIte, ↓evP, evQ, splice, Nat.reduceAdd, Nat.reduceEqDiff, Nat.reduceLeDiff, Nat.reduceMul, reduceCtorEq, Int.reduceLT, Int.reduceLE, Int.reduceGT, Int.reduceGE, Int.reduceEq, Int.reduceNeg]) | (refine condF_split (fun hc => ?_) (fun hc => ?_) <;> (try simp only [Bool.not_eq_true', Bool.not_eq_false', Bool.and_eq_true, Bool.or_eq_false_iff] at hc)) | (intro _; intros) | (refine And.intro ?_ ?_; focus (first | omega | ((repeat (first | exact Sub.refl _ | (refine Sub.drop ?_ ?_; focus (simp only [evN, *]; done)) | refine Sub.both ?_)); done) | (simp_all; done) | (simp_all; omega)))))
    rename_i z z0
    refine app_row (ys := [w.ver (S.last + 1)]) Ver.cells_len (fun _ => rfl) (H1.out.1.fresh z0 _) (by first | (simp only [Nat.reduceMul, Nat.one_mul, Nat.zero_mul, rdn_row, rdn_same, rdn_ne, seg_zero, seg_cons, seg_skip, Option.map_some, not_false_eq_true, *]; done) | (simp only [Nat.reduceMul, Nat.one_mul, Nat.zero_mul, rdn_row, rdn_same, rdn_ne, seg_zero, seg_cons, seg_skip, Option.map_some, not_false_eq_true, *]; exact rfl)) rfl (by omega) (by omega) (by unfold maxLen; omega) ?_
    intro v2 σd hv2 hG
    have hMd := (H1.out.2.beside z0 _).grew hG
    have k1 : σd g = some (.cells [.map (some m), .int .i64 S.most, .int .i64 (S.last + 1 : Nat)] 100) := hMd.1.at (by rw [hσb]; simp only [upd_at, *, ↓reduceIte]) (fun x => x)
    have k2 : σd m = some (.mp l) := hMd.1.at (by rw [hσb]; simp only [upd_at, *, ↓reduceIte]) (fun x => x)
    have k3 : σd x = some (.cells [.string w.key, .bool w.has, .string w.data] 33) := hMd.1.at (by rw [hσb]; simp only [upd_at, *, ↓reduceIte]) (fun x => x)
    have k4 : σd y = some (.cells [.slice ra r.list.length rc, .bool r.dropped] 106) := hMd.1.at (by rw [hσb]; simp only [upd_at, *, ↓reduceIte]) (fun x => x)
    obtain ⟨b2, c2, rfl, hc2, hb2⟩ : ∃ b2 c2, v2 = .slice (some ⟨b2, 0, none⟩) (r.list.length + 1) c2 ∧ r.list.length + 1 ≤ c2 ∧ σd b2 = some (.row ((r.list ++ [w.ver (S.last + 1)]).flatMap Ver.cells) (c2 * 3) 109) := by
      rcases hv2 with ⟨_, e⟩ | ⟨b2, c2, e, h1, h2⟩
      · simp at e
      · rw [List.length_append] at e h1; exact ⟨b2, c2, e, h1, h2⟩
    have HD := Hid.mk (And.intro hv2 (And.intro hMd (And.intro k1 (And.intro k2 hb2))))
    have Hb := Hid.mk hσb
    have HRB := Hid.mk hrowb
    have hng : ∀ b2, σd b2 = some (.row ((r.list ++ [w.ver (S.last + 1)]).flatMap Ver.cells) (c2 * 3) 109) → ¬ b2 = g ∧ ¬ b2 = m ∧ ¬ b2 = x ∧ ¬ b2 = y := fun b h => ⟨(fun e => by rw [e, k1] at h; cases h), (fun e => by rw [e, k2] at h; cases h), (fun e => by rw [e, k3] at h; cases h), (fun e => by rw [e, k4] at h; cases h)⟩
    clear hv2 hG hMd hb2 hσb hrowb hrd
    obtain ⟨σe, hσe, hop⟩ := open_4 k1 k2 k3 k4
    rw [hop]
    have HE := Hid.mk (And.intro hσe hop)
    clear k1 k2 k3 k4 hσe hop
    (repeat' (first | (simp +contextual -dsimp only [*, Wr.cells, ↓reduceIte, ↓evP, evQ, splice, Nat.reduceAdd, Nat.reduceEqDiff, Nat.reduceLeDiff, Nat.reduceMul, reduceCtorEq, Int.reduceLT, Int.reduceLE, Int.reduceGT, Int.reduceGE, Int.reduceEq, Int.reduceNeg]) | (refine condF_split (fun hc => ?_) (fun hc => ?_) <;> (try simp only [Bool.not_eq_true', Bool.not_eq_false', Bool.and_eq_true, Bool.or_eq_false_iff] at hc)) | (intro _; intros) | (refine And.intro ?_ ?_; focus (first | omega | ((repeat (first | exact Sub.refl _ | (refine Sub.drop ?_ ?_; focus (simp only [evN, *]; done)) | refine Sub.both ?_)); done) | (simp_all; done) | (simp_all; omega)))))
    · have hgt : S.most < r.list.length + 1 := by have := of_decide_eq_true hc; omega
      have hsl : lf (.sll 3) [.slice (some ⟨b2, 0, none⟩) (r.list.length + 1) c2, .int .i64 (IntKind.i64.wrap (((r.list.length + 1 : Nat) : Int) - (S.most : Int)))] = some (.slice (some ⟨b2, (r.list.length + 1 - S.most) * 3, none⟩) (r.list.length + 1 - (r.list.length + 1 - S.most)) (c2 - (r.list.length + 1 - S.most))) := by
        rw [wi64 (by omega), show (((r.list.length + 1 : Nat) : Int) - (S.most : Int)) = ((r.list.length + 1 - S.most : Nat) : Int) by omega, sll_at 3 b2 0 _ c2 _ (by omega) (by omega), Nat.zero_add]
      (repeat' (first | (simp +contextual -dsimp only [*, Wr.cells, ↓reduceIte, ↓evP, evQ, splice, Nat.reduceAdd, Nat.reduceEqDiff, Nat.reduceLeDiff, Nat.reduceMul, reduceCtorEq, Int.reduceLT, Int.reduceLE, Int.reduceGT, Int.reduceGE, Int.reduceEq, Int.reduceNeg]) | (refine condF_split (fun hc => ?_) (fun hc => ?_) <;> (try simp only [Bool.not_eq_true', Bool.not_eq_false', Bool.and_eq_true, Bool.or_eq_false_iff] at hc)) | (intro _; intros) | (refine And.intro ?_ ?_; focus (first | omega | ((repeat (first | exact Sub.refl _ | (refine Sub.drop ?_ ?_; focus (simp only [evN, *]; done)) | refine Sub.both ?_)); done) | (simp_all; done) | (simp_all; omega)))))
      refine nextF_of (ws.length - (i + 1)) (by omega) (Sub.refl _) ⟨i + 1, _, by omega, rfl, (by first | rfl | (simp only [↓putO_get, ↓putO_no, init_zero, init_succ, Nat.reduceEqDiff, ↓reduceIte, *]; done) | (simp only [↓putO_get, ↓putO_no, init_zero, init_succ, Nat.reduceEqDiff, ↓reduceIte, *]; rfl)), (by first | rfl | (simp only [↓putO_get, ↓putO_no, init_zero, init_succ, Nat.reduceEqDiff, ↓reduceIte, *]; done) | (simp only [↓putO_get, ↓putO_no, init_zero, init_succ, Nat.reduceEqDiff, ↓reduceIte, *]; rfl)), (by first | rfl | (simp only [↓putO_get, ↓putO_no, init_zero, init_succ, Nat.reduceEqDiff, ↓reduceIte, *]; done) | (simp only [↓putO_get, ↓putO_no, init_zero, init_succ, Nat.reduceEqDiff, ↓reduceIte, *]; rfl)), (by first | rfl | (simp only [↓putO_get, ↓putO_no, init_zero, init_succ, Nat.reduceEqDiff, ↓reduceIte, *]; done) | (simp only [↓putO_get, ↓putO_no, init_zero, init_succ, Nat.reduceEqDiff, ↓reduceIte, *]; rfl)), (by first | (simp only [upd_at, *, ↓reduceIte]; done) | (simp only [upd_at, *, ↓reduceIte]; rfl)), (by first | (simp only [upd_at, *, ↓reduceIte]; done) | (simp only [upd_at, *, ↓reduceIte]; rfl)), ?_⟩
      obtain ⟨hv2, hMd, _, hdm, hb2⟩ := HD.out
      rw [hfold.out]
      refine commit_round (σd := σd) (y := y) HR2.out.1 HR2.out.2.1 HR2.out.2.2.1 (by first | (simp only [upd_at, *, ↓reduceIte]; done) | (simp only [upd_at, *, ↓reduceIte]; rfl)) (by simp only [evN, *]; done) ?_ ?_ ?_ ?_
      · have := hMd.1
        rw [Hb.out] at this
        exact (this.unUpd hny).unUpd hnx
      · conv => lhs; rw [HE.out.2]
        exact (by repeat (first | exact Same.refl _ _ | (refine Same.updNew ?_ ?_; focus (simp only [evN, *]; done)) | (refine Same.both ?_ ?_; focus (first | exact rfl | exact .inl rfl | exact .inr rfl)) | (refine Same.updIn ?_ ?_; focus (first | exact rfl | exact .inl rfl | exact .inr rfl)) | refine Same.eq ?_))
      · rw [← Hr.out]; unfold Row.push; rw [if_pos hgt]
      · rw [← Hr.out]; unfold Row.push; rw [if_pos hgt]
        have hq := (RowsOff.of hv2).drop Ver.cells_len (r.list.length + 1 - S.most) (by omega)
        rw [Nat.zero_add] at hq
        exact hq.keep fun k hk => by cases hk; simp only [upd_at, hng b2 hb2, ↓reduceIte]; rw [HE.out.1]
    · have hgt : ¬ S.most < r.list.length + 1 := by have := of_decide_eq_false hc; omega
      refine nextF_of (ws.length - (i + 1)) (by omega) (Sub.refl _) ⟨i + 1, _, by omega, rfl, (by first | rfl | (simp only [↓putO_get, ↓putO_no, init_zero, init_succ, Nat.reduceEqDiff, ↓reduceIte, *]; done) | (simp only [↓putO_get, ↓putO_no, init_zero, init_succ, Nat.reduceEqDiff, ↓reduceIte, *]; rfl)), (by first | rfl | (simp only [↓putO_get, ↓putO_no, init_zero, init_succ, Nat.reduceEqDiff, ↓reduceIte, *]; done) | (simp only [↓putO_get, ↓putO_no, init_zero, init_succ, Nat.reduceEqDiff, ↓reduceIte, *]; rfl)), (by first | rfl | (simp only [↓putO_get, ↓putO_no, init_zero, init_succ, Nat.reduceEqDiff, ↓reduceIte, *]; done) | (simp only [↓putO_get, ↓putO_no, init_zero, init_succ, Nat.reduceEqDiff, ↓reduceIte, *]; rfl)), (by first | rfl | (simp only [↓putO_get, ↓putO_no, init_zero, init_succ, Nat.reduceEqDiff, ↓reduceIte, *]; done) | (simp only [↓putO_get, ↓putO_no, init_zero, init_succ, Nat.reduceEqDiff, ↓reduceIte, *]; rfl)), (by first | (simp only [upd_at, *, ↓reduceIte]; done) | (simp only [upd_at, *, ↓reduceIte]; rfl)), (by first | (simp only [upd_at, *, ↓reduceIte]; done) | (simp only [upd_at, *, ↓reduceIte]; rfl)), ?_⟩
      obtain ⟨hv2, hMd, _, hdm, hb2⟩ := HD.out
      rw [hfold.out]
      refine commit_round (σd := σd) (y := y) HR2.out.1 HR2.out.2.1 HR2.out.2.2.1 (by first | (simp only [upd_at, *, ↓reduceIte]; done) | (simp only [upd_at, *, ↓reduceIte]; rfl)) (by simp only [evN, *]; done) ?_ ?_ ?_ ?_
      · have := hMd.1
        rw [Hb.out] at this
        exact (this.unUpd hny).unUpd hnx
      · conv => lhs; rw [HE.out.2]
        exact (by repeat (first | exact Same.refl _ _ | (refine Same.updNew ?_ ?_; focus (simp only [evN, *]; done)) | (refine Same.both ?_ ?_; focus (first | exact rfl | exact .inl rfl | exact .inr rfl)) | (refine Same.updIn ?_ ?_; focus (first | exact rfl | exact .inl rfl | exact .inr rfl)) | refine Same.eq ?_))
      · rw [← Hr.out]; unfold Row.push; rw [if_neg hgt]
      · rw [← Hr.out]; unfold Row.push; rw [if_neg hgt]
        have hq := RowsOff.of hv2
        exact hq.keep fun k hk => by cases hk; simp only [upd_at, hng b2 hb2, ↓reduceIte]; rw [HE.out.1]
  · have hd : decide ((i : Int) < (ws.length : Int)) = false := by simp; omega
    have HR2 := Hid.mk (And.intro hrep (And.intro hlen hsame))
    clear hrep hlen hsame
    have hrdl : rd τ1 g 2 = some (.int .i64 (S.last + 1 : Nat)) := by unfold rd; rw [hcell]; rfl
    (repeat' (first | (simp +contextual -dsimp only [*, Wr.cells, ↓reduceIte, ↓evP, evQ, splice, Nat.reduceAdd, Nat.reduceEqDiff, Nat.reduceLeDiff, Nat.reduceMul, reduceCtorEq, Int.reduceLT, Int.reduceLE, Int.reduceGT, Int.reduceGE, Int.reduceEq, Int.reduceNeg]) | (refine condF_split (fun hc => ?_) (fun hc => ?_) <;> (try simp only [Bool.not_eq_true', Bool.not_eq_false', Bool.and_eq_true, Bool.or_eq_false_iff] at hc)) | (intro _; intros) | (refine And.intro ?_ ?_; focus (first | omega | ((repeat (first | exact Sub.refl _ | (refine Sub.drop ?_ ?_; focus (simp only [evN, *]; done)) | refine Sub.both ?_)); done) | (simp_all; done) | (simp_all; omega)))))
    obtain ⟨hrep, hlen, hsame⟩ := HR2.out
    have e2 : ws.take i = ws := List.take_of_length_le hge
    rw [e2] at hrep
    refine endF_at (.inr ⟨hck.out, rfl, ⟨hcell, l, hm, hrep⟩, ?_⟩)
    exact (show Same (fun k => k = g ∨ k = m) σ σ1 from fun k hk h => h01 k hk fun e => h (.inl e)).trans hsame fun i _ h => .inr h
def Row.oldest (r : Row) : Nat := match r.dropped, r.list with | true, v :: _ => v.n | _, _ => 0
def St.oldest (S : St) (k : ByteArray) : Nat := (S.row k).oldest
theorem oldest46 {σ : Hp} {g m : Nat} {S : St} (hS : StoreAt σ g m S) (k : ByteArray) (hd : (S.row k).dropped = true → (S.row k).list ≠ []) :
    ACalls Try.prog 46 #[.pointer (some ⟨g, 0, none⟩), .string k] σ fun u σ' => u = .int .i64 (S.oldest k) ∧ σ' = σ := by
  obtain ⟨hcell, l, hm, hrep⟩ := hS
  obtain ⟨sv, hsv, hrow⟩ := hrep k
  obtain ⟨ra, rc, rfl⟩ := hrow.slice
  unfold noRow at hsv
  have hro := hrow.ro Ver.cells_len
  have hgm : ¬ g = m := fun e => by rw [e, hm] at hcell; cases hcell
  have hml : mreadV σ (.map (some m)) (.get false false) noRow (.string k) = some (lookv false noRow (mget l k)) := by simp only [mreadV, hm, Option.bind_some, bread]
  unfold noRow at hml
  have hrd : rd σ g 0 = some (.map (some m)) := by unfold rd; rw [hcell]; rfl
  unfold St.oldest Row.oldest
  generalize S.row k = r at *
  obtain ⟨rl, rd⟩ := r
  clear hrep hcell hm hrow
  cases rd with
  | false =>
    simp only at hsv
    (refine acalls_F ok46 (by simp) ?_; unfold c46 r46)
    (repeat' (first | (simp +contextual -dsimp only [*, Ver.cells, ↓reduceIte, ↓evP, evQ, splice, Nat.reduceAdd, Nat.reduceEqDiff, Nat.reduceLeDiff, Nat.reduceMul, reduceCtorEq, Int.reduceLT, Int.reduceLE, Int.reduceGT, Int.reduceGE, Int.reduceEq, Int.reduceNeg]) | (refine condF_split (fun hc => ?_) (fun hc => ?_) <;> (try simp only [Bool.not_eq_true', Bool.not_eq_false', Bool.and_eq_true, Bool.or_eq_false_iff] at hc)) | refine vcallF_mk (by kernel_rfl) ?_ | refine vccallF_mk (by kernel_rfl) ?_ | (intro _; intros) | (refine And.intro ?_ ?_; focus (first | omega | ((repeat (first | exact Sub.refl _ | (refine Sub.drop ?_ ?_; focus (simp only [evN, *]; done)) | refine Sub.both ?_)); done) | (simp_all; done) | (simp_all; omega)))))
    all_goals (refine endF_det ?_ ?_; (focus ((try simp only [cond_true, cond_false, *]) <;> ((try simp only [decide_eq_true_eq, decide_eq_false_iff_not] at *) <;> first | rfl | (simp []; done) | (simp_all []; done) | (simp []; omega) | (simp []; (rw [Bool.eq_iff_iff]); simp; omega) | (simp_all [] <;> omega) | ((try unfold id); (rw [Value.bool.injEq, Bool.eq_iff_iff]); simp <;> omega) | ((try unfold id); (repeat' split) <;> simp_all <;> omega) | (simp_all [] <;> (repeat' split) <;> simp_all <;> omega)))); (focus ((try simp only [cond_true, cond_false, set_same, *]); exact (by (repeat (first | exact Sub.refl _ | (refine Sub.drop ?_ ?_; focus (simp only [evN, *]; done)) | refine Sub.both ?_)); done))))
  | true =>
    simp only at hsv
    cases rl with
    | nil => exact absurd rfl (hd rfl)
    | cons x rl =>
      obtain ⟨b, o, e, hr⟩ := hro.get (i := 0) (by simp)
      subst e
      have hr0 : _root_.Go.Sp.rd σ b (o + Int.toNat 0 * 3) = some (.int .i64 x.n) := rd_part hr 0 (v := .int .i64 x.n) rfl
      clear hro hr hd
      (refine acalls_F ok46 (by simp) ?_; unfold c46 r46)
      (repeat' (first | (simp +contextual -dsimp only [*, Ver.cells, ↓reduceIte, ↓evP, evQ, splice, Nat.reduceAdd, Nat.reduceEqDiff, Nat.reduceLeDiff, Nat.reduceMul, reduceCtorEq, Int.reduceLT, Int.reduceLE, Int.reduceGT, Int.reduceGE, Int.reduceEq, Int.reduceNeg]) | (refine condF_split (fun hc => ?_) (fun hc => ?_) <;> (try simp only [Bool.not_eq_true', Bool.not_eq_false', Bool.and_eq_true, Bool.or_eq_false_iff] at hc)) | refine vcallF_mk (by kernel_rfl) ?_ | refine vccallF_mk (by kernel_rfl) ?_ | (intro _; intros) | (refine And.intro ?_ ?_; focus (first | omega | ((repeat (first | exact Sub.refl _ | (refine Sub.drop ?_ ?_; focus (simp only [evN, *]; done)) | refine Sub.both ?_)); done) | (simp_all; done) | (simp_all; omega)))))
      all_goals (refine endF_det ?_ ?_; (focus ((try simp only [cond_true, cond_false, *]) <;> ((try simp only [decide_eq_true_eq, decide_eq_false_iff_not] at *) <;> first | rfl | (simp []; done) | (simp_all []; done) | (simp []; omega) | (simp []; (rw [Bool.eq_iff_iff]); simp; omega) | (simp_all [] <;> omega) | ((try unfold id); (rw [Value.bool.injEq, Bool.eq_iff_iff]); simp <;> omega) | ((try unfold id); (repeat' split) <;> simp_all <;> omega) | (simp_all [] <;> (repeat' split) <;> simp_all <;> omega)))); (focus ((try simp only [cond_true, cond_false, set_same, *]); exact (by (repeat (first | exact Sub.refl _ | (refine Sub.drop ?_ ?_; focus (simp only [evN, *]; done)) | refine Sub.both ?_)); done))))
/-- The place of the first version above c. -/
def place (l : List Ver) (c : Int) : Nat := l.findIdx (fun v => decide (c < v.n))
theorem place_le (l : List Ver) (c : Int) : place l c ≤ l.length := List.findIdx_le_length
theorem place_iff {l : List Ver} {c : Int} (hs : l.Pairwise (fun a b => a.n < b.n)) {i : Nat} {v : Ver} (h : l[i]? = some v) : decide ((v.n : Int) > c) = decide (place l c ≤ i) := by
  obtain ⟨hi, hv⟩ := List.getElem?_eq_some_iff.1 h
  rw [Bool.eq_iff_iff, decide_eq_true_eq, decide_eq_true_eq]
  constructor
  · intro hc
    rcases Nat.lt_or_ge i (place l c) with hlt | hge
    · have := List.not_of_lt_findIdx hlt
      rw [hv] at this
      simp at this; omega
    · exact hge
  · intro hle
    have hlt : place l c < l.length := by omega
    have h1 : decide (c < ((l[place l c]).n : Int)) = true := List.findIdx_getElem (w := hlt)
    have h1 := of_decide_eq_true h1
    rcases Nat.lt_or_ge (place l c) i with h2 | h2
    · have := List.pairwise_iff_getElem.1 hs (place l c) i hlt hi h2
      rw [hv] at this
      omega
    · have e : place l c = i := by omega
      have e2 : l[place l c] = v := by rw [← hv]; congr 1
      rw [e2] at h1; omega
theorem closure48 {σ : Hp} {x y : Nat} {A : Option Addr} {c : Nat} {l : List Ver} {cc : Int} (hx : rd σ x 0 = some (.slice A l.length c)) (hro : RoRows 3 Ver.cells σ (.slice A l.length c) l) (hy : rd σ y 0 = some (.int .i64 cc)) {i : Nat} {v : Ver} (hi : l[i]? = some v) :
    ACalls Try.prog 48 #[.int .i64 i, .pointer (some ⟨x, 0, none⟩), .pointer (some ⟨y, 0, none⟩)] σ fun u σ' => u = .bool (decide ((v.n : Int) > cc)) ∧ σ' = σ := by
  obtain ⟨b, o, e, hr⟩ := hro.get (i := i) (List.getElem?_eq_some_iff.1 hi).1
  subst e
  rw [(List.getElem?_eq_some_iff.1 hi).2] at hr
  have hr0 := rd_part hr 0 (v := .int .i64 v.n) rfl
  rw [Nat.add_zero] at hr0
  have hlt : (i : Int) < (l.length : Int) := by have := (List.getElem?_eq_some_iff.1 hi).1; omega
  clear hr hro hi
  (refine acalls_F ok48 (by simp) ?_; unfold c48 r48)
  (repeat' (first | (simp +contextual -dsimp only [*, Ver.cells, ↓reduceIte, ↓evP, evQ, splice, Nat.reduceAdd, Nat.reduceEqDiff, Nat.reduceLeDiff, Nat.reduceMul, reduceCtorEq, Int.reduceLT, Int.reduceLE, Int.reduceGT, Int.reduceGE, Int.reduceEq, Int.reduceNeg]) | (refine condF_split (fun hc => ?_) (fun hc => ?_) <;> (try simp only [Bool.not_eq_true', Bool.not_eq_false', Bool.and_eq_true, Bool.or_eq_false_iff] at hc)) | refine vcallF_mk (by kernel_rfl) ?_ | refine vccallF_mk (by kernel_rfl) ?_ | (intro _; intros) | (refine And.intro ?_ ?_; focus (first | omega | ((repeat (first | exact Sub.refl _ | (refine Sub.drop ?_ ?_; focus (simp only [evN, *]; done)) | refine Sub.both ?_)); done) | (simp_all; done) | (simp_all; omega)))))
  all_goals (refine endF_det ?_ ?_; (focus ((try simp only [cond_true, cond_false, *]) <;> ((try simp only [decide_eq_true_eq, decide_eq_false_iff_not] at *) <;> first | rfl | (simp []; done) | (simp_all []; done) | (simp []; omega) | (simp []; (rw [Bool.eq_iff_iff]); simp; omega) | (simp_all [] <;> omega) | ((try unfold id); (rw [Value.bool.injEq, Bool.eq_iff_iff]); simp <;> omega) | ((try unfold id); (repeat' split) <;> simp_all <;> omega) | (simp_all [] <;> (repeat' split) <;> simp_all <;> omega)))); (focus ((try simp only [cond_true, cond_false, set_same, *]); exact (by (repeat (first | exact Sub.refl _ | (refine Sub.drop ?_ ?_; focus (simp only [evN, *]; done)) | refine Sub.both ?_)); done))))
set_option maxRecDepth 100000 in
set_option maxHeartbeats 1000000 in
theorem search47 {σ : Hp} {x y : Nat} {A : Option Addr} {c : Nat} {l : List Ver} {cc : Int} (hx : rd σ x 0 = some (.slice A l.length c)) (hro : RoRows 3 Ver.cells σ (.slice A l.length c) l) (hy : rd σ y 0 = some (.int .i64 cc)) (hs : l.Pairwise (fun a b => a.n < b.n)) (hl : l.length ≤ 1048576) :
    ACalls Try.prog 47 #[.int .i64 l.length, .func (.func 48) #[] #[.pointer (some ⟨x, 0, none⟩), .pointer (some ⟨y, 0, none⟩)]] σ fun u σ' => u = .int .i64 (place l cc) ∧ σ' = σ := by
  have hq := place_le l cc
  (refine acalls_F ok47 (by simp) ?_; unfold c47 r47)
  (repeat' (first | (simp +contextual -dsimp only [*, Ver.cells, ↓reduceIte, ↓evP, evQ, splice, Nat.reduceAdd, Nat.reduceEqDiff, Nat.reduceLeDiff, Nat.reduceMul, reduceCtorEq, Int.reduceLT, Int.reduceLE, Int.reduceGT, Int.reduceGE, Int.reduceEq, Int.reduceNeg]) | (refine condF_split (fun hc => ?_) (fun hc => ?_) <;> (try simp only [Bool.not_eq_true', Bool.not_eq_false', Bool.and_eq_true, Bool.or_eq_false_iff] at hc)) | refine vcallF_mk (by kernel_rfl) ?_ | refine vccallF_mk (by kernel_rfl) ?_ | (intro _; intros) | (refine And.intro ?_ ?_; focus (first | omega | ((repeat (first | exact Sub.refl _ | (refine Sub.drop ?_ ?_; focus (simp only [evN, *]; done)) | refine Sub.both ?_)); done) | (simp_all; done) | (simp_all; omega)))))
  refine loopF_of (fun k s σ' => ∃ i j : Nat, i ≤ place l cc ∧ place l cc ≤ j ∧ j ≤ l.length ∧ k = j - i ∧ s 5 = .int .i64 i ∧ s 6 = .int .i64 j ∧ s 1 = .func (.func 48) #[] #[.pointer (some ⟨x, 0, none⟩), .pointer (some ⟨y, 0, none⟩)] ∧ σ' = σ) l.length (Sub.refl _)
    ⟨0, l.length, by omega, hq, by omega, rfl, (by first | rfl | (simp only [↓putO_get, ↓putO_no, init_zero, init_succ, Nat.reduceEqDiff, ↓reduceIte, *]; done) | (simp only [↓putO_get, ↓putO_no, init_zero, init_succ, Nat.reduceEqDiff, ↓reduceIte, *]; rfl)), (by first | rfl | (simp only [↓putO_get, ↓putO_no, init_zero, init_succ, Nat.reduceEqDiff, ↓reduceIte, *]; done) | (simp only [↓putO_get, ↓putO_no, init_zero, init_succ, Nat.reduceEqDiff, ↓reduceIte, *]; rfl)), (by first | rfl | (simp only [↓putO_get, ↓putO_no, init_zero, init_succ, Nat.reduceEqDiff, ↓reduceIte, *]; done) | (simp only [↓putO_get, ↓putO_no, init_zero, init_succ, Nat.reduceEqDiff, ↓reduceIte, *]; rfl)), rfl⟩ ?_
  rintro k s τ ⟨i, j, h1, h2, h3, hk, s5, s6, s1, hτ⟩
  subst hτ
  rcases Nat.lt_or_ge i j with hlt | hge
  · have hd : decide ((i : Int) < (j : Int)) = true := by simp; omega
    obtain ⟨h, hh⟩ : ∃ h, h = (i + j) / 2 := ⟨_, rfl⟩
    obtain ⟨v, hv⟩ : ∃ v, l[h]? = some v := ⟨_, List.getElem?_eq_getElem (by omega)⟩
    have q := closure48 hx hro hy hv
    rw [place_iff hs hv] at q
    have e3 : IntKind.i64.wrap ((IntKind.u64.wrap (IntKind.i64.wrap ((i : Int) + (j : Int)))).fdiv (2 ^ min (Int.toNat 1) IntKind.u64.bits)) = ((h : Nat) : Int) := by
      rw [show IntKind.i64.wrap ((i : Int) + (j : Int)) = (i : Int) + j from wi64 (by omega), show IntKind.u64.wrap ((i : Int) + (j : Int)) = (i : Int) + j from IntWalk.u64_in _ (by omega)]
      rw [show (2 : Int) ^ min (Int.toNat 1) IntKind.u64.bits = 2 by rfl, Int.fdiv_eq_ediv_of_nonneg _ (by decide), wi64 (by omega)]
      omega
    have e4 : IntKind.i64.wrap ((h : Int) + 1) = ((h + 1 : Nat) : Int) := by rw [wi64 (by omega)]; rfl
    have HH := Hid.mk hh
    clear hh hx hro hy
    (repeat' (first | (simp +contextual -dsimp only [*, Ver.cells, ↓reduceIte, ↓evP, evQ, splice, Nat.reduceAdd, Nat.reduceEqDiff, Nat.reduceLeDiff, Nat.reduceMul, reduceCtorEq, Int.reduceLT, Int.reduceLE, Int.reduceGT, Int.reduceGE, Int.reduceEq, Int.reduceNeg]) | (refine condF_split (fun hc => ?_) (fun hc => ?_) <;> (try simp only [Bool.not_eq_true', Bool.not_eq_false', Bool.and_eq_true, Bool.or_eq_false_iff] at hc)) | refine vcallF_mk (by kernel_rfl) ?_ | refine vccallF_mk (by kernel_rfl) ?_ | (intro _; intros) | (refine And.intro ?_ ?_; focus (first | omega | ((repeat (first | exact Sub.refl _ | (refine Sub.drop ?_ ?_; focus (simp only [evN, *]; done)) | refine Sub.both ?_)); done) | (simp_all; done) | (simp_all; omega)))))
    refine vcallF_cs (cs := [.pointer (some ⟨x, 0, none⟩), .pointer (some ⟨y, 0, none⟩)]) (by kernel_rfl) ?_
    refine callF_v q ?_
    (repeat' (first | (simp +contextual -dsimp only [*, Ver.cells, ↓reduceIte, ↓evP, evQ, splice, Nat.reduceAdd, Nat.reduceEqDiff, Nat.reduceLeDiff, Nat.reduceMul, reduceCtorEq, Int.reduceLT, Int.reduceLE, Int.reduceGT, Int.reduceGE, Int.reduceEq, Int.reduceNeg]) | (refine condF_split (fun hc => ?_) (fun hc => ?_) <;> (try simp only [Bool.not_eq_true', Bool.not_eq_false', Bool.and_eq_true, Bool.or_eq_false_iff] at hc)) | refine vcallF_mk (by kernel_rfl) ?_ | refine vccallF_mk (by kernel_rfl) ?_ | (intro _; intros) | (refine And.intro ?_ ?_; focus (first | omega | ((repeat (first | exact Sub.refl _ | (refine Sub.drop ?_ ?_; focus (simp only [evN, *]; done)) | refine Sub.both ?_)); done) | (simp_all; done) | (simp_all; omega)))))
    · have hle := of_decide_eq_false hc
      have := HH.out
      refine nextF_of (j - (h + 1)) (by omega) (Sub.refl _) ⟨h + 1, j, by omega, by omega, by omega, rfl, (by first | rfl | (simp only [↓putO_get, ↓putO_no, init_zero, init_succ, Nat.reduceEqDiff, ↓reduceIte, *]; done) | (simp only [↓putO_get, ↓putO_no, init_zero, init_succ, Nat.reduceEqDiff, ↓reduceIte, *]; rfl)), (by first | rfl | (simp only [↓putO_get, ↓putO_no, init_zero, init_succ, Nat.reduceEqDiff, ↓reduceIte, *]; done) | (simp only [↓putO_get, ↓putO_no, init_zero, init_succ, Nat.reduceEqDiff, ↓reduceIte, *]; rfl)), (by first | rfl | (simp only [↓putO_get, ↓putO_no, init_zero, init_succ, Nat.reduceEqDiff, ↓reduceIte, *]; done) | (simp only [↓putO_get, ↓putO_no, init_zero, init_succ, Nat.reduceEqDiff, ↓reduceIte, *]; rfl)), rfl⟩
    · have hle := of_decide_eq_true hc
      have := HH.out
      refine nextF_of (h - i) (by omega) (Sub.refl _) ⟨i, h, by omega, by omega, by omega, rfl, (by first | rfl | (simp only [↓putO_get, ↓putO_no, init_zero, init_succ, Nat.reduceEqDiff, ↓reduceIte, *]; done) | (simp only [↓putO_get, ↓putO_no, init_zero, init_succ, Nat.reduceEqDiff, ↓reduceIte, *]; rfl)), (by first | rfl | (simp only [↓putO_get, ↓putO_no, init_zero, init_succ, Nat.reduceEqDiff, ↓reduceIte, *]; done) | (simp only [↓putO_get, ↓putO_no, init_zero, init_succ, Nat.reduceEqDiff, ↓reduceIte, *]; rfl)), (by first | rfl | (simp only [↓putO_get, ↓putO_no, init_zero, init_succ, Nat.reduceEqDiff, ↓reduceIte, *]; done) | (simp only [↓putO_get, ↓putO_no, init_zero, init_succ, Nat.reduceEqDiff, ↓reduceIte, *]; rfl)), rfl⟩
  · have hd : decide ((i : Int) < (j : Int)) = false := by simp; omega
    have e := Hid.mk (show i = place l cc by omega)
    clear hx hro hy
    (repeat' (first | (simp +contextual -dsimp only [*, Ver.cells, ↓reduceIte, ↓evP, evQ, splice, Nat.reduceAdd, Nat.reduceEqDiff, Nat.reduceLeDiff, Nat.reduceMul, reduceCtorEq, Int.reduceLT, Int.reduceLE, Int.reduceGT, Int.reduceGE, Int.reduceEq, Int.reduceNeg]) | (refine condF_split (fun hc => ?_) (fun hc => ?_) <;> (try simp only [Bool.not_eq_true', Bool.not_eq_false', Bool.and_eq_true, Bool.or_eq_false_iff] at hc)) | refine vcallF_mk (by kernel_rfl) ?_ | refine vccallF_mk (by kernel_rfl) ?_ | (intro _; intros) | (refine And.intro ?_ ?_; focus (first | omega | ((repeat (first | exact Sub.refl _ | (refine Sub.drop ?_ ?_; focus (simp only [evN, *]; done)) | refine Sub.both ?_)); done) | (simp_all; done) | (simp_all; omega)))))
    exact endF_det (by rw [← e.out]) (Sub.refl _)
structure Fct where
  key : ByteArray
  has : Bool
  data : ByteArray
  lo : Int
  hi : Int
def Fct.cells (f : Fct) : List Value := [.string f.key, .bool f.has, .string f.data, .int .i64 f.lo, .int .i64 f.hi]
def noF : Fct := ⟨⟨#[]⟩, false, ⟨#[]⟩, 0, 0⟩
def noVer : Ver := ⟨0, false, ⟨#[]⟩⟩
def before (l : List Ver) (i : Nat) : Ver := match i with | 0 => noVer | i + 1 => l.getD i noVer
def behindV (l : List Ver) (i : Nat) : Int := match l[i]? with | some v => v.n | none => 4611686018427387904
def factOf (k : ByteArray) (l : List Ver) (i : Nat) : Fct := ⟨k, (before l i).has, (before l i).data, (before l i).n, behindV l i⟩
/-- What Read answers. -/
def St.read (S : St) (k : ByteArray) (c : Int) : Fct × Int :=
  cond (!goodK k || decide (c < 0)) (noF, 1) (cond (decide (c > S.last)) (noF, 21) (cond (decide (c < S.oldest k)) (noF, 20) (factOf k (S.row k).list (place (S.row k).list c), 0)))
structure RowOk (r : Row) : Prop where
  sorted : r.list.Pairwise (fun a b => a.n < b.n)
  some : r.dropped = true → r.list ≠ []
  few : r.list.length ≤ 1048576
theorem _root_.Go.Sp.rd_later {σ : Hp} {b o : Nat} {v : Value} (h : rd σ b o = some v) : ∀ σ', Sub σ σ' → rd σ' b o = some v := fun σ' hs => rd_sub hs h
theorem _root_.Go.Sp.rdn_later {σ : Hp} {b o n : Nat} {vs : List Value} (h : rdn σ b o n = some vs) : ∀ σ', Sub σ σ' → rdn σ' b o n = some vs := fun σ' hs => rdn_sub hs h
theorem before_pos {L : List Ver} {i : Nat} {v : Ver} (h0 : 0 < i) (h : L[i - 1]? = some v) : before L i = v := by
  obtain ⟨j, rfl⟩ : ∃ j, i = j + 1 := ⟨i - 1, by omega⟩
  rw [Nat.add_sub_cancel] at h
  show L.getD j noVer = v
  rw [List.getD_eq_getElem?_getD, h]; rfl
theorem endF_of {k : ByteArray} {L : List Ver} {i : Nat} {v : Ver} {n : Int} {σ S : Hp} {δ} (h1 : before L i = v) (h2 : behindV L i = n) (hs : Sub S σ) : endF (fun u σ' => u = .tuple #[.agg (factOf k L i, (0 : Int)).1.cells.toArray, .int .i64 (factOf k L i, (0 : Int)).2] ∧ σ' = S) (.tuple #[.agg #[.string k, .bool v.has, .string v.data, .int .i64 v.n, .int .i64 n], .int .i64 0]) σ δ :=
  endF_det (by unfold factOf; rw [h1, h2]; rfl) hs
theorem StoreAt.fresh {σ : Hp} {g m : Nat} {S : St} (h : StoreAt σ g m S) {b : Nat} (hb : σ b = none) (o : Blk) : StoreAt (upd σ b o) g m S := by
  obtain ⟨h1, l, h2, h3⟩ := h
  refine ⟨?_, l, ?_, fun k => ?_⟩
  · rw [upd_ne _ _ (fun e => by rw [e, hb] at h1; cases h1)]; exact h1
  · rw [upd_ne _ _ (fun e => by rw [e, hb] at h2; cases h2)]; exact h2
  · obtain ⟨sv, e, hr⟩ := h3 k
    exact ⟨sv, e, hr.fresh hb o⟩
theorem read_bad {S : St} {k : ByteArray} {c : Int} (h : (!goodK k || decide (c < 0)) = true) : S.read k c = (noF, 1) := by unfold St.read; rw [h]; rfl
theorem read_ahead {S : St} {k : ByteArray} {c : Int} (h : (!goodK k || decide (c < 0)) = false) (h2 : decide (c > S.last) = true) : S.read k c = (noF, 21) := by unfold St.read; rw [h, h2]; rfl
theorem read_old {S : St} {k : ByteArray} {c : Int} (h : (!goodK k || decide (c < 0)) = false) (h2 : decide (c > S.last) = false) (h3 : decide (c < S.oldest k) = true) : S.read k c = (noF, 20) := by unfold St.read; rw [h, h2, h3]; rfl
theorem read_ok {S : St} {k : ByteArray} {c : Int} (h : (!goodK k || decide (c < 0)) = false) (h2 : decide (c > S.last) = false) (h3 : decide (c < S.oldest k) = false) : S.read k c = (factOf k (S.row k).list (place (S.row k).list c), 0) := by unfold St.read; rw [h, h2, h3]; rfl
set_option maxHeartbeats 4000000 in
set_option maxRecDepth 100000 in
theorem read12 {σ : Hp} {g m : Nat} {S : St} (hS : StoreAt σ g m S) (k : ByteArray) (c : Int) (hr : RowOk (S.row k)) :
    ACalls Try.prog 12 #[.pointer (some ⟨g, 0, none⟩), .string k, .int .i64 c] σ fun u σ' => u = .tuple #[.agg (S.read k c).1.cells.toArray, .int .i64 (S.read k c).2] ∧ σ' = σ := by
  have HS := Hid.mk hS
  obtain ⟨hcell, l, hm, hrep⟩ := hS
  obtain ⟨sv, hsv, hrow⟩ := hrep k
  obtain ⟨ra, rc, rfl⟩ := hrow.slice
  unfold noRow at hsv
  have hro := hrow.ro Ver.cells_len
  have hgm : ¬ g = m := fun e => by rw [e, hm] at hcell; cases hcell
  have hmg : ¬ m = g := fun e => hgm e.symm
  obtain ⟨τ, rfl⟩ := open_2 hcell hm hgm
  have HRO := Hid.mk (And.intro hro hr)
  clear hrep hcell hm hrow hro hr
  cases hk : goodK k
  · (refine acalls_F ok12 (by simp) ?_; unfold c12 r12)
    (repeat' (first | (simp +contextual -dsimp only [*, Ver.cells, Fct.cells, noF, ↓reduceIte, ↓evP, evQ, splice, Nat.reduceAdd, Nat.reduceEqDiff, Nat.reduceLeDiff, Nat.reduceMul, reduceCtorEq, Int.reduceLT, Int.reduceLE, Int.reduceGT, Int.reduceGE, Int.reduceEq, Int.reduceNeg]) | (refine condF_split (fun hc => ?_) (fun hc => ?_) <;> (try simp only [Bool.not_eq_true', Bool.not_eq_false', Bool.and_eq_true, Bool.or_eq_false_iff] at hc)) | refine callF_v (goodKey45 _ _) ?_ | refine ccallF_of (goodKey45 _ _) ?_ | refine gcallF_of (goodKey45 _ _) ?_ | refine vcallF_mk (by kernel_rfl) ?_ | refine vccallF_mk (by kernel_rfl) ?_ | (intro _; intros) | (refine And.intro ?_ ?_; focus (first | omega | ((repeat (first | exact Sub.refl _ | (refine Sub.drop ?_ ?_; focus (simp only [evN, *]; done)) | refine Sub.both ?_)); done) | (simp_all; done) | (simp_all; omega)))))
    rw [read_bad (by rw [hk]; rfl)]
    exact endF_det rfl (by (repeat (first | exact Sub.refl _ | (refine Sub.drop ?_ ?_; focus (simp only [evN, *]; done)) | refine Sub.both ?_)); done)
  · have hb0 : ∀ b, decide (c < 0) = b → (!goodK k || decide (c < 0)) = b := fun b h => by rw [hk, h]; rfl
    have HB := Hid.mk hb0
    clear hb0
    (refine acalls_F ok12 (by simp) ?_; unfold c12 r12)
    (repeat' (first | (simp +contextual -dsimp only [*, Ver.cells, Fct.cells, noF, ↓reduceIte, ↓evP, evQ, splice, Nat.reduceAdd, Nat.reduceEqDiff, Nat.reduceLeDiff, Nat.reduceMul, reduceCtorEq, Int.reduceLT, Int.reduceLE, Int.reduceGT, Int.reduceGE, Int.reduceEq, Int.reduceNeg]) | (refine condF_split (fun hc => ?_) (fun hc => ?_) <;> (try simp only [Bool.not_eq_true', Bool.not_eq_false', Bool.and_eq_true, Bool.or_eq_false_iff] at hc)) | refine callF_v (goodKey45 _ _) ?_ | refine ccallF_of (goodKey45 _ _) ?_ | refine gcallF_of (goodKey45 _ _) ?_ | refine vcallF_mk (by kernel_rfl) ?_ | refine vccallF_mk (by kernel_rfl) ?_ | (intro _; intros) | (refine And.intro ?_ ?_; focus (first | omega | ((repeat (first | exact Sub.refl _ | (refine Sub.drop ?_ ?_; focus (simp only [evN, *]; done)) | refine Sub.both ?_)); done) | (simp_all; done) | (simp_all; omega)))))
    · rw [read_bad (HB.out _ hc)]
      exact endF_det rfl (by (repeat (first | exact Sub.refl _ | (refine Sub.drop ?_ ?_; focus (simp only [evN, *]; done)) | refine Sub.both ?_)); done)
    have hlow := Hid.mk (HB.out _ hc)
    clear hc
    refine drawxF_of (Sub.refl _) ?_
    (repeat' (first | (simp +contextual -dsimp only [*, Ver.cells, Fct.cells, noF, ↓reduceIte, ↓evP, evQ, splice, Nat.reduceAdd, Nat.reduceEqDiff, Nat.reduceLeDiff, Nat.reduceMul, reduceCtorEq, Int.reduceLT, Int.reduceLE, Int.reduceGT, Int.reduceGE, Int.reduceEq, Int.reduceNeg]) | (refine condF_split (fun hc => ?_) (fun hc => ?_) <;> (try simp only [Bool.not_eq_true', Bool.not_eq_false', Bool.and_eq_true, Bool.or_eq_false_iff] at hc)) | refine vcallF_mk (by kernel_rfl) ?_ | refine vccallF_mk (by kernel_rfl) ?_ | (intro _; intros) | (refine And.intro ?_ ?_; focus (first | omega | ((repeat (first | exact Sub.refl _ | (refine Sub.drop ?_ ?_; focus (simp only [evN, *]; done)) | refine Sub.both ?_)); done) | (simp_all; done) | (simp_all; omega)))))
    · rw [read_ahead hlow.out hc]
      exact endF_det rfl (by (repeat (first | exact Sub.refl _ | (refine Sub.drop ?_ ?_; focus (simp only [evN, *]; done)) | refine Sub.both ?_)); done)
    rename_i x x1 x1' x2 x2' x0 y y1 y1' y2 y2' y3 y3' y0
    have hc0 := hlow
    have hc1 := Hid.mk hc
    clear hc
    refine drawxF_of (Sub.refl _) ?_
    (repeat' (first | (simp +contextual -dsimp only [*, Ver.cells, Fct.cells, noF, ↓reduceIte, ↓evP, evQ, splice, Nat.reduceAdd, Nat.reduceEqDiff, Nat.reduceLeDiff, Nat.reduceMul, reduceCtorEq, Int.reduceLT, Int.reduceLE, Int.reduceGT, Int.reduceGE, Int.reduceEq, Int.reduceNeg]) | (refine condF_split (fun hc => ?_) (fun hc => ?_) <;> (try simp only [Bool.not_eq_true', Bool.not_eq_false', Bool.and_eq_true, Bool.or_eq_false_iff] at hc)) | refine vcallF_mk (by kernel_rfl) ?_ | refine vccallF_mk (by kernel_rfl) ?_ | (intro _; intros) | (refine And.intro ?_ ?_; focus (first | omega | ((repeat (first | exact Sub.refl _ | (refine Sub.drop ?_ ?_; focus (simp only [evN, *]; done)) | refine Sub.both ?_)); done) | (simp_all; done) | (simp_all; omega)))))
    refine gcallF_of (oldest46 ((HS.out.fresh (b := x) (by first | assumption | exact (by simp only [evN, *]; done)) _).fresh (b := y) (by first | assumption | exact (by simp only [evN, *]; done)) _) k HRO.out.2.some) ?_
    (repeat' (first | (simp +contextual -dsimp only [*, Ver.cells, Fct.cells, noF, ↓reduceIte, ↓evP, evQ, splice, Nat.reduceAdd, Nat.reduceEqDiff, Nat.reduceLeDiff, Nat.reduceMul, reduceCtorEq, Int.reduceLT, Int.reduceLE, Int.reduceGT, Int.reduceGE, Int.reduceEq, Int.reduceNeg]) | (refine condF_split (fun hc => ?_) (fun hc => ?_) <;> (try simp only [Bool.not_eq_true', Bool.not_eq_false', Bool.and_eq_true, Bool.or_eq_false_iff] at hc)) | refine vcallF_mk (by kernel_rfl) ?_ | refine vccallF_mk (by kernel_rfl) ?_ | (intro _; intros) | (refine And.intro ?_ ?_; focus (first | omega | ((repeat (first | exact Sub.refl _ | (refine Sub.drop ?_ ?_; focus (simp only [evN, *]; done)) | refine Sub.both ?_)); done) | (simp_all; done) | (simp_all; omega)))))
    · rw [read_old hc0.out hc1.out hc]
      exact endF_det rfl (by (repeat (first | exact Sub.refl _ | (refine Sub.drop ?_ ?_; focus (simp only [evN, *]; done)) | refine Sub.both ?_)); done)
    have hc2 := Hid.mk hc
    clear hc
    rename_i z z1 z1' z2 z2' z3 z3' z4 z4' z0
    obtain ⟨L, hL⟩ : ∃ L, L = (S.row k).list := ⟨_, rfl⟩
    have hrow := HRO.out.1
    have hok := HRO.out.2
    rw [← hL] at hrow
    have hok : L.Pairwise (fun a b => a.n < b.n) ∧ L.length ≤ 1048576 := by rw [hL]; exact ⟨hok.sorted, hok.few⟩
    have hend : S.read k c = (factOf k L (place L c), 0) := by rw [hL]; exact read_ok hc0.out hc1.out hc2.out
    rw [hend]
    rw [← hL]
    clear HRO hc0 hc1 hc2 HB hlow hend hL hsv
    refine callF_v (search47 (x := z) (y := x) (A := ra) (c := rc) (l := L) (cc := c) (by first | (simp only [rd_ne, rd_same, rd_row, not_false_eq_true, List.getElem?_cons_zero, List.getElem?_cons_succ, *]; done) | (simp only [rd_ne, rd_same, rd_row, not_false_eq_true, List.getElem?_cons_zero, List.getElem?_cons_succ, *]; rfl)) (hrow.sub (by (repeat (first | exact Sub.refl _ | (refine Sub.drop ?_ ?_; focus (simp only [evN, *]; done)) | refine Sub.both ?_)); done)) (by first | (simp only [rd_ne, rd_same, rd_row, not_false_eq_true, List.getElem?_cons_zero, List.getElem?_cons_succ, *]; done) | (simp only [rd_ne, rd_same, rd_row, not_false_eq_true, List.getElem?_cons_zero, List.getElem?_cons_succ, *]; rfl)) hok.1 hok.2) ?_
    have hi := place_le L c
    have hro := hrow
    have HROW := Hid.mk hrow
    clear hrow
    obtain ⟨i, hie⟩ : ∃ i, i = place L c := ⟨_, rfl⟩
    rw [← hie] at hi
    rw [← hie]
    clear hie
    rcases Nat.lt_or_ge i L.length with hlt | hge
    · have hd : decide ((i : Int) < (L.length : Int)) = true := by simp; omega
      obtain ⟨v1, hv1⟩ : ∃ v, L[i]? = some v := ⟨_, List.getElem?_eq_getElem hlt⟩
      have hlt' : (i : Int) < (L.length : Int) := by omega
      obtain ⟨b, o, e, hr1⟩ := HROW.out.get hlt
      subst e
      rw [(List.getElem?_eq_some_iff.1 hv1).2] at hr1
      have hrd1 := Hid.mk (rd_later (rd_part hr1 0 (v := .int .i64 v1.n) rfl))
      rcases Nat.eq_zero_or_pos i with hi0 | hi0
      · have hz : decide ((i : Int) > 0) = false := by simp; omega
        have HI := Hid.mk hi0
        clear hi0 hr1 hro
        (repeat' (first | (simp +contextual -dsimp only [*, Ver.cells, Fct.cells, noF, ↓reduceIte, ↓evP, evQ, splice, Nat.reduceAdd, Nat.reduceEqDiff, Nat.reduceLeDiff, Nat.reduceMul, reduceCtorEq, Int.reduceLT, Int.reduceLE, Int.reduceGT, Int.reduceGE, Int.reduceEq, Int.reduceNeg]) | (refine condF_split (fun hc => ?_) (fun hc => ?_) <;> (try simp only [Bool.not_eq_true', Bool.not_eq_false', Bool.and_eq_true, Bool.or_eq_false_iff] at hc)) | refine vcallF_mk (by kernel_rfl) ?_ | refine vccallF_mk (by kernel_rfl) ?_ | (intro _; intros) | (refine And.intro ?_ ?_; focus (first | omega | ((repeat (first | exact Sub.refl _ | (refine Sub.drop ?_ ?_; focus (simp only [evN, *]; done)) | refine Sub.both ?_)); done) | (simp_all; done) | (simp_all; omega)))))
        rw [← Nat.add_zero (o + i * 3), hrd1.out _ (by (repeat (first | exact Sub.refl _ | (refine Sub.drop ?_ ?_; focus (simp only [evN, *]; done)) | refine Sub.both ?_)); done)]
        (repeat' (first | (simp +contextual -dsimp only [*, Ver.cells, Fct.cells, noF, ↓reduceIte, ↓evP, evQ, splice, Nat.reduceAdd, Nat.reduceEqDiff, Nat.reduceLeDiff, Nat.reduceMul, reduceCtorEq, Int.reduceLT, Int.reduceLE, Int.reduceGT, Int.reduceGE, Int.reduceEq, Int.reduceNeg]) | (refine condF_split (fun hc => ?_) (fun hc => ?_) <;> (try simp only [Bool.not_eq_true', Bool.not_eq_false', Bool.and_eq_true, Bool.or_eq_false_iff] at hc)) | refine vcallF_mk (by kernel_rfl) ?_ | refine vccallF_mk (by kernel_rfl) ?_ | (intro _; intros) | (refine And.intro ?_ ?_; focus (first | omega | ((repeat (first | exact Sub.refl _ | (refine Sub.drop ?_ ?_; focus (simp only [evN, *]; done)) | refine Sub.both ?_)); done) | (simp_all; done) | (simp_all; omega)))))
        exact endF_of (v := noVer) (by rw [HI.out]; rfl) (by unfold behindV; rw [hv1]) (by (repeat (first | exact Sub.refl _ | (refine Sub.drop ?_ ?_; focus (simp only [evN, *]; done)) | refine Sub.both ?_)); done)
      · have hz : decide ((i : Int) > 0) = true := by simp; omega
        have em : IntKind.i64.wrap ((i : Int) - 1) = ((i - 1 : Nat) : Int) := by rw [wi64 (by omega)]; omega
        obtain ⟨v0, hv0⟩ : ∃ v, L[i - 1]? = some v := ⟨_, List.getElem?_eq_getElem (by omega)⟩
        obtain ⟨b', o', e, hr0⟩ := HROW.out.get (i := i - 1) (by omega)
        cases e
        rw [(List.getElem?_eq_some_iff.1 hv0).2] at hr0
        have hrd0 := Hid.mk (rd_later (rd_part hr0 0 (v := .int .i64 v0.n) rfl))
        have hrn0 := Hid.mk (rdn_later (rdn_part hr0 1 2 (by omega)))
        have hlt0 : ((i - 1 : Nat) : Int) < (L.length : Int) := by omega
        clear hr1 hr0 hro
        (repeat' (first | (simp +contextual -dsimp only [*, Ver.cells, Fct.cells, noF, ↓reduceIte, ↓evP, evQ, splice, Nat.reduceAdd, Nat.reduceEqDiff, Nat.reduceLeDiff, Nat.reduceMul, reduceCtorEq, Int.reduceLT, Int.reduceLE, Int.reduceGT, Int.reduceGE, Int.reduceEq, Int.reduceNeg]) | (refine condF_split (fun hc => ?_) (fun hc => ?_) <;> (try simp only [Bool.not_eq_true', Bool.not_eq_false', Bool.and_eq_true, Bool.or_eq_false_iff] at hc)) | refine vcallF_mk (by kernel_rfl) ?_ | refine vccallF_mk (by kernel_rfl) ?_ | (intro _; intros) | (refine And.intro ?_ ?_; focus (first | omega | ((repeat (first | exact Sub.refl _ | (refine Sub.drop ?_ ?_; focus (simp only [evN, *]; done)) | refine Sub.both ?_)); done) | (simp_all; done) | (simp_all; omega)))))
        rw [← Nat.add_zero (o + i * 3), hrd1.out _ (by (repeat (first | exact Sub.refl _ | (refine Sub.drop ?_ ?_; focus (simp only [evN, *]; done)) | refine Sub.both ?_)); done)]
        (repeat' (first | (simp +contextual -dsimp only [*, Ver.cells, Fct.cells, noF, ↓reduceIte, ↓evP, evQ, splice, Nat.reduceAdd, Nat.reduceEqDiff, Nat.reduceLeDiff, Nat.reduceMul, reduceCtorEq, Int.reduceLT, Int.reduceLE, Int.reduceGT, Int.reduceGE, Int.reduceEq, Int.reduceNeg]) | (refine condF_split (fun hc => ?_) (fun hc => ?_) <;> (try simp only [Bool.not_eq_true', Bool.not_eq_false', Bool.and_eq_true, Bool.or_eq_false_iff] at hc)) | refine vcallF_mk (by kernel_rfl) ?_ | refine vccallF_mk (by kernel_rfl) ?_ | (intro _; intros) | (refine And.intro ?_ ?_; focus (first | omega | ((repeat (first | exact Sub.refl _ | (refine Sub.drop ?_ ?_; focus (simp only [evN, *]; done)) | refine Sub.both ?_)); done) | (simp_all; done) | (simp_all; omega)))))
        rename_i w w1 w1' w2 w2' w3 w3' w4 w4' w5 w5' w0
        refine drawxF_of (Sub.drop (by first | assumption | exact (by simp only [evN, *]; done)) (Sub.refl _)) ?_
        (repeat' (first | (simp +contextual -dsimp only [*, Ver.cells, Fct.cells, noF, ↓reduceIte, ↓evP, evQ, splice, Nat.reduceAdd, Nat.reduceEqDiff, Nat.reduceLeDiff, Nat.reduceMul, reduceCtorEq, Int.reduceLT, Int.reduceLE, Int.reduceGT, Int.reduceGE, Int.reduceEq, Int.reduceNeg]) | (refine condF_split (fun hc => ?_) (fun hc => ?_) <;> (try simp only [Bool.not_eq_true', Bool.not_eq_false', Bool.and_eq_true, Bool.or_eq_false_iff] at hc)) | refine vcallF_mk (by kernel_rfl) ?_ | refine vccallF_mk (by kernel_rfl) ?_ | (intro _; intros) | (refine And.intro ?_ ?_; focus (first | omega | ((repeat (first | exact Sub.refl _ | (refine Sub.drop ?_ ?_; focus (simp only [evN, *]; done)) | refine Sub.both ?_)); done) | (simp_all; done) | (simp_all; omega)))))
        rw [← Nat.add_zero (o + (i - 1) * 3), hrd0.out _ (by (repeat (first | exact Sub.refl _ | (refine Sub.drop ?_ ?_; focus (simp only [evN, *]; done)) | refine Sub.both ?_)); done)]
        (repeat' (first | (simp +contextual -dsimp only [*, Ver.cells, Fct.cells, noF, ↓reduceIte, ↓evP, evQ, splice, Nat.reduceAdd, Nat.reduceEqDiff, Nat.reduceLeDiff, Nat.reduceMul, reduceCtorEq, Int.reduceLT, Int.reduceLE, Int.reduceGT, Int.reduceGE, Int.reduceEq, Int.reduceNeg]) | (refine condF_split (fun hc => ?_) (fun hc => ?_) <;> (try simp only [Bool.not_eq_true', Bool.not_eq_false', Bool.and_eq_true, Bool.or_eq_false_iff] at hc)) | refine vcallF_mk (by kernel_rfl) ?_ | refine vccallF_mk (by kernel_rfl) ?_ | (intro _; intros) | (refine And.intro ?_ ?_; focus (first | omega | ((repeat (first | exact Sub.refl _ | (refine Sub.drop ?_ ?_; focus (simp only [evN, *]; done)) | refine Sub.both ?_)); done) | (simp_all; done) | (simp_all; omega)))))
        rw [hrn0.out _ (by (repeat (first | exact Sub.refl _ | (refine Sub.drop ?_ ?_; focus (simp only [evN, *]; done)) | refine Sub.both ?_)); done)]
        (repeat' (first | (simp +contextual -dsimp only [*, Ver.cells, Fct.cells, noF, ↓reduceIte, ↓evP, evQ, splice, Nat.reduceAdd, Nat.reduceEqDiff, Nat.reduceLeDiff, Nat.reduceMul, reduceCtorEq, Int.reduceLT, Int.reduceLE, Int.reduceGT, Int.reduceGE, Int.reduceEq, Int.reduceNeg]) | (refine condF_split (fun hc => ?_) (fun hc => ?_) <;> (try simp only [Bool.not_eq_true', Bool.not_eq_false', Bool.and_eq_true, Bool.or_eq_false_iff] at hc)) | refine vcallF_mk (by kernel_rfl) ?_ | refine vccallF_mk (by kernel_rfl) ?_ | (intro _; intros) | (refine And.intro ?_ ?_; focus (first | omega | ((repeat (first | exact Sub.refl _ | (refine Sub.drop ?_ ?_; focus (simp only [evN, *]; done)) | refine Sub.both ?_)); done) | (simp_all; done) | (simp_all; omega)))))
        exact endF_of (v := v0) (before_pos hi0 hv0) (by unfold behindV; rw [hv1]) (by (repeat (first | exact Sub.refl _ | (refine Sub.drop ?_ ?_; focus (simp only [evN, *]; done)) | refine Sub.both ?_)); done)
    · have hd : decide ((i : Int) < (L.length : Int)) = false := by simp; omega
      have hv1 : L[i]? = none := List.getElem?_eq_none hge
      rcases Nat.eq_zero_or_pos i with hi0 | hi0
      · have hz : decide ((i : Int) > 0) = false := by simp; omega
        have HI := Hid.mk hi0
        clear hi0 hro
        (repeat' (first | (simp +contextual -dsimp only [*, Ver.cells, Fct.cells, noF, ↓reduceIte, ↓evP, evQ, splice, Nat.reduceAdd, Nat.reduceEqDiff, Nat.reduceLeDiff, Nat.reduceMul, reduceCtorEq, Int.reduceLT, Int.reduceLE, Int.reduceGT, Int.reduceGE, Int.reduceEq, Int.reduceNeg]) | (refine condF_split (fun hc => ?_) (fun hc => ?_) <;> (try simp only [Bool.not_eq_true', Bool.not_eq_false', Bool.and_eq_true, Bool.or_eq_false_iff] at hc)) | refine vcallF_mk (by kernel_rfl) ?_ | refine vccallF_mk (by kernel_rfl) ?_ | (intro _; intros) | (refine And.intro ?_ ?_; focus (first | omega | ((repeat (first | exact Sub.refl _ | (refine Sub.drop ?_ ?_; focus (simp only [evN, *]; done)) | refine Sub.both ?_)); done) | (simp_all; done) | (simp_all; omega)))))
        exact endF_of (v := noVer) (by rw [HI.out]; rfl) (by unfold behindV; rw [hv1]) (by (repeat (first | exact Sub.refl _ | (refine Sub.drop ?_ ?_; focus (simp only [evN, *]; done)) | refine Sub.both ?_)); done)
      · have hz : decide ((i : Int) > 0) = true := by simp; omega
        have em : IntKind.i64.wrap ((i : Int) - 1) = ((i - 1 : Nat) : Int) := by rw [wi64 (by omega)]; omega
        obtain ⟨v0, hv0⟩ : ∃ v, L[i - 1]? = some v := ⟨_, List.getElem?_eq_getElem (by omega)⟩
        obtain ⟨b, o, e, hr0⟩ := HROW.out.get (i := i - 1) (by omega)
        subst e
        rw [(List.getElem?_eq_some_iff.1 hv0).2] at hr0
        have hrd0 := Hid.mk (rd_later (rd_part hr0 0 (v := .int .i64 v0.n) rfl))
        have hrn0 := Hid.mk (rdn_later (rdn_part hr0 1 2 (by omega)))
        have hlt0 : ((i - 1 : Nat) : Int) < (L.length : Int) := by omega
        clear hr0 hro
        (repeat' (first | (simp +contextual -dsimp only [*, Ver.cells, Fct.cells, noF, ↓reduceIte, ↓evP, evQ, splice, Nat.reduceAdd, Nat.reduceEqDiff, Nat.reduceLeDiff, Nat.reduceMul, reduceCtorEq, Int.reduceLT, Int.reduceLE, Int.reduceGT, Int.reduceGE, Int.reduceEq, Int.reduceNeg]) | (refine condF_split (fun hc => ?_) (fun hc => ?_) <;> (try simp only [Bool.not_eq_true', Bool.not_eq_false', Bool.and_eq_true, Bool.or_eq_false_iff] at hc)) | refine vcallF_mk (by kernel_rfl) ?_ | refine vccallF_mk (by kernel_rfl) ?_ | (intro _; intros) | (refine And.intro ?_ ?_; focus (first | omega | ((repeat (first | exact Sub.refl _ | (refine Sub.drop ?_ ?_; focus (simp only [evN, *]; done)) | refine Sub.both ?_)); done) | (simp_all; done) | (simp_all; omega)))))
        rename_i w w1 w1' w2 w2' w3 w3' w4 w4' w5 w5' w0
        refine drawxF_of (Sub.drop (by first | assumption | exact (by simp only [evN, *]; done)) (Sub.refl _)) ?_
        (repeat' (first | (simp +contextual -dsimp only [*, Ver.cells, Fct.cells, noF, ↓reduceIte, ↓evP, evQ, splice, Nat.reduceAdd, Nat.reduceEqDiff, Nat.reduceLeDiff, Nat.reduceMul, reduceCtorEq, Int.reduceLT, Int.reduceLE, Int.reduceGT, Int.reduceGE, Int.reduceEq, Int.reduceNeg]) | (refine condF_split (fun hc => ?_) (fun hc => ?_) <;> (try simp only [Bool.not_eq_true', Bool.not_eq_false', Bool.and_eq_true, Bool.or_eq_false_iff] at hc)) | refine vcallF_mk (by kernel_rfl) ?_ | refine vccallF_mk (by kernel_rfl) ?_ | (intro _; intros) | (refine And.intro ?_ ?_; focus (first | omega | ((repeat (first | exact Sub.refl _ | (refine Sub.drop ?_ ?_; focus (simp only [evN, *]; done)) | refine Sub.both ?_)); done) | (simp_all; done) | (simp_all; omega)))))
        rw [← Nat.add_zero (o + (i - 1) * 3), hrd0.out _ (by (repeat (first | exact Sub.refl _ | (refine Sub.drop ?_ ?_; focus (simp only [evN, *]; done)) | refine Sub.both ?_)); done)]
        (repeat' (first | (simp +contextual -dsimp only [*, Ver.cells, Fct.cells, noF, ↓reduceIte, ↓evP, evQ, splice, Nat.reduceAdd, Nat.reduceEqDiff, Nat.reduceLeDiff, Nat.reduceMul, reduceCtorEq, Int.reduceLT, Int.reduceLE, Int.reduceGT, Int.reduceGE, Int.reduceEq, Int.reduceNeg]) | (refine condF_split (fun hc => ?_) (fun hc => ?_) <;> (try simp only [Bool.not_eq_true', Bool.not_eq_false', Bool.and_eq_true, Bool.or_eq_false_iff] at hc)) | refine vcallF_mk (by kernel_rfl) ?_ | refine vccallF_mk (by kernel_rfl) ?_ | (intro _; intros) | (refine And.intro ?_ ?_; focus (first | omega | ((repeat (first | exact Sub.refl _ | (refine Sub.drop ?_ ?_; focus (simp only [evN, *]; done)) | refine Sub.both ?_)); done) | (simp_all; done) | (simp_all; omega)))))
        rw [hrn0.out _ (by (repeat (first | exact Sub.refl _ | (refine Sub.drop ?_ ?_; focus (simp only [evN, *]; done)) | refine Sub.both ?_)); done)]
        (repeat' (first | (simp +contextual -dsimp only [*, Ver.cells, Fct.cells, noF, ↓reduceIte, ↓evP, evQ, splice, Nat.reduceAdd, Nat.reduceEqDiff, Nat.reduceLeDiff, Nat.reduceMul, reduceCtorEq, Int.reduceLT, Int.reduceLE, Int.reduceGT, Int.reduceGE, Int.reduceEq, Int.reduceNeg]) | (refine condF_split (fun hc => ?_) (fun hc => ?_) <;> (try simp only [Bool.not_eq_true', Bool.not_eq_false', Bool.and_eq_true, Bool.or_eq_false_iff] at hc)) | refine vcallF_mk (by kernel_rfl) ?_ | refine vccallF_mk (by kernel_rfl) ?_ | (intro _; intros) | (refine And.intro ?_ ?_; focus (first | omega | ((repeat (first | exact Sub.refl _ | (refine Sub.drop ?_ ?_; focus (simp only [evN, *]; done)) | refine Sub.both ?_)); done) | (simp_all; done) | (simp_all; omega)))))
        exact endF_of (v := v0) (before_pos hi0 hv0) (by unfold behindV; rw [hv1]) (by (repeat (first | exact Sub.refl _ | (refine Sub.drop ?_ ?_; focus (simp only [evN, *]; done)) | refine Sub.both ?_)); done)
/-- Store and stream over a heap: what the one and the other holds; what was there before is as it was. -/
structure WL (σ0 σ : Hp) (g m gl : Nat) (v : Value) (HS HL : List (List Wr)) : Prop where
  store : StoreAt σ g m (St.run 64 HS)
  log : LogAt σ gl v (HL.map keysOf)
  sub : Sub σ0 σ
  new : σ0 g = none ∧ σ0 m = none ∧ σ0 gl = none ∧ ∀ k, blk v = some k → σ0 k = none
theorem WL.ne {σ0 σ : Hp} {g m gl : Nat} {v : Value} {HS HL : List (List Wr)} (h : WL σ0 σ g m gl v HS HL) : gl ≠ g ∧ gl ≠ m ∧ (∀ k, blk v = some k → k ≠ g ∧ k ≠ m ∧ ∃ cs r, σ k = some (.row cs r 36)) := by
  obtain ⟨l, hm, _⟩ := h.store.map
  have hg := h.store.cell
  have hl := h.log.cell
  obtain ⟨vs, hr, _⟩ := h.log.rows
  refine ⟨(fun e => by rw [e, hg] at hl; exact absurd (Blk.cells.inj (Option.some.inj hl)).2 (by decide)), (fun e => by rw [e, hm] at hl; cases hl), fun k hk => ?_⟩
  rcases hr with ⟨rfl, _⟩ | ⟨b, c, rfl, _, hb⟩
  · cases hk
  · cases hk
    exact ⟨(fun e => by have e : b = g := e; rw [e, hg] at hb; cases hb), (fun e => by have e : b = m := e; rw [e, hm] at hb; cases hb), _, _, hb⟩
theorem StoreAt.same {σ σ' : Hp} {g m : Nat} {S : St} {F : Nat → Prop} (h : StoreAt σ g m S) (hs : Same F σ σ') (hg : ¬ F g) (hm : ¬ F m) (hF : ∀ k cs n, F k → σ k = some (.row cs n 109) → False) : StoreAt σ' g m S := by
  obtain ⟨h1, l, h2, h3⟩ := h
  exact ⟨hs.at h1 hg, l, hs.at h2 hm, fun k => (h3 k).same hs hF⟩
theorem WL.same {σ0 σ σ' : Hp} {g m gl : Nat} {v : Value} {HS HL : List (List Wr)} (h : WL σ0 σ g m gl v HS HL) (hs : Same (fun _ => False) σ σ') : WL σ0 σ' g m gl v HS HL :=
  ⟨h.store.same hs (fun x => x) (fun x => x) (fun _ _ _ x => x.elim), h.log.same hs (fun x => x) (fun _ _ _ _ x => x.elim), h.sub.trans hs.sub, h.new⟩
theorem WL.commit {σ0 σ σ' : Hp} {g m gl : Nat} {v : Value} {HS HL : List (List Wr)} {ws : List Wr} (h : WL σ0 σ g m gl v HS HL) (hs : Same (fun k => k = g ∨ k = m) σ σ') (hS : StoreAt σ' g m ((St.run 64 HS).commit ws)) (hg : GoodWs ws) : WL σ0 σ' g m gl v (HS ++ [ws]) HL := by
  obtain ⟨n1, n2, n3⟩ := h.ne
  obtain ⟨l, hm, _⟩ := h.store.map
  have hc := h.store.cell
  refine ⟨by rw [← run_commit _ _ _ hg.once]; exact hS, h.log.same hs (fun e => e.elim n1 n2) (fun k cs r E e hk => ?_), h.sub.same hs fun k e => ?_, h.new⟩
  · rcases e with rfl | rfl
    · rw [hc] at hk; cases hk
    · rw [hm] at hk; cases hk
  · rcases e with rfl | rfl
    · exact h.new.1
    · exact h.new.2.1
theorem WL.append {σ0 σ σ' : Hp} {g m gl : Nat} {v v' : Value} {HS HL : List (List Wr)} {ws : List Wr} (h : WL σ0 σ g m gl v HS HL) (hL : LogAt σ' gl v' (HL.map keysOf ++ [keysOf ws])) (hs : Step σ gl v σ' v') : WL σ0 σ' g m gl v' HS (HL ++ [ws]) := by
  obtain ⟨n1, n2, n3⟩ := h.ne
  have hl := h.log.cell
  refine ⟨h.store.same hs.1 (fun e => e.elim (fun e => n1 e.symm) fun e => (n3 _ e).1 rfl) (fun e => e.elim (fun e => n2 e.symm) fun e => (n3 _ e).2.1 rfl) (fun k cs n e hk => ?_), by rw [List.map_append]; exact hL, h.sub.same hs.1 fun k e => ?_, h.new.1, h.new.2.1, h.new.2.2.1, fun k hk => ?_⟩
  · rcases e with rfl | e
    · rw [hl] at hk; cases hk
    · obtain ⟨_, _, cs', r', hk'⟩ := n3 _ e
      rw [hk'] at hk
      exact absurd (Blk.row.inj (Option.some.inj hk)).2.2 (by decide)
  · rcases e with rfl | e
    · exact h.new.2.2.1
    · exact h.new.2.2.2 _ e
  · rcases hs.2 k hk with e | e
    · exact h.new.2.2.2 _ e
    · exact h.sub.noneAt e
theorem new7 (n : Int) (σ : Hp) : ACalls Try.prog 7 #[.int .i64 n] σ fun u σ' => ∃ m g, σ m = none ∧ σ g = none ∧ ¬ g = m ∧ u = .pointer (some ⟨g, 0, none⟩) ∧ σ' = upd (upd σ m (.mp [])) g (.cells [.map (some m), .int .i64 (mnI (mxI n 1) 64), .int .i64 0] 100) := by
  (refine acalls_F ok7 (by simp) ?_; unfold c7 r7)
  (repeat' (first | (simp +contextual -dsimp only [*, Fct.cells, noF, ↓reduceIte, ↓evP, evQ, splice, Nat.reduceAdd, Nat.reduceEqDiff, Nat.reduceLeDiff, Nat.reduceMul, reduceCtorEq, Int.reduceLT, Int.reduceLE, Int.reduceGT, Int.reduceGE, Int.reduceEq, Int.reduceNeg]) | (refine condF_split (fun hc => ?_) (fun hc => ?_) <;> (try simp only [Bool.not_eq_true', Bool.not_eq_false', Bool.and_eq_true, Bool.or_eq_false_iff] at hc)) | (intro _; intros) | (refine And.intro ?_ ?_; focus (first | omega | ((repeat (first | exact Sub.refl _ | (refine Sub.drop ?_ ?_; focus (simp only [evN, *]; done)) | refine Sub.both ?_)); done) | (simp_all; done) | (simp_all; omega)))))
  rename_i m hm g n1 n2 hg
  exact endF_at ⟨m, g, hm, hg, n1, rfl, rfl⟩
theorem new8 (σ : Hp) : ACalls Try.prog 8 #[] σ fun u σ' => ∃ g, σ g = none ∧ u = .pointer (some ⟨g, 0, none⟩) ∧ σ' = upd σ g (.cells [.slice none 0 0] 102) := by
  (refine acalls_F ok8 (by simp) ?_; unfold c8 r8)
  (repeat' (first | (simp +contextual -dsimp only [*, Fct.cells, noF, ↓reduceIte, ↓evP, evQ, splice, Nat.reduceAdd, Nat.reduceEqDiff, Nat.reduceLeDiff, Nat.reduceMul, reduceCtorEq, Int.reduceLT, Int.reduceLE, Int.reduceGT, Int.reduceGE, Int.reduceEq, Int.reduceNeg]) | (refine condF_split (fun hc => ?_) (fun hc => ?_) <;> (try simp only [Bool.not_eq_true', Bool.not_eq_false', Bool.and_eq_true, Bool.or_eq_false_iff] at hc)) | (intro _; intros) | (refine And.intro ?_ ?_; focus (first | omega | ((repeat (first | exact Sub.refl _ | (refine Sub.drop ?_ ?_; focus (simp only [evN, *]; done)) | refine Sub.both ?_)); done) | (simp_all; done) | (simp_all; omega)))))
  rename_i g hg
  exact endF_at ⟨g, hg, rfl, rfl⟩
end Go.Proofs.Ytpnghjmphbhkjaa

-- SpN
namespace Go.Sp
set_option linter.unusedSimpArgs false
set_option linter.unusedVariables false
/-- What was known stays, but for blocks of the kind p. -/
def KSame (p : Blk → Prop) (σ σ' : Hp) : Prop := ∀ k o, σ k = some o → ¬ p o → σ' k = some o
def isCells (t : TypeId) : Blk → Prop | .cells _ t' => t' = t | _ => False
def isRow (E : TypeId) : Blk → Prop | .row _ _ E' => E' = E | _ => False
def isMp : Blk → Prop | .mp _ => True | _ => False
def isIm : Blk → Prop | .im _ => True | _ => False
theorem KSame.refl (p : Blk → Prop) (σ : Hp) : KSame p σ σ := fun _ _ h _ => h
theorem KSame.trans {p : Blk → Prop} {σ σ1 σ2 : Hp} (h : KSame p σ σ1) (k : KSame p σ1 σ2) : KSame p σ σ2 := fun i o ho hp => k i o (h i o ho hp) hp
theorem KSame.mono {p q : Blk → Prop} {σ σ' : Hp} (h : KSame p σ σ') (hpq : ∀ o, p o → q o) : KSame q σ σ' := fun k o ho hq => h k o ho fun hp => hq (hpq o hp)
theorem KSame.ofSame {p : Blk → Prop} {F : Nat → Prop} {σ σ' : Hp} (h : Same F σ σ') (hF : ∀ k o, F k → σ k = some o → p o) : KSame p σ σ' := fun k o ho hp => by
  rw [h k (by rw [ho]; simp) (fun f => hp (hF k o f ho))]; exact ho
theorem KSame.made {p : Blk → Prop} {σ σ' : Hp} (h : Same (fun _ => False) σ σ') : KSame p σ σ' := KSame.ofSame h fun _ _ f => f.elim
theorem KSame.new {p : Blk → Prop} {σ σ' : Hp} (h : KSame p σ σ') {b : Nat} (hb : σ b = none) (o : Blk) : KSame p σ (upd σ' b o) := fun k o' ho hp => by
  rw [upd_ne _ _ (fun e => by subst e; rw [hb] at ho; cases ho)]; exact h k o' ho hp
theorem KSame.turn {p : Blk → Prop} {σ σ' : Hp} (h : KSame p σ σ') {b : Nat} {X : Blk} (hb : σ b = some X) (hX : p X) (o : Blk) : KSame p σ (upd σ' b o) := fun k o' ho hp => by
  rw [upd_ne _ _ (fun e => by subst e; rw [hb] at ho; cases ho; exact hp hX)]; exact h k o' ho hp
theorem KSame.both {p : Blk → Prop} {σ σ' : Hp} (h : KSame p σ σ') {b : Nat} {X : Blk} (hX : p X) (Y : Blk) : KSame p (upd σ b X) (upd σ' b Y) := fun k o ho hp => by
  by_cases e : k = b
  · subst e; rw [upd_same] at ho; cases ho; exact absurd hX hp
  · rw [upd_ne _ _ e] at ho ⊢; exact h k o ho hp
/-- A heap of blocks that are only read. -/
def RoHeap (σ : Hp) : Prop := ∀ k o, σ k = some o → ∃ x, o = .ro x
theorem KSame.sub {p : Blk → Prop} {σ0 σ σ' : Hp} (h : KSame p σ σ') (h0 : RoHeap σ0) (hs : Sub σ0 σ) (hp : ∀ x, ¬ p (.ro x)) : Sub σ0 σ' := fun k => by
  cases hk : σ0 k with
  | none => exact .inl rfl
  | some o =>
    obtain ⟨x, rfl⟩ := h0 k o hk
    rcases hs k with e | e
    · rw [hk] at e; cases e
    · rw [hk] at e; exact .inr (h k _ e.symm (hp x)).symm
theorem RowsAt.ks {α : Type} {E sz : Nat} {f : α → List Value} {σ σ' : Hp} {v : Value} {l : List α} {p : Blk → Prop} (h : RowsAt E sz f σ v l) (hs : KSame p σ σ') (hp : ∀ cs r, ¬ p (.row cs r E)) : RowsAt E sz f σ' v l := by
  rcases h with h | ⟨b, c, rfl, hc, hb⟩
  · exact .inl h
  · exact .inr ⟨b, c, rfl, hc, hs _ _ hb (hp _ _)⟩
theorem Grew.ks {α : Type} {E sz : Nat} {f : α → List Value} {σ σ' : Hp} {v v' : Value} {l : List α} (h : Grew σ v σ' v') (hr : RowsAt E sz f σ v l) : KSame (isRow E) σ σ' := KSame.ofSame h.same fun k o hk ho => by
  rcases hr with ⟨rfl, _⟩ | ⟨b, c, rfl, _, hb⟩
  · cases hk
  · cases hk; rw [hb] at ho; cases ho; rfl
end Go.Sp

-- Y0
namespace Go.Proofs.Ytpnghjmphbhkjaa
open Go.Sp
set_option linter.unusedSimpArgs false
set_option linter.unusedVariables false
structure Msg where
  kind : Int := 0
  node : Int := 0
  inc : Int := 0
  session : Int := 0
  tx : Int := 0
  seq : Int := 0
  key : ByteArray := ⟨#[]⟩
  lo : Int := 0
  hi : Int := 0
  has : Bool := false
  data : ByteArray := ⟨#[]⟩
  hit : Bool := false
  err : Int := 0
  n : Int := 0
  writes : Value := .slice none 0 0
  keys : Value := .slice none 0 0
def Msg.cells (m : Msg) : List Value := [.int .i64 m.kind, .int .i64 m.node, .int .i64 m.inc, .int .i64 m.session, .int .i64 m.tx, .int .i64 m.seq, .string m.key, .int .i64 m.lo, .int .i64 m.hi, .bool m.has, .string m.data, .bool m.hit, .int .i64 m.err, .int .i64 m.n, m.writes, m.keys]
theorem Msg.cells_len (m : Msg) : m.cells.length = 16 := rfl
def ofS (lo hi : Int) : Int × Int := if lo ≥ hi then (0, 0) else (lo, hi)
theorem of108 (lo hi : Int) (σ : Hp) : ACalls Try.prog 108 #[.int .i64 lo, .int .i64 hi] σ fun v σ' => v = .agg #[.int .i64 (ofS lo hi).1, .int .i64 (ofS lo hi).2] ∧ σ' = σ := by
  (refine acalls_F ok108 (by simp) ?_; unfold c108 r108)
  (repeat' (first | (simp +contextual -dsimp only [*, ↓reduceIte, ↓evP, evQ, splice, Nat.reduceAdd, Nat.reduceEqDiff, Nat.reduceLeDiff, Nat.reduceMul, reduceCtorEq, Int.reduceLT, Int.reduceLE, Int.reduceGT, Int.reduceGE, Int.reduceEq, Int.reduceNeg]) | (refine condF_split (fun hc => ?_) (fun hc => ?_) <;> (try simp only [Bool.not_eq_true', Bool.not_eq_false', Bool.and_eq_true, Bool.or_eq_false_iff] at hc)) | (intro _; intros) | (refine And.intro ?_ ?_; focus (first | omega | ((repeat (first | exact Sub.refl _ | (refine Sub.drop ?_ ?_; focus (simp only [evN, *]; done)) | refine Sub.both ?_)); done) | (simp_all; done) | (simp_all; omega)))))
  all_goals exact endF_sub (by (repeat (first | exact Sub.refl _ | (refine Sub.drop ?_ ?_; focus (simp only [evN, *]; done)) | refine Sub.both ?_)); done) ⟨by ((try simp only [decide_eq_true_eq, decide_eq_false_iff_not] at *) <;> first | rfl | (simp [ofS]; done) | (simp_all [ofS]; done) | (simp [ofS]; omega) | (simp [ofS]; (rw [Bool.eq_iff_iff]); simp; omega) | (simp_all [ofS] <;> omega) | ((try unfold ofS); (rw [Value.bool.injEq, Bool.eq_iff_iff]); simp <;> omega) | ((try unfold ofS); (repeat' split) <;> simp_all <;> omega) | (simp_all [ofS] <;> (repeat' split) <;> simp_all <;> omega)), rfl⟩
theorem empty128 (lo hi : Int) (σ : Hp) : ACalls Try.prog 128 #[.agg #[.int .i64 lo, .int .i64 hi]] σ fun v σ' => v = .bool (decide (lo ≥ hi)) ∧ σ' = σ := by
  (refine acalls_F ok128 (by simp) ?_; unfold c128 r128)
  (repeat' (first | (simp +contextual -dsimp only [*, ↓reduceIte, ↓evP, evQ, splice, Nat.reduceAdd, Nat.reduceEqDiff, Nat.reduceLeDiff, Nat.reduceMul, reduceCtorEq, Int.reduceLT, Int.reduceLE, Int.reduceGT, Int.reduceGE, Int.reduceEq, Int.reduceNeg]) | (refine condF_split (fun hc => ?_) (fun hc => ?_) <;> (try simp only [Bool.not_eq_true', Bool.not_eq_false', Bool.and_eq_true, Bool.or_eq_false_iff] at hc)) | (intro _; intros) | (refine And.intro ?_ ?_; focus (first | omega | ((repeat (first | exact Sub.refl _ | (refine Sub.drop ?_ ?_; focus (simp only [evN, *]; done)) | refine Sub.both ?_)); done) | (simp_all; done) | (simp_all; omega)))))
  all_goals exact endF_sub (by (repeat (first | exact Sub.refl _ | (refine Sub.drop ?_ ?_; focus (simp only [evN, *]; done)) | refine Sub.both ?_)); done) ⟨by ((try simp only [decide_eq_true_eq, decide_eq_false_iff_not] at *) <;> first | rfl | (simp []; done) | (simp_all []; done) | (simp []; omega) | (simp []; (rw [Bool.eq_iff_iff]); simp; omega) | (simp_all [] <;> omega) | ((try unfold id); (rw [Value.bool.injEq, Bool.eq_iff_iff]); simp <;> omega) | ((try unfold id); (repeat' split) <;> simp_all <;> omega) | (simp_all [] <;> (repeat' split) <;> simp_all <;> omega)), rfl⟩
theorem meet127 (a b c d : Int) (σ : Hp) : ACalls Try.prog 127 #[.agg #[.int .i64 a, .int .i64 b], .agg #[.int .i64 c, .int .i64 d]] σ fun v σ' => v = .agg #[.int .i64 (ofS (mxI a c) (mnI b d)).1, .int .i64 (ofS (mxI a c) (mnI b d)).2] ∧ σ' = σ := by
  (refine acalls_F ok127 (by simp) ?_; unfold c127 r127)
  (repeat' (first | (simp +contextual -dsimp only [*, ↓reduceIte, ↓evP, evQ, splice, Nat.reduceAdd, Nat.reduceEqDiff, Nat.reduceLeDiff, Nat.reduceMul, reduceCtorEq, Int.reduceLT, Int.reduceLE, Int.reduceGT, Int.reduceGE, Int.reduceEq, Int.reduceNeg]) | (refine condF_split (fun hc => ?_) (fun hc => ?_) <;> (try simp only [Bool.not_eq_true', Bool.not_eq_false', Bool.and_eq_true, Bool.or_eq_false_iff] at hc)) | refine callF_v (of108 _ _ _) ?_ | refine ccallF_of (of108 _ _ _) ?_ | refine gcallF_of (of108 _ _ _) ?_ | (intro _; intros) | (refine And.intro ?_ ?_; focus (first | omega | ((repeat (first | exact Sub.refl _ | (refine Sub.drop ?_ ?_; focus (simp only [evN, *]; done)) | refine Sub.both ?_)); done) | (simp_all; done) | (simp_all; omega)))))
  all_goals exact endF_sub (by (repeat (first | exact Sub.refl _ | (refine Sub.drop ?_ ?_; focus (simp only [evN, *]; done)) | refine Sub.both ?_)); done) ⟨by ((try simp only [decide_eq_true_eq, decide_eq_false_iff_not] at *) <;> first | rfl | (simp []; done) | (simp_all []; done) | (simp []; omega) | (simp []; (rw [Bool.eq_iff_iff]); simp; omega) | (simp_all [] <;> omega) | ((try unfold id); (rw [Value.bool.injEq, Bool.eq_iff_iff]); simp <;> omega) | ((try unfold id); (repeat' split) <;> simp_all <;> omega) | (simp_all [] <;> (repeat' split) <;> simp_all <;> omega)), rfl⟩
theorem pinned126 (a b : Int) (σ : Hp) : ACalls Try.prog 126 #[.agg #[.int .i64 a, .int .i64 b]] σ fun v σ' => v = .agg #[.int .i64 (ofS a b).1, .int .i64 (ofS a b).2] ∧ σ' = σ := by
  (refine acalls_F ok126 (by simp) ?_; unfold c126 r126)
  (repeat' (first | (simp +contextual -dsimp only [*, ↓reduceIte, ↓evP, evQ, splice, Nat.reduceAdd, Nat.reduceEqDiff, Nat.reduceLeDiff, Nat.reduceMul, reduceCtorEq, Int.reduceLT, Int.reduceLE, Int.reduceGT, Int.reduceGE, Int.reduceEq, Int.reduceNeg]) | (refine condF_split (fun hc => ?_) (fun hc => ?_) <;> (try simp only [Bool.not_eq_true', Bool.not_eq_false', Bool.and_eq_true, Bool.or_eq_false_iff] at hc)) | refine callF_v (of108 _ _ _) ?_ | refine ccallF_of (of108 _ _ _) ?_ | refine gcallF_of (of108 _ _ _) ?_ | (intro _; intros) | (refine And.intro ?_ ?_; focus (first | omega | ((repeat (first | exact Sub.refl _ | (refine Sub.drop ?_ ?_; focus (simp only [evN, *]; done)) | refine Sub.both ?_)); done) | (simp_all; done) | (simp_all; omega)))))
  all_goals exact endF_sub (by (repeat (first | exact Sub.refl _ | (refine Sub.drop ?_ ?_; focus (simp only [evN, *]; done)) | refine Sub.both ?_)); done) ⟨by ((try simp only [decide_eq_true_eq, decide_eq_false_iff_not] at *) <;> first | rfl | (simp []; done) | (simp_all []; done) | (simp []; omega) | (simp []; (rw [Bool.eq_iff_iff]); simp; omega) | (simp_all [] <;> omega) | ((try unfold id); (rw [Value.bool.injEq, Bool.eq_iff_iff]); simp <;> omega) | ((try unfold id); (repeat' split) <;> simp_all <;> omega) | (simp_all [] <;> (repeat' split) <;> simp_all <;> omega)), rfl⟩
/-- What a pin and a span have in common, and whether it is not empty. -/
def nar (a b c d : Int) : Int × Int := ofS (mxI (ofS a b).1 c) (mnI (ofS a b).2 d)
theorem narrow107 (a b c d : Int) (σ : Hp) : ACalls Try.prog 107 #[.agg #[.int .i64 a, .int .i64 b], .agg #[.int .i64 c, .int .i64 d]] σ fun v σ' =>
    v = .tuple #[.agg #[.int .i64 (nar a b c d).1, .int .i64 (nar a b c d).2], .bool (!decide ((nar a b c d).1 ≥ (nar a b c d).2))] ∧ σ' = σ := by
  (refine acalls_F ok107 (by simp) ?_; unfold c107 r107)
  (repeat' (first | (simp +contextual -dsimp only [*, ↓reduceIte, ↓evP, evQ, splice, Nat.reduceAdd, Nat.reduceEqDiff, Nat.reduceLeDiff, Nat.reduceMul, reduceCtorEq, Int.reduceLT, Int.reduceLE, Int.reduceGT, Int.reduceGE, Int.reduceEq, Int.reduceNeg]) | (refine condF_split (fun hc => ?_) (fun hc => ?_) <;> (try simp only [Bool.not_eq_true', Bool.not_eq_false', Bool.and_eq_true, Bool.or_eq_false_iff] at hc)) | refine callF_v (pinned126 _ _ _) ?_ | refine callF_v (meet127 _ _ _ _ _) ?_ | refine callF_v (empty128 _ _ _) ?_ | refine ccallF_of (pinned126 _ _ _) ?_ | refine ccallF_of (meet127 _ _ _ _ _) ?_ | refine ccallF_of (empty128 _ _ _) ?_ | refine gcallF_of (pinned126 _ _ _) ?_ | refine gcallF_of (meet127 _ _ _ _ _) ?_ | refine gcallF_of (empty128 _ _ _) ?_ | (intro _; intros) | (refine And.intro ?_ ?_; focus (first | omega | ((repeat (first | exact Sub.refl _ | (refine Sub.drop ?_ ?_; focus (simp only [evN, *]; done)) | refine Sub.both ?_)); done) | (simp_all; done) | (simp_all; omega)))))
  all_goals exact endF_sub (by (repeat (first | exact Sub.refl _ | (refine Sub.drop ?_ ?_; focus (simp only [evN, *]; done)) | refine Sub.both ?_)); done) ⟨by ((try simp only [decide_eq_true_eq, decide_eq_false_iff_not] at *) <;> first | rfl | (simp [nar]; done) | (simp_all [nar]; done) | (simp [nar]; omega) | (simp [nar]; (rw [Bool.eq_iff_iff]); simp; omega) | (simp_all [nar] <;> omega) | ((try unfold nar); (rw [Value.bool.injEq, Bool.eq_iff_iff]); simp <;> omega) | ((try unfold nar); (repeat' split) <;> simp_all <;> omega) | (simp_all [nar] <;> (repeat' split) <;> simp_all <;> omega)), rfl⟩
def hstep (h : Int) (b : UInt8) : Int := IntKind.u64.wrap (IntKind.u64.wrap ((BitVec.ofInt IntKind.u64.bits h ^^^ BitVec.ofInt IntKind.u64.bits (IntKind.u64.wrap (b.toNat : Int))).toNat : Int) * 1099511628211)
def hashN (l : List UInt8) (i : Nat) : Int := (l.take i).foldl hstep 14695981039346656037
def hashK (k : ByteArray) : Int := hashN k.data.toList k.data.toList.length
theorem hashN_succ (l : List UInt8) (i : Nat) (h : i < l.length) : hashN l (i + 1) = hstep (hashN l i) (l.getD i 0) := by
  unfold hashN
  rw [List.take_succ_eq_append_getElem h, List.foldl_append]
  have e : l.getD i 0 = l[i] := by rw [List.getD_eq_getElem?_getD, List.getElem?_eq_getElem h]; rfl
  rw [e]; rfl
theorem size_len (k : ByteArray) : k.size = k.data.toList.length := Array.length_toList.symm
theorem hash125 (key : ByteArray) (σ : Hp) (hsz : key.size ≤ 140737488351232) : ACalls Try.prog 125 #[.string key] σ fun v σ' => v = .int .u64 (hashK key) ∧ σ' = σ := by
  (refine acalls_F ok125 (by simp) ?_; unfold c125 r125; simp +contextual -dsimp only [↓reduceIte, ↓evP, evQ, splice, Nat.reduceAdd, Nat.reduceEqDiff, Nat.reduceLeDiff, Nat.reduceMul, reduceCtorEq, Int.reduceLT, Int.reduceLE, Int.reduceGT, Int.reduceGE, Int.reduceEq, Int.reduceNeg])
  refine loopF_of (fun k s σ' => ∃ i : Nat, i ≤ key.size ∧ k = key.size - i ∧ s 7 = .int .i64 i ∧ s 3 = .int .u64 (hashN key.data.toList i) ∧ s 6 = .int .i64 key.size ∧ s 0 = .string key ∧ σ' = σ) key.size (Sub.refl _) ⟨0, by omega, rfl, rfl, rfl, rfl, rfl, rfl⟩ ?_
  rintro k s σ' ⟨i, hi, hk, h7, h3, h6, h0, rfl⟩
  (repeat' (first | (simp +contextual -dsimp only [*, ↓reduceIte, ↓evP, evQ, splice, Nat.reduceAdd, Nat.reduceEqDiff, Nat.reduceLeDiff, Nat.reduceMul, reduceCtorEq, Int.reduceLT, Int.reduceLE, Int.reduceGT, Int.reduceGE, Int.reduceEq, Int.reduceNeg]) | (refine condF_split (fun hc => ?_) (fun hc => ?_) <;> (try simp only [Bool.not_eq_true', Bool.not_eq_false', Bool.and_eq_true, Bool.or_eq_false_iff] at hc)) | (intro _; intros) | (refine And.intro ?_ ?_; focus (first | omega | ((repeat (first | exact Sub.refl _ | (refine Sub.drop ?_ ?_; focus (simp only [evN, *]; done)) | refine Sub.both ?_)); done) | (simp_all; done) | (simp_all; omega)))))
  all_goals (try simp only [decide_eq_true_eq, decide_eq_false_iff_not] at *)
  · refine nextF_of (key.size - (i + 1)) (by omega) (Sub.refl _) ⟨i + 1, by omega, rfl, ?_, ?_, (by first | rfl | (simp only [↓putO_get, ↓putO_no, init_zero, init_succ, Nat.reduceEqDiff, ↓reduceIte, *]; done) | (simp only [↓putO_get, ↓putO_no, init_zero, init_succ, Nat.reduceEqDiff, ↓reduceIte, *]; rfl)), (by first | rfl | (simp only [↓putO_get, ↓putO_no, init_zero, init_succ, Nat.reduceEqDiff, ↓reduceIte, *]; done) | (simp only [↓putO_get, ↓putO_no, init_zero, init_succ, Nat.reduceEqDiff, ↓reduceIte, *]; rfl)), rfl⟩
    · show Value.int .i64 (IntKind.i64.wrap _) = _; rw [wi64 (by omega)]; rfl
    · rw [hashN_succ _ _ (by rw [← size_len]; omega)]; rfl
  · obtain rfl : i = key.size := by omega
    exact endF_sub (by (repeat (first | exact Sub.refl _ | (refine Sub.drop ?_ ?_; focus (simp only [evN, *]; done)) | refine Sub.both ?_)); done) ⟨by rw [size_len]; rfl, rfl⟩
theorem hashN_range (l : List UInt8) (i : Nat) : 0 ≤ hashN l i ∧ hashN l i < 18446744073709551616 := by
  induction i with
  | zero => simp only [hashN, List.take_zero, List.foldl_nil]; decide
  | succ i ih =>
    by_cases h : i < l.length
    · rw [hashN_succ l i h]; unfold hstep
      simp only [IntKind.wrap_u64]; omega
    · have e : hashN l (i + 1) = hashN l i := by unfold hashN; rw [List.take_of_length_le (by omega), List.take_of_length_le (by omega)]
      rw [e]; exact ih
/-- The node of a key. -/
def toN (key : ByteArray) (n : Int) : Int := if n < 1 ∨ n > 8 then -1 else (hashK key) % n
theorem to105 (key : ByteArray) (n : Int) (σ : Hp) (hsz : key.size ≤ 140737488351232) : ACalls Try.prog 105 #[.string key, .int .i64 n] σ fun v σ' => v = .int .i64 (toN key n) ∧ σ' = σ := by
  have hr := hashN_range key.data.toList key.data.toList.length
  have e1 : ∀ h : ¬ (n < 1 ∨ n > 8), IntKind.u64.wrap n = n := fun h => by rw [IntKind.wrap_u64]; omega
  (refine acalls_F ok105 (by simp) ?_; unfold c105 r105)
  (repeat' (first | (simp +contextual -dsimp only [*, ↓reduceIte, ↓evP, evQ, splice, Nat.reduceAdd, Nat.reduceEqDiff, Nat.reduceLeDiff, Nat.reduceMul, reduceCtorEq, Int.reduceLT, Int.reduceLE, Int.reduceGT, Int.reduceGE, Int.reduceEq, Int.reduceNeg]) | (refine condF_split (fun hc => ?_) (fun hc => ?_) <;> (try simp only [Bool.not_eq_true', Bool.not_eq_false', Bool.and_eq_true, Bool.or_eq_false_iff] at hc)) | refine callF_v (hash125 _ _ (by assumption)) ?_ | refine ccallF_of (hash125 _ _ (by assumption)) ?_ | refine gcallF_of (hash125 _ _ (by assumption)) ?_ | (intro _; intros) | (refine And.intro ?_ ?_; focus (first | omega | ((repeat (first | exact Sub.refl _ | (refine Sub.drop ?_ ?_; focus (simp only [evN, *]; done)) | refine Sub.both ?_)); done) | (simp_all; done) | (simp_all; omega)))))
  all_goals (try simp only [decide_eq_true_eq, decide_eq_false_iff_not] at *)
  · exact endF_sub (by (repeat (first | exact Sub.refl _ | (refine Sub.drop ?_ ?_; focus (simp only [evN, *]; done)) | refine Sub.both ?_)); done) ⟨by unfold toN; rw [if_pos (by omega)], rfl⟩
  · exact endF_sub (by (repeat (first | exact Sub.refl _ | (refine Sub.drop ?_ ?_; focus (simp only [evN, *]; done)) | refine Sub.both ?_)); done) ⟨by unfold toN; rw [if_pos (by omega)], rfl⟩
  · rw [e1 (by omega), if_neg (by omega)]
    simp +contextual -dsimp only [*, ↓reduceIte, ↓evP, evQ, splice, Nat.reduceAdd, Nat.reduceEqDiff, Nat.reduceLeDiff, Nat.reduceMul, reduceCtorEq, Int.reduceLT, Int.reduceLE, Int.reduceGT, Int.reduceGE, Int.reduceEq, Int.reduceNeg]
    refine endF_sub (by (repeat (first | exact Sub.refl _ | (refine Sub.drop ?_ ?_; focus (simp only [evN, *]; done)) | refine Sub.both ?_)); done) ⟨?_, rfl⟩
    unfold toN hashK
    have m1 := Int.emod_nonneg (hashN key.data.toList key.data.toList.length) (show n ≠ 0 by omega)
    have m2 := Int.emod_lt_of_pos (hashN key.data.toList key.data.toList.length) (show 0 < n by omega)
    rw [if_neg (by omega), Int.tmod_eq_emod_of_nonneg (by omega), wi64 (by omega)]
structure Got where
  key : ByteArray
  has : Bool
  data : ByteArray
structure TxS where
  id : Int
  nodes : Int
  st : Int
  er : Int
  lo : Int
  hi : Int
  key : ByteArray
  seq : Int
  tr : Int
  reads : List Got
def TxS.cells (T : TxS) (v : Value) : List Value := [.int .i64 T.id, .int .i64 T.nodes, .int .i64 T.st, .int .i64 T.er, .int .i64 T.lo, .int .i64 T.hi, .string T.key, .int .i64 T.seq, .int .i64 T.tr, v]
/-- The request that is under way. -/
def TxS.req (T : TxS) : Msg := { kind := cond (decide (T.st = 1)) 3 5, node := cond (decide (T.st = 1)) (toN T.key T.nodes) 0, tx := T.id, seq := T.seq, key := T.key, lo := T.lo, hi := T.hi }
def TxS.busy (T : TxS) : Bool := decide (T.st = 1) || decide (T.st = 2)
def TxS.asks (T : TxS) (st : Int) (key : ByteArray) : TxS := { T with st := st, key := key, tr := 0, seq := IntKind.i64.wrap (T.seq + 1) }
def TxS.rests (T : TxS) (st er : Int) : TxS := { T with st := st, er := er, key := ⟨#[]⟩, tr := 0 }
theorem rest64 {σ : Hp} {g : Nat} {T : TxS} {v : Value} (hg : σ g = some (.cells (T.cells v) 141)) (st er : Int) :
    ACalls Try.prog 64 #[.pointer (some ⟨g, 0, none⟩), .int .i64 st, .int .i64 er] σ fun u σ' => u = .tuple #[] ∧ σ' = set σ g (.cells ((T.rests st er).cells v) 141) := by
  (unfold TxS.cells at hg; obtain ⟨τ, rfl⟩ := open_upd hg; clear hg)
  (refine acalls_F ok64 (by simp) ?_; unfold c64 r64)
  (repeat' (first | (simp +contextual -dsimp only [*, Msg.cells, TxS.cells, TxS.req, ↓reduceIte, ↓evP, evQ, splice, Nat.reduceAdd, Nat.reduceEqDiff, Nat.reduceLeDiff, Nat.reduceMul, reduceCtorEq, Int.reduceLT, Int.reduceLE, Int.reduceGT, Int.reduceGE, Int.reduceEq, Int.reduceNeg]) | (refine condF_split (fun hc => ?_) (fun hc => ?_) <;> (try simp only [Bool.not_eq_true', Bool.not_eq_false', Bool.and_eq_true, Bool.or_eq_false_iff] at hc)) | (intro _; intros) | (refine And.intro ?_ ?_; focus (first | omega | ((repeat (first | exact Sub.refl _ | (refine Sub.drop ?_ ?_; focus (simp only [evN, *]; done)) | refine Sub.both ?_)); done) | (simp_all; done) | (simp_all; omega)))))
  all_goals (refine endF_det ?_ ?_; (focus ((try simp only [cond_true, cond_false, *]) <;> ((try simp only [decide_eq_true_eq, decide_eq_false_iff_not] at *) <;> first | rfl | (simp []; done) | (simp_all []; done) | (simp []; omega) | (simp []; (rw [Bool.eq_iff_iff]); simp; omega) | (simp_all [] <;> omega) | ((try unfold id); (rw [Value.bool.injEq, Bool.eq_iff_iff]); simp <;> omega) | ((try unfold id); (repeat' split) <;> simp_all <;> omega) | (simp_all [] <;> (repeat' split) <;> simp_all <;> omega)))); (focus ((try simp only [cond_true, cond_false, set_same, *]); exact (by (repeat (first | exact Sub.refl _ | (refine Sub.drop ?_ ?_; focus (simp only [evN, *]; done)) | refine Sub.both ?_)); done))))
theorem busy63 {σ : Hp} {g : Nat} {T : TxS} {v : Value} (hg : σ g = some (.cells (T.cells v) 141)) :
    ACalls Try.prog 63 #[.pointer (some ⟨g, 0, none⟩)] σ fun u σ' => u = .bool T.busy ∧ σ' = σ := by
  (unfold TxS.cells at hg; obtain ⟨τ, rfl⟩ := open_upd hg; clear hg)
  (refine acalls_F ok63 (by simp) ?_; unfold c63 r63)
  (repeat' (first | (simp +contextual -dsimp only [*, Msg.cells, TxS.cells, TxS.req, ↓reduceIte, ↓evP, evQ, splice, Nat.reduceAdd, Nat.reduceEqDiff, Nat.reduceLeDiff, Nat.reduceMul, reduceCtorEq, Int.reduceLT, Int.reduceLE, Int.reduceGT, Int.reduceGE, Int.reduceEq, Int.reduceNeg]) | (refine condF_split (fun hc => ?_) (fun hc => ?_) <;> (try simp only [Bool.not_eq_true', Bool.not_eq_false', Bool.and_eq_true, Bool.or_eq_false_iff] at hc)) | (intro _; intros) | (refine And.intro ?_ ?_; focus (first | omega | ((repeat (first | exact Sub.refl _ | (refine Sub.drop ?_ ?_; focus (simp only [evN, *]; done)) | refine Sub.both ?_)); done) | (simp_all; done) | (simp_all; omega)))))
  all_goals (refine endF_det ?_ ?_; (focus ((try simp only [TxS.busy, cond_true, cond_false, *]) <;> ((try simp only [decide_eq_true_eq, decide_eq_false_iff_not] at *) <;> first | rfl | (simp [TxS.busy]; done) | (simp_all [TxS.busy]; done) | (simp [TxS.busy]; omega) | (simp [TxS.busy]; (rw [Bool.eq_iff_iff]); simp; omega) | (simp_all [TxS.busy] <;> omega) | ((try unfold TxS.busy); (rw [Value.bool.injEq, Bool.eq_iff_iff]); simp <;> omega) | ((try unfold TxS.busy); (repeat' split) <;> simp_all <;> omega) | (simp_all [TxS.busy] <;> (repeat' split) <;> simp_all <;> omega)))); (focus ((try simp only [TxS.busy, cond_true, cond_false, set_same, *]); exact (by (repeat (first | exact Sub.refl _ | (refine Sub.drop ?_ ?_; focus (simp only [evN, *]; done)) | refine Sub.both ?_)); done))))
theorem message106 {σ : Hp} {g : Nat} {T : TxS} {v : Value} (hg : σ g = some (.cells (T.cells v) 141)) (hk : T.key.size ≤ 140737488351232) :
    ACalls Try.prog 106 #[.pointer (some ⟨g, 0, none⟩)] σ fun u σ' => u = .agg T.req.cells.toArray ∧ σ' = σ := by
  (unfold TxS.cells at hg; obtain ⟨τ, rfl⟩ := open_upd hg; clear hg)
  (refine acalls_F ok106 (by simp) ?_; unfold c106 r106)
  (repeat' (first | (simp +contextual -dsimp only [*, Msg.cells, TxS.cells, TxS.req, ↓reduceIte, ↓evP, evQ, splice, Nat.reduceAdd, Nat.reduceEqDiff, Nat.reduceLeDiff, Nat.reduceMul, reduceCtorEq, Int.reduceLT, Int.reduceLE, Int.reduceGT, Int.reduceGE, Int.reduceEq, Int.reduceNeg]) | (refine condF_split (fun hc => ?_) (fun hc => ?_) <;> (try simp only [Bool.not_eq_true', Bool.not_eq_false', Bool.and_eq_true, Bool.or_eq_false_iff] at hc)) | refine callF_v (to105 _ _ _ (by assumption)) ?_ | refine ccallF_of (to105 _ _ _ (by assumption)) ?_ | refine gcallF_of (to105 _ _ _ (by assumption)) ?_ | (intro _; intros) | (refine And.intro ?_ ?_; focus (first | omega | ((repeat (first | exact Sub.refl _ | (refine Sub.drop ?_ ?_; focus (simp only [evN, *]; done)) | refine Sub.both ?_)); done) | (simp_all; done) | (simp_all; omega)))))
  all_goals (refine endF_det ?_ ?_; (focus ((try simp only [TxS.req, Msg.cells, cond_true, cond_false, *]) <;> ((try simp only [decide_eq_true_eq, decide_eq_false_iff_not] at *) <;> first | rfl | (simp [TxS.req, Msg.cells]; done) | (simp_all [TxS.req, Msg.cells]; done) | (simp [TxS.req, Msg.cells]; omega) | (simp [TxS.req, Msg.cells]; (rw [Bool.eq_iff_iff]); simp; omega) | (simp_all [TxS.req, Msg.cells] <;> omega) | ((try unfold TxS.req  Msg.cells); (rw [Value.bool.injEq, Bool.eq_iff_iff]); simp <;> omega) | ((try unfold TxS.req  Msg.cells); (repeat' split) <;> simp_all <;> omega) | (simp_all [TxS.req, Msg.cells] <;> (repeat' split) <;> simp_all <;> omega)))); (focus ((try simp only [TxS.req, Msg.cells, cond_true, cond_false, set_same, *]); exact (by (repeat (first | exact Sub.refl _ | (refine Sub.drop ?_ ?_; focus (simp only [evN, *]; done)) | refine Sub.both ?_)); done))))
theorem ask83 {σ : Hp} {g : Nat} {T : TxS} {v : Value} (hg : σ g = some (.cells (T.cells v) 141)) (st : Int) (key : ByteArray) (hk : key.size ≤ 140737488351232) :
    ACalls Try.prog 83 #[.pointer (some ⟨g, 0, none⟩), .int .i64 st, .string key] σ fun u σ' => u = .agg (T.asks st key).req.cells.toArray ∧ σ' = set σ g (.cells ((T.asks st key).cells v) 141) := by
  (unfold TxS.cells at hg; obtain ⟨τ, rfl⟩ := open_upd hg; clear hg)
  (refine acalls_F ok83 (by simp) ?_; unfold c83 r83)
  (repeat' (first | (simp +contextual -dsimp only [*, Msg.cells, TxS.cells, TxS.req, ↓reduceIte, ↓evP, evQ, splice, Nat.reduceAdd, Nat.reduceEqDiff, Nat.reduceLeDiff, Nat.reduceMul, reduceCtorEq, Int.reduceLT, Int.reduceLE, Int.reduceGT, Int.reduceGE, Int.reduceEq, Int.reduceNeg]) | (refine condF_split (fun hc => ?_) (fun hc => ?_) <;> (try simp only [Bool.not_eq_true', Bool.not_eq_false', Bool.and_eq_true, Bool.or_eq_false_iff] at hc)) | refine callF_v (message106 (T := T.asks st key) (v := v) (by first | rfl | (simp only [upd_same, upd_at, set_at, *, ↓reduceIte]; done) | (simp only [upd_same, upd_at, set_at, *, ↓reduceIte]; rfl)) (by assumption)) ?_ | refine ccallF_of (message106 (T := T.asks st key) (v := v) (by first | rfl | (simp only [upd_same, upd_at, set_at, *, ↓reduceIte]; done) | (simp only [upd_same, upd_at, set_at, *, ↓reduceIte]; rfl)) (by assumption)) ?_ | refine gcallF_of (message106 (T := T.asks st key) (v := v) (by first | rfl | (simp only [upd_same, upd_at, set_at, *, ↓reduceIte]; done) | (simp only [upd_same, upd_at, set_at, *, ↓reduceIte]; rfl)) (by assumption)) ?_ | (intro _; intros) | (refine And.intro ?_ ?_; focus (first | omega | ((repeat (first | exact Sub.refl _ | (refine Sub.drop ?_ ?_; focus (simp only [evN, *]; done)) | refine Sub.both ?_)); done) | (simp_all; done) | (simp_all; omega)))))
  all_goals (refine endF_det ?_ ?_; (focus ((try simp only [TxS.req, Msg.cells, cond_true, cond_false, *]) <;> ((try simp only [decide_eq_true_eq, decide_eq_false_iff_not] at *) <;> first | rfl | (simp [TxS.req, Msg.cells]; done) | (simp_all [TxS.req, Msg.cells]; done) | (simp [TxS.req, Msg.cells]; omega) | (simp [TxS.req, Msg.cells]; (rw [Bool.eq_iff_iff]); simp; omega) | (simp_all [TxS.req, Msg.cells] <;> omega) | ((try unfold TxS.req  Msg.cells); (rw [Value.bool.injEq, Bool.eq_iff_iff]); simp <;> omega) | ((try unfold TxS.req  Msg.cells); (repeat' split) <;> simp_all <;> omega) | (simp_all [TxS.req, Msg.cells] <;> (repeat' split) <;> simp_all <;> omega)))); (focus ((try simp only [TxS.req, Msg.cells, cond_true, cond_false, set_same, *]); exact (by (repeat (first | exact Sub.refl _ | (refine Sub.drop ?_ ?_; focus (simp only [evN, *]; done)) | refine Sub.both ?_)); done))))
/-- Again. -/
def TxS.more (T : TxS) : TxS := { T with tr := IntKind.i64.wrap (T.tr + 1) }
def TxS.finish (T : TxS) : TxS × Int × Int :=
  cond (decide (T.st = 3)) (T, 0, 40) (cond (decide (T.st = 4)) (T, 0, T.er) (cond T.busy (T, 0, 31) (T.rests 3 0, cond (decide (T.hi = 4611686018427387904)) T.lo (IntKind.i64.wrap (T.hi - 1)), 0)))
theorem finish30 {σ : Hp} {g : Nat} {T : TxS} {v : Value} (hg : σ g = some (.cells (T.cells v) 141)) :
    ACalls Try.prog 30 #[.pointer (some ⟨g, 0, none⟩)] σ fun u σ' => u = .tuple #[.int .i64 T.finish.2.1, .int .i64 T.finish.2.2] ∧ σ' = set σ g (.cells (T.finish.1.cells v) 141) := by
  (unfold TxS.cells at hg; obtain ⟨τ, rfl⟩ := open_upd hg; clear hg)
  (refine acalls_F ok30 (by simp) ?_; unfold c30 r30)
  (repeat' (first | (simp +contextual -dsimp only [*, Msg.cells, TxS.cells, TxS.req, ↓reduceIte, ↓evP, evQ, splice, Nat.reduceAdd, Nat.reduceEqDiff, Nat.reduceLeDiff, Nat.reduceMul, reduceCtorEq, Int.reduceLT, Int.reduceLE, Int.reduceGT, Int.reduceGE, Int.reduceEq, Int.reduceNeg]) | (refine condF_split (fun hc => ?_) (fun hc => ?_) <;> (try simp only [Bool.not_eq_true', Bool.not_eq_false', Bool.and_eq_true, Bool.or_eq_false_iff] at hc)) | refine callF_v (busy63 (T := T) (v := v) (by first | rfl | (simp only [upd_same, upd_at, set_at, *, ↓reduceIte]; done) | (simp only [upd_same, upd_at, set_at, *, ↓reduceIte]; rfl))) ?_ | refine callF_v (rest64 (T := T) (v := v) (by first | rfl | (simp only [upd_same, upd_at, set_at, *, ↓reduceIte]; done) | (simp only [upd_same, upd_at, set_at, *, ↓reduceIte]; rfl)) _ _) ?_ | refine ccallF_of (busy63 (T := T) (v := v) (by first | rfl | (simp only [upd_same, upd_at, set_at, *, ↓reduceIte]; done) | (simp only [upd_same, upd_at, set_at, *, ↓reduceIte]; rfl))) ?_ | refine ccallF_of (rest64 (T := T) (v := v) (by first | rfl | (simp only [upd_same, upd_at, set_at, *, ↓reduceIte]; done) | (simp only [upd_same, upd_at, set_at, *, ↓reduceIte]; rfl)) _ _) ?_ | refine gcallF_of (busy63 (T := T) (v := v) (by first | rfl | (simp only [upd_same, upd_at, set_at, *, ↓reduceIte]; done) | (simp only [upd_same, upd_at, set_at, *, ↓reduceIte]; rfl))) ?_ | refine gcallF_of (rest64 (T := T) (v := v) (by first | rfl | (simp only [upd_same, upd_at, set_at, *, ↓reduceIte]; done) | (simp only [upd_same, upd_at, set_at, *, ↓reduceIte]; rfl)) _ _) ?_ | (intro _; intros) | (refine And.intro ?_ ?_; focus (first | omega | ((repeat (first | exact Sub.refl _ | (refine Sub.drop ?_ ?_; focus (simp only [evN, *]; done)) | refine Sub.both ?_)); done) | (simp_all; done) | (simp_all; omega)))))
  all_goals (refine endF_det ?_ ?_; (focus ((try simp only [TxS.finish, TxS.rests, TxS.cells, cond_true, cond_false, *]) <;> ((try simp only [decide_eq_true_eq, decide_eq_false_iff_not] at *) <;> first | rfl | (simp [TxS.finish, TxS.rests, TxS.cells]; done) | (simp_all [TxS.finish, TxS.rests, TxS.cells]; done) | (simp [TxS.finish, TxS.rests, TxS.cells]; omega) | (simp [TxS.finish, TxS.rests, TxS.cells]; (rw [Bool.eq_iff_iff]); simp; omega) | (simp_all [TxS.finish, TxS.rests, TxS.cells] <;> omega) | ((try unfold TxS.finish  TxS.rests  TxS.cells); (rw [Value.bool.injEq, Bool.eq_iff_iff]); simp <;> omega) | ((try unfold TxS.finish  TxS.rests  TxS.cells); (repeat' split) <;> simp_all <;> omega) | (simp_all [TxS.finish, TxS.rests, TxS.cells] <;> (repeat' split) <;> simp_all <;> omega)))); (focus ((try simp only [TxS.finish, TxS.rests, TxS.cells, cond_true, cond_false, set_same, *]); exact (by (repeat (first | exact Sub.refl _ | (refine Sub.drop ?_ ?_; focus (simp only [evN, *]; done)) | refine Sub.both ?_)); done))))
def newT (id nodes floor : Int) : TxS := { id := id, nodes := mnI (mxI nodes 1) 8, st := 0, er := 0, lo := mnI (mxI floor 0) 1099511627776, hi := 4611686018427387904, key := ⟨#[]⟩, seq := 0, tr := 0, reads := [] }
theorem new27 (σ : Hp) (id nodes floor : Int) : ACalls Try.prog 27 #[.int .i64 id, .int .i64 nodes, .int .i64 floor] σ fun u σ' => ∃ g, σ g = none ∧ u = .pointer (some ⟨g, 0, none⟩) ∧ σ' = upd σ g (.cells ((newT id nodes floor).cells (.slice none 0 0)) 141) := by
  (refine acalls_F ok27 (by simp) ?_; unfold c27 r27)
  (repeat' (first | (simp +contextual -dsimp only [*, Msg.cells, TxS.cells, TxS.req, ↓reduceIte, ↓evP, evQ, splice, Nat.reduceAdd, Nat.reduceEqDiff, Nat.reduceLeDiff, Nat.reduceMul, reduceCtorEq, Int.reduceLT, Int.reduceLE, Int.reduceGT, Int.reduceGE, Int.reduceEq, Int.reduceNeg]) | (refine condF_split (fun hc => ?_) (fun hc => ?_) <;> (try simp only [Bool.not_eq_true', Bool.not_eq_false', Bool.and_eq_true, Bool.or_eq_false_iff] at hc)) | (intro _; intros) | (refine And.intro ?_ ?_; focus (first | omega | ((repeat (first | exact Sub.refl _ | (refine Sub.drop ?_ ?_; focus (simp only [evN, *]; done)) | refine Sub.both ?_)); done) | (simp_all; done) | (simp_all; omega)))))
  exact endF_at ⟨_, by assumption, rfl, rfl⟩
def Got.cells (x : Got) : List Value := [.string x.key, .bool x.has, .string x.data]
theorem Got.cells_len (x : Got) : x.cells.length = 3 := rfl
theorem got_row {l : List Got} {i : Nat} {x : Got} (hx : l[i]? = some x) : seg (l.flatMap Got.cells) (i * 3) 3 = some [.string x.key, .bool x.has, .string x.data] ∧ seg (l.flatMap Got.cells) (i * 3 + 1) 2 = some [.bool x.has, .string x.data] ∧ (l.flatMap Got.cells)[i * 3]? = some (.string x.key) :=
  ⟨seg_flat Got.cells_len hx 0 3 (by omega), seg_flat Got.cells_len hx 1 2 (by omega), get_flat Got.cells_len hx 0 (by omega)⟩
def TxS.find (T : TxS) (key : ByteArray) : Option Got := T.reads.find? fun x => decide (x.key = key)
def TxS.read (T : TxS) (key : ByteArray) : TxS × (Bool × ByteArray) × Msg × Int :=
  cond (decide (T.st ≥ 3)) (T, (false, ⟨#[]⟩), {}, 40) (cond T.busy (T, (false, ⟨#[]⟩), {}, 31) (cond (goodK key)
    (match T.find key with | some x => (T, (x.has, x.data), {}, 0) | none => (T.asks 1 key, (false, ⟨#[]⟩), (T.asks 1 key).req, 0)) (T, (false, ⟨#[]⟩), {}, 1)))
theorem goodK_alt (k : ByteArray) : goodK k = (!decide (k = ⟨#[]⟩) && !decide ((k.size : Int) > 32)) := by
  have e : k = ⟨#[]⟩ ↔ k.size = 0 := ⟨fun h => by subst h; rfl, fun h => by
    obtain ⟨d⟩ := k
    congr
    exact Array.eq_empty_of_size_eq_zero h⟩
  have e1 : decide (k = ⟨#[]⟩) = decide (k.size = 0) := decide_eq_decide.2 e
  unfold goodK
  rw [e1, Bool.eq_iff_iff]; simp only [Bool.and_eq_true, Bool.not_eq_true', decide_eq_true_eq, decide_eq_false_iff_not]; omega
theorem find_step {l : List Got} {i : Nat} {x : Got} {key : ByteArray} (hx : l[i]? = some x) (h : (l.take i).find? (fun x => decide (x.key = key)) = none) :
    (decide (x.key = key) = true → l.find? (fun x => decide (x.key = key)) = some x) ∧ (decide (x.key = key) = false → (l.take (i + 1)).find? (fun x => decide (x.key = key)) = none) := by
  obtain ⟨hlt, he⟩ := List.getElem?_eq_some_iff.1 hx
  refine ⟨fun hk => ?_, fun hk => ?_⟩
  · have : l = l.take i ++ x :: l.drop (i + 1) := by rw [← he, ← List.drop_eq_getElem_cons hlt, List.take_append_drop]
    rw [this, List.find?_append, h, List.find?_cons, hk]; rfl
  · rw [List.take_succ_eq_append_getElem hlt, List.find?_append, h, he, List.find?_cons, hk]; rfl
theorem read60 {σ : Hp} {g : Nat} {T : TxS} {v : Value} (hg : σ g = some (.cells (T.cells v) 141)) (hr : RowsAt 81 3 Got.cells σ v T.reads) (key : ByteArray) (hk : key.size ≤ 140737488351232) (hn : T.reads.length ≤ 140737488351232) :
    ACalls Try.prog 60 #[.pointer (some ⟨g, 0, none⟩), .string key] σ fun u σ' => u = .tuple #[.agg #[.bool (T.read key).2.1.1, .string (T.read key).2.1.2], .agg (T.read key).2.2.1.cells.toArray, .int .i64 (T.read key).2.2.2] ∧ σ' = set σ g (.cells ((T.read key).1.cells v) 141) := by
  rcases hr with ⟨rfl, hnil⟩ | ⟨b, c, rfl, hc, hb⟩
  · (unfold TxS.cells at hg; obtain ⟨τ, rfl⟩ := open_upd hg; clear hg)
    (refine acalls_F ok60 (by simp) ?_; unfold c60 r60)
    (repeat' (first | (simp +contextual -dsimp only [*, Msg.cells, TxS.cells, TxS.req, TxS.rests, TxS.asks, TxS.more, ↓reduceIte, ↓evP, evQ, splice, Nat.reduceAdd, Nat.reduceEqDiff, Nat.reduceLeDiff, Nat.reduceMul, reduceCtorEq, Int.reduceLT, Int.reduceLE, Int.reduceGT, Int.reduceGE, Int.reduceEq, Int.reduceNeg]) | (refine condF_split (fun hc => ?_) (fun hc => ?_) <;> (try simp only [Bool.not_eq_true', Bool.not_eq_false', Bool.and_eq_true, Bool.or_eq_false_iff] at hc)) | refine callF_v (busy63 (T := T) (v := .slice none 0 0) (by first | rfl | (simp only [upd_same, upd_at, set_at, *, ↓reduceIte]; done) | (simp only [upd_same, upd_at, set_at, *, ↓reduceIte]; rfl))) ?_ | refine ccallF_of (busy63 (T := T) (v := .slice none 0 0) (by first | rfl | (simp only [upd_same, upd_at, set_at, *, ↓reduceIte]; done) | (simp only [upd_same, upd_at, set_at, *, ↓reduceIte]; rfl))) ?_ | refine gcallF_of (busy63 (T := T) (v := .slice none 0 0) (by first | rfl | (simp only [upd_same, upd_at, set_at, *, ↓reduceIte]; done) | (simp only [upd_same, upd_at, set_at, *, ↓reduceIte]; rfl))) ?_ | (intro _; intros) | (refine And.intro ?_ ?_; focus (first | omega | ((repeat (first | exact Sub.refl _ | (refine Sub.drop ?_ ?_; focus (simp only [evN, *]; done)) | refine Sub.both ?_)); done) | (simp_all; done) | (simp_all; omega)))))
    all_goals (try (refine endF_det ?_ ?_; (focus ((try simp only [TxS.read, goodK_alt, Bool.not_true, Bool.and_false, Bool.false_and, Bool.not_false, cond_true, cond_false, *]) <;> ((try simp only [decide_eq_true_eq, decide_eq_false_iff_not] at *) <;> first | rfl | (simp [TxS.read, goodK_alt, Bool.not_true, Bool.and_false, Bool.false_and, Bool.not_false]; done) | (simp_all [TxS.read, goodK_alt, Bool.not_true, Bool.and_false, Bool.false_and, Bool.not_false]; done) | (simp [TxS.read, goodK_alt, Bool.not_true, Bool.and_false, Bool.false_and, Bool.not_false]; omega) | (simp [TxS.read, goodK_alt, Bool.not_true, Bool.and_false, Bool.false_and, Bool.not_false]; (rw [Bool.eq_iff_iff]); simp; omega) | (simp_all [TxS.read, goodK_alt, Bool.not_true, Bool.and_false, Bool.false_and, Bool.not_false] <;> omega) | ((try unfold TxS.read  goodK_alt  Bool.not_true  Bool.and_false  Bool.false_and  Bool.not_false); (rw [Value.bool.injEq, Bool.eq_iff_iff]); simp <;> omega) | ((try unfold TxS.read  goodK_alt  Bool.not_true  Bool.and_false  Bool.false_and  Bool.not_false); (repeat' split) <;> simp_all <;> omega) | (simp_all [TxS.read, goodK_alt, Bool.not_true, Bool.and_false, Bool.false_and, Bool.not_false] <;> (repeat' split) <;> simp_all <;> omega)))); (focus ((try simp only [TxS.read, goodK_alt, Bool.not_true, Bool.and_false, Bool.false_and, Bool.not_false, cond_true, cond_false, set_same, *]); exact (by (repeat (first | exact Sub.refl _ | (refine Sub.drop ?_ ?_; focus (simp only [evN, *]; done)) | refine Sub.both ?_)); done)))))
    refine loopF_keep [0, 1, 4, 5, 43] (fun k s => s 44 = .int .i64 0) 0 (by first | rfl | (simp only [↓putO_get, ↓putO_no, init_zero, init_succ, Nat.reduceEqDiff, ↓reduceIte, *]; done) | (simp only [↓putO_get, ↓putO_no, init_zero, init_succ, Nat.reduceEqDiff, ↓reduceIte, *]; rfl)) ?_
    intro k s hL h44
    simp only [List.map_cons, List.map_nil, ↓putO_get, ↓putO_no, init_zero, init_succ, Nat.reduceEqDiff, ↓reduceIte, List.cons.injEq, and_true] at hL
    (repeat' (first | (simp +contextual -dsimp only [*, Msg.cells, TxS.cells, TxS.req, TxS.rests, TxS.asks, TxS.more, ↓reduceIte, ↓evP, evQ, splice, Nat.reduceAdd, Nat.reduceEqDiff, Nat.reduceLeDiff, Nat.reduceMul, reduceCtorEq, Int.reduceLT, Int.reduceLE, Int.reduceGT, Int.reduceGE, Int.reduceEq, Int.reduceNeg]) | (refine condF_split (fun hc => ?_) (fun hc => ?_) <;> (try simp only [Bool.not_eq_true', Bool.not_eq_false', Bool.and_eq_true, Bool.or_eq_false_iff] at hc)) | refine callF_v (ask83 (T := T) (v := .slice none 0 0) (by first | rfl | (simp only [upd_same, upd_at, set_at, *, ↓reduceIte]; done) | (simp only [upd_same, upd_at, set_at, *, ↓reduceIte]; rfl)) _ _ (by assumption)) ?_ | refine ccallF_of (ask83 (T := T) (v := .slice none 0 0) (by first | rfl | (simp only [upd_same, upd_at, set_at, *, ↓reduceIte]; done) | (simp only [upd_same, upd_at, set_at, *, ↓reduceIte]; rfl)) _ _ (by assumption)) ?_ | refine gcallF_of (ask83 (T := T) (v := .slice none 0 0) (by first | rfl | (simp only [upd_same, upd_at, set_at, *, ↓reduceIte]; done) | (simp only [upd_same, upd_at, set_at, *, ↓reduceIte]; rfl)) _ _ (by assumption)) ?_ | (intro _; intros) | (refine And.intro ?_ ?_; focus (first | omega | ((repeat (first | exact Sub.refl _ | (refine Sub.drop ?_ ?_; focus (simp only [evN, *]; done)) | refine Sub.both ?_)); done) | (simp_all; done) | (simp_all; omega)))))
    have hf : T.find key = none := by unfold TxS.find; rw [hnil]; rfl
    all_goals (refine endF_det ?_ ?_; (focus ((try simp only [TxS.read, goodK_alt, Bool.not_true, Bool.and_true, Bool.false_and, Bool.not_false, hf, TxS.asks, TxS.req, TxS.cells, Msg.cells, cond_true, cond_false, *]) <;> ((try simp only [decide_eq_true_eq, decide_eq_false_iff_not] at *) <;> first | rfl | (simp [TxS.read, goodK_alt, Bool.not_true, Bool.and_true, Bool.false_and, Bool.not_false, hf, TxS.asks, TxS.req, TxS.cells, Msg.cells]; done) | (simp_all [TxS.read, goodK_alt, Bool.not_true, Bool.and_true, Bool.false_and, Bool.not_false, hf, TxS.asks, TxS.req, TxS.cells, Msg.cells]; done) | (simp [TxS.read, goodK_alt, Bool.not_true, Bool.and_true, Bool.false_and, Bool.not_false, hf, TxS.asks, TxS.req, TxS.cells, Msg.cells]; omega) | (simp [TxS.read, goodK_alt, Bool.not_true, Bool.and_true, Bool.false_and, Bool.not_false, hf, TxS.asks, TxS.req, TxS.cells, Msg.cells]; (rw [Bool.eq_iff_iff]); simp; omega) | (simp_all [TxS.read, goodK_alt, Bool.not_true, Bool.and_true, Bool.false_and, Bool.not_false, hf, TxS.asks, TxS.req, TxS.cells, Msg.cells] <;> omega) | ((try unfold TxS.read  goodK_alt  Bool.not_true  Bool.and_true  Bool.false_and  Bool.not_false  hf  TxS.asks  TxS.req  TxS.cells  Msg.cells); (rw [Value.bool.injEq, Bool.eq_iff_iff]); simp <;> omega) | ((try unfold TxS.read  goodK_alt  Bool.not_true  Bool.and_true  Bool.false_and  Bool.not_false  hf  TxS.asks  TxS.req  TxS.cells  Msg.cells); (repeat' split) <;> simp_all <;> omega) | (simp_all [TxS.read, goodK_alt, Bool.not_true, Bool.and_true, Bool.false_and, Bool.not_false, hf, TxS.asks, TxS.req, TxS.cells, Msg.cells] <;> (repeat' split) <;> simp_all <;> omega)))); (focus ((try simp only [TxS.read, goodK_alt, Bool.not_true, Bool.and_true, Bool.false_and, Bool.not_false, hf, TxS.asks, TxS.req, TxS.cells, Msg.cells, cond_true, cond_false, set_same, *]); exact (by (repeat (first | exact Sub.refl _ | (refine Sub.drop ?_ ?_; focus (simp only [evN, *]; done)) | refine Sub.both ?_)); done))))
  · unfold TxS.cells at hg
    obtain ⟨τ, rfl, hne1, hne2⟩ := open_two hg hb (by simp)
    clear hg hb
    (refine acalls_F ok60 (by simp) ?_; unfold c60 r60)
    (repeat' (first | (simp +contextual -dsimp only [*, Msg.cells, TxS.cells, TxS.req, TxS.rests, TxS.asks, TxS.more, ↓reduceIte, ↓evP, evQ, splice, Nat.reduceAdd, Nat.reduceEqDiff, Nat.reduceLeDiff, Nat.reduceMul, reduceCtorEq, Int.reduceLT, Int.reduceLE, Int.reduceGT, Int.reduceGE, Int.reduceEq, Int.reduceNeg]) | (refine condF_split (fun hc => ?_) (fun hc => ?_) <;> (try simp only [Bool.not_eq_true', Bool.not_eq_false', Bool.and_eq_true, Bool.or_eq_false_iff] at hc)) | refine callF_v (busy63 (T := T) (v := .slice (some ⟨b, 0, none⟩) T.reads.length c) (by first | rfl | (simp only [upd_same, upd_at, set_at, *, ↓reduceIte]; done) | (simp only [upd_same, upd_at, set_at, *, ↓reduceIte]; rfl))) ?_ | refine ccallF_of (busy63 (T := T) (v := .slice (some ⟨b, 0, none⟩) T.reads.length c) (by first | rfl | (simp only [upd_same, upd_at, set_at, *, ↓reduceIte]; done) | (simp only [upd_same, upd_at, set_at, *, ↓reduceIte]; rfl))) ?_ | refine gcallF_of (busy63 (T := T) (v := .slice (some ⟨b, 0, none⟩) T.reads.length c) (by first | rfl | (simp only [upd_same, upd_at, set_at, *, ↓reduceIte]; done) | (simp only [upd_same, upd_at, set_at, *, ↓reduceIte]; rfl))) ?_ | (intro _; intros) | (refine And.intro ?_ ?_; focus (first | omega | ((repeat (first | exact Sub.refl _ | (refine Sub.drop ?_ ?_; focus (simp only [evN, *]; done)) | refine Sub.both ?_)); done) | (simp_all; done) | (simp_all; omega)))))
    all_goals (try (refine endF_det ?_ ?_; (focus ((try simp only [TxS.read, goodK_alt, Bool.not_true, Bool.and_false, Bool.false_and, Bool.not_false, cond_true, cond_false, *]) <;> ((try simp only [decide_eq_true_eq, decide_eq_false_iff_not] at *) <;> first | rfl | (simp [TxS.read, goodK_alt, Bool.not_true, Bool.and_false, Bool.false_and, Bool.not_false]; done) | (simp_all [TxS.read, goodK_alt, Bool.not_true, Bool.and_false, Bool.false_and, Bool.not_false]; done) | (simp [TxS.read, goodK_alt, Bool.not_true, Bool.and_false, Bool.false_and, Bool.not_false]; omega) | (simp [TxS.read, goodK_alt, Bool.not_true, Bool.and_false, Bool.false_and, Bool.not_false]; (rw [Bool.eq_iff_iff]); simp; omega) | (simp_all [TxS.read, goodK_alt, Bool.not_true, Bool.and_false, Bool.false_and, Bool.not_false] <;> omega) | ((try unfold TxS.read  goodK_alt  Bool.not_true  Bool.and_false  Bool.false_and  Bool.not_false); (rw [Value.bool.injEq, Bool.eq_iff_iff]); simp <;> omega) | ((try unfold TxS.read  goodK_alt  Bool.not_true  Bool.and_false  Bool.false_and  Bool.not_false); (repeat' split) <;> simp_all <;> omega) | (simp_all [TxS.read, goodK_alt, Bool.not_true, Bool.and_false, Bool.false_and, Bool.not_false] <;> (repeat' split) <;> simp_all <;> omega)))); (focus ((try simp only [TxS.read, goodK_alt, Bool.not_true, Bool.and_false, Bool.false_and, Bool.not_false, cond_true, cond_false, set_same, *]); exact (by (repeat (first | exact Sub.refl _ | (refine Sub.drop ?_ ?_; focus (simp only [evN, *]; done)) | refine Sub.both ?_)); done)))))
    refine loopF_keep [0, 1, 4, 5, 42, 43] (fun k s => ∃ i : Nat, i ≤ T.reads.length ∧ k = T.reads.length - i ∧ s 44 = .int .i64 i ∧ (T.reads.take i).find? (fun x => decide (x.key = key)) = none) T.reads.length ⟨0, by omega, rfl, (by first | rfl | (simp only [↓putO_get, ↓putO_no, init_zero, init_succ, Nat.reduceEqDiff, ↓reduceIte, *]; done) | (simp only [↓putO_get, ↓putO_no, init_zero, init_succ, Nat.reduceEqDiff, ↓reduceIte, *]; rfl)), rfl⟩ ?_
    rintro k s hL ⟨i, hi, hk, h44, hfi⟩
    simp only [List.map_cons, List.map_nil, ↓putO_get, ↓putO_no, init_zero, init_succ, Nat.reduceEqDiff, ↓reduceIte, List.cons.injEq, and_true] at hL
    rcases Nat.lt_or_ge i T.reads.length with hlt | hge
    · obtain ⟨x, hx⟩ : ∃ x, T.reads[i]? = some x := ⟨_, List.getElem?_eq_getElem hlt⟩
      have hseg := got_row hx
      have hd : decide ((i : Int) < (T.reads.length : Int)) = true := by simp; omega
      have hst := find_step hx hfi
      clear hx hfi
      (repeat' (first | (simp +contextual -dsimp only [*, Msg.cells, TxS.cells, TxS.req, TxS.rests, TxS.asks, TxS.more, ↓reduceIte, ↓evP, evQ, splice, Nat.reduceAdd, Nat.reduceEqDiff, Nat.reduceLeDiff, Nat.reduceMul, reduceCtorEq, Int.reduceLT, Int.reduceLE, Int.reduceGT, Int.reduceGE, Int.reduceEq, Int.reduceNeg]) | (refine condF_split (fun hc => ?_) (fun hc => ?_) <;> (try simp only [Bool.not_eq_true', Bool.not_eq_false', Bool.and_eq_true, Bool.or_eq_false_iff] at hc)) | (intro _; intros) | (refine And.intro ?_ ?_; focus (first | omega | ((repeat (first | exact Sub.refl _ | (refine Sub.drop ?_ ?_; focus (simp only [evN, *]; done)) | refine Sub.both ?_)); done) | (simp_all; done) | (simp_all; omega)))))
      · have hf : T.find key = some x := hst.1 hc
        all_goals (refine endF_det ?_ ?_; (focus ((try simp only [TxS.read, goodK_alt, Bool.not_true, Bool.and_true, Bool.false_and, Bool.not_false, hf, TxS.cells, Msg.cells, cond_true, cond_false, *]) <;> ((try simp only [decide_eq_true_eq, decide_eq_false_iff_not] at *) <;> first | rfl | (simp [TxS.read, goodK_alt, Bool.not_true, Bool.and_true, Bool.false_and, Bool.not_false, hf, TxS.cells, Msg.cells]; done) | (simp_all [TxS.read, goodK_alt, Bool.not_true, Bool.and_true, Bool.false_and, Bool.not_false, hf, TxS.cells, Msg.cells]; done) | (simp [TxS.read, goodK_alt, Bool.not_true, Bool.and_true, Bool.false_and, Bool.not_false, hf, TxS.cells, Msg.cells]; omega) | (simp [TxS.read, goodK_alt, Bool.not_true, Bool.and_true, Bool.false_and, Bool.not_false, hf, TxS.cells, Msg.cells]; (rw [Bool.eq_iff_iff]); simp; omega) | (simp_all [TxS.read, goodK_alt, Bool.not_true, Bool.and_true, Bool.false_and, Bool.not_false, hf, TxS.cells, Msg.cells] <;> omega) | ((try unfold TxS.read  goodK_alt  Bool.not_true  Bool.and_true  Bool.false_and  Bool.not_false  hf  TxS.cells  Msg.cells); (rw [Value.bool.injEq, Bool.eq_iff_iff]); simp <;> omega) | ((try unfold TxS.read  goodK_alt  Bool.not_true  Bool.and_true  Bool.false_and  Bool.not_false  hf  TxS.cells  Msg.cells); (repeat' split) <;> simp_all <;> omega) | (simp_all [TxS.read, goodK_alt, Bool.not_true, Bool.and_true, Bool.false_and, Bool.not_false, hf, TxS.cells, Msg.cells] <;> (repeat' split) <;> simp_all <;> omega)))); (focus ((try simp only [TxS.read, goodK_alt, Bool.not_true, Bool.and_true, Bool.false_and, Bool.not_false, hf, TxS.cells, Msg.cells, cond_true, cond_false, set_same, *]); exact (by (repeat (first | exact Sub.refl _ | (refine Sub.drop ?_ ?_; focus (simp only [evN, *]; done)) | refine Sub.both ?_)); done))))
      · refine keep_of (T.reads.length - (i + 1)) (by omega) (by simp only [List.map_cons, List.map_nil, ↓putO_get, ↓putO_no, init_zero, init_succ, Nat.reduceEqDiff, ↓reduceIte, *]) (by (repeat (first | exact Sub.refl _ | (refine Sub.drop ?_ ?_; focus (simp only [evN, *]; done)) | refine Sub.both ?_)); done) ⟨i + 1, by omega, rfl, ?_, hst.2 hc⟩
        show Value.int .i64 (IntKind.i64.wrap _) = _; rw [wi64 (by omega)]; rfl
    · have hd : decide ((i : Int) < (T.reads.length : Int)) = false := by simp; omega
      obtain rfl : i = T.reads.length := by omega
      (repeat' (first | (simp +contextual -dsimp only [*, Msg.cells, TxS.cells, TxS.req, TxS.rests, TxS.asks, TxS.more, ↓reduceIte, ↓evP, evQ, splice, Nat.reduceAdd, Nat.reduceEqDiff, Nat.reduceLeDiff, Nat.reduceMul, reduceCtorEq, Int.reduceLT, Int.reduceLE, Int.reduceGT, Int.reduceGE, Int.reduceEq, Int.reduceNeg]) | (refine condF_split (fun hc => ?_) (fun hc => ?_) <;> (try simp only [Bool.not_eq_true', Bool.not_eq_false', Bool.and_eq_true, Bool.or_eq_false_iff] at hc)) | refine callF_v (ask83 (T := T) (v := .slice (some ⟨b, 0, none⟩) T.reads.length c) (by first | rfl | (simp only [upd_same, upd_at, set_at, *, ↓reduceIte]; done) | (simp only [upd_same, upd_at, set_at, *, ↓reduceIte]; rfl)) _ _ (by assumption)) ?_ | refine ccallF_of (ask83 (T := T) (v := .slice (some ⟨b, 0, none⟩) T.reads.length c) (by first | rfl | (simp only [upd_same, upd_at, set_at, *, ↓reduceIte]; done) | (simp only [upd_same, upd_at, set_at, *, ↓reduceIte]; rfl)) _ _ (by assumption)) ?_ | refine gcallF_of (ask83 (T := T) (v := .slice (some ⟨b, 0, none⟩) T.reads.length c) (by first | rfl | (simp only [upd_same, upd_at, set_at, *, ↓reduceIte]; done) | (simp only [upd_same, upd_at, set_at, *, ↓reduceIte]; rfl)) _ _ (by assumption)) ?_ | (intro _; intros) | (refine And.intro ?_ ?_; focus (first | omega | ((repeat (first | exact Sub.refl _ | (refine Sub.drop ?_ ?_; focus (simp only [evN, *]; done)) | refine Sub.both ?_)); done) | (simp_all; done) | (simp_all; omega)))))
      have hf : T.find key = none := by unfold TxS.find; rw [List.take_length] at hfi; exact hfi
      all_goals (refine endF_det ?_ ?_; (focus ((try simp only [TxS.read, goodK_alt, Bool.not_true, Bool.and_true, Bool.false_and, Bool.not_false, hf, TxS.asks, TxS.req, TxS.cells, Msg.cells, cond_true, cond_false, *]) <;> ((try simp only [decide_eq_true_eq, decide_eq_false_iff_not] at *) <;> first | rfl | (simp [TxS.read, goodK_alt, Bool.not_true, Bool.and_true, Bool.false_and, Bool.not_false, hf, TxS.asks, TxS.req, TxS.cells, Msg.cells]; done) | (simp_all [TxS.read, goodK_alt, Bool.not_true, Bool.and_true, Bool.false_and, Bool.not_false, hf, TxS.asks, TxS.req, TxS.cells, Msg.cells]; done) | (simp [TxS.read, goodK_alt, Bool.not_true, Bool.and_true, Bool.false_and, Bool.not_false, hf, TxS.asks, TxS.req, TxS.cells, Msg.cells]; omega) | (simp [TxS.read, goodK_alt, Bool.not_true, Bool.and_true, Bool.false_and, Bool.not_false, hf, TxS.asks, TxS.req, TxS.cells, Msg.cells]; (rw [Bool.eq_iff_iff]); simp; omega) | (simp_all [TxS.read, goodK_alt, Bool.not_true, Bool.and_true, Bool.false_and, Bool.not_false, hf, TxS.asks, TxS.req, TxS.cells, Msg.cells] <;> omega) | ((try unfold TxS.read  goodK_alt  Bool.not_true  Bool.and_true  Bool.false_and  Bool.not_false  hf  TxS.asks  TxS.req  TxS.cells  Msg.cells); (rw [Value.bool.injEq, Bool.eq_iff_iff]); simp <;> omega) | ((try unfold TxS.read  goodK_alt  Bool.not_true  Bool.and_true  Bool.false_and  Bool.not_false  hf  TxS.asks  TxS.req  TxS.cells  Msg.cells); (repeat' split) <;> simp_all <;> omega) | (simp_all [TxS.read, goodK_alt, Bool.not_true, Bool.and_true, Bool.false_and, Bool.not_false, hf, TxS.asks, TxS.req, TxS.cells, Msg.cells] <;> (repeat' split) <;> simp_all <;> omega)))); (focus ((try simp only [TxS.read, goodK_alt, Bool.not_true, Bool.and_true, Bool.false_and, Bool.not_false, hf, TxS.asks, TxS.req, TxS.cells, Msg.cells, cond_true, cond_false, set_same, *]); exact (by (repeat (first | exact Sub.refl _ | (refine Sub.drop ?_ ?_; focus (simp only [evN, *]; done)) | refine Sub.both ?_)); done))))
/-- A transaction's cells at g, its reads behind v. -/
def TxAt (ty : TypeId) (σ : Hp) (g : Nat) (T : TxS) (v : Value) : Prop := σ g = some (.cells (T.cells v) ty) ∧ RowsAt 81 3 Got.cells σ v T.reads
def TxS.pinT (T : TxS) (lo hi : Int) : Int × Int := nar T.lo T.hi (ofS lo hi).1 (ofS lo hi).2
def TxS.fits (T : TxS) (lo hi : Int) : Bool := !decide ((T.pinT lo hi).1 ≥ (T.pinT lo hi).2)
def TxS.took (T : TxS) (has : Bool) (data : ByteArray) (lo hi : Int) : TxS := { T with lo := (T.pinT lo hi).1, hi := (T.pinT lo hi).2, reads := T.reads ++ [⟨T.key, has, data⟩] }
def TxS.takes (T : TxS) (has : Bool) (data : ByteArray) (lo hi : Int) : TxS := cond (T.fits lo hi) ((T.took has data lo hi).rests 0 0) T
theorem leafTx {ty : TypeId} {σ₀ σ : Hp} {g : Nat} {v v' : Value} {T : TxS} (h1 : σ g = some (.cells (T.cells v') ty)) (h2 : RowsAt 81 3 Got.cells σ v' T.reads) (h3 : Same (fun k => k = g ∨ blk v = some k) σ₀ σ) (h4 : ∀ k, blk v' = some k → blk v = some k ∨ σ₀ k = none) :
    ∃ v', TxAt ty σ g T v' ∧ Step σ₀ g v σ v' := ⟨v', ⟨h1, h2⟩, h3, h4⟩
theorem fits_eq {T : TxS} {lo hi : Int} {b : Bool} (h : decide ((nar T.lo T.hi (ofS lo hi).1 (ofS lo hi).2).1 ≥ (nar T.lo T.hi (ofS lo hi).1 (ofS lo hi).2).2) = b) : T.fits lo hi = !b := by
  rw [← h]; rfl
theorem takes_eq {T : TxS} {lo hi : Int} {has : Bool} {data : ByteArray} (h : T.fits lo hi = true) : T.takes has data lo hi = (T.took has data lo hi).rests 0 0 := by unfold TxS.takes; rw [h]; rfl
theorem takes_no {T : TxS} {lo hi : Int} {has : Bool} {data : ByteArray} (h : T.fits lo hi = false) : T.takes has data lo hi = T := by unfold TxS.takes; rw [h]; rfl
theorem take84 {σ : Hp} {g : Nat} {T : TxS} {v : Value} (hT : TxAt 141 σ g T v) (has : Bool) (data : ByteArray) (lo hi : Int) (hn : (T.reads.length + 1) * 40 ≤ 140737488355328) :
    ACalls Try.prog 84 #[.pointer (some ⟨g, 0, none⟩), .agg #[.bool has, .string data], .agg #[.int .i64 lo, .int .i64 hi]] σ fun u σ' => u = .bool (T.fits lo hi) ∧ ∃ v', TxAt 141 σ' g (T.takes has data lo hi) v' ∧ Step σ g v σ' v' := by
  obtain ⟨hg, hr⟩ := hT
  unfold TxS.cells at hg
  rcases hr with ⟨rfl, hnil⟩ | ⟨b, c, rfl, hcap, hb⟩
  · obtain ⟨τ, rfl⟩ := open_upd hg
    clear hg
    (refine acalls_F ok84 (by simp) ?_; unfold c84 r84)
    (repeat' (first | (simp +contextual -dsimp only [*, Msg.cells, TxS.cells, TxS.req, TxS.rests, TxS.asks, TxS.more, ↓reduceIte, ↓evP, evQ, splice, Nat.reduceAdd, Nat.reduceEqDiff, Nat.reduceLeDiff, Nat.reduceMul, reduceCtorEq, Int.reduceLT, Int.reduceLE, Int.reduceGT, Int.reduceGE, Int.reduceEq, Int.reduceNeg]) | (refine condF_split (fun hc => ?_) (fun hc => ?_) <;> (try simp only [Bool.not_eq_true', Bool.not_eq_false', Bool.and_eq_true, Bool.or_eq_false_iff] at hc)) | refine callF_v (of108 _ _ _) ?_ | refine callF_v (narrow107 _ _ _ _ _) ?_ | refine callF_v (rest64 (T := T.took has data lo hi) (v := .slice none 0 0) (by first | rfl | (simp only [upd_same, upd_at, set_at, *, ↓reduceIte]; done) | (simp only [upd_same, upd_at, set_at, *, ↓reduceIte]; rfl)) _ _) ?_ | refine ccallF_of (of108 _ _ _) ?_ | refine ccallF_of (narrow107 _ _ _ _ _) ?_ | refine ccallF_of (rest64 (T := T.took has data lo hi) (v := .slice none 0 0) (by first | rfl | (simp only [upd_same, upd_at, set_at, *, ↓reduceIte]; done) | (simp only [upd_same, upd_at, set_at, *, ↓reduceIte]; rfl)) _ _) ?_ | refine gcallF_of (of108 _ _ _) ?_ | refine gcallF_of (narrow107 _ _ _ _ _) ?_ | refine gcallF_of (rest64 (T := T.took has data lo hi) (v := .slice none 0 0) (by first | rfl | (simp only [upd_same, upd_at, set_at, *, ↓reduceIte]; done) | (simp only [upd_same, upd_at, set_at, *, ↓reduceIte]; rfl)) _ _) ?_ | (intro _; intros) | (refine And.intro ?_ ?_; focus (first | omega | ((repeat (first | exact Sub.refl _ | (refine Sub.drop ?_ ?_; focus (simp only [evN, *]; done)) | refine Sub.both ?_)); done) | (simp_all; done) | (simp_all; omega)))))
    · refine app_n (by first | (simp only [Nat.reduceMul, Nat.one_mul, Nat.zero_mul, rdn_row, rdn_same, rdn_ne, seg_zero, seg_cons, seg_skip, Option.map_some, not_false_eq_true, *]; done) | (simp only [Nat.reduceMul, Nat.one_mul, Nat.zero_mul, rdn_row, rdn_same, rdn_ne, seg_zero, seg_cons, seg_skip, Option.map_some, not_false_eq_true, *]; exact rfl)) rfl (by omega) (by omega) (by unfold maxLen; omega) ?_
      (repeat' (first | (simp +contextual -dsimp only [*, Msg.cells, TxS.cells, TxS.req, TxS.rests, TxS.asks, TxS.more, ↓reduceIte, ↓evP, evQ, splice, Nat.reduceAdd, Nat.reduceEqDiff, Nat.reduceLeDiff, Nat.reduceMul, reduceCtorEq, Int.reduceLT, Int.reduceLE, Int.reduceGT, Int.reduceGE, Int.reduceEq, Int.reduceNeg]) | (refine condF_split (fun hc => ?_) (fun hc => ?_) <;> (try simp only [Bool.not_eq_true', Bool.not_eq_false', Bool.and_eq_true, Bool.or_eq_false_iff] at hc)) | refine callF_v (rest64 (T := T.took has data lo hi) (v := .slice (some ⟨_, 0, none⟩) 1 _) (by first | rfl | (simp only [upd_same, upd_at, set_at, *, ↓reduceIte]; done) | (simp only [upd_same, upd_at, set_at, *, ↓reduceIte]; rfl)) _ _) ?_ | refine ccallF_of (rest64 (T := T.took has data lo hi) (v := .slice (some ⟨_, 0, none⟩) 1 _) (by first | rfl | (simp only [upd_same, upd_at, set_at, *, ↓reduceIte]; done) | (simp only [upd_same, upd_at, set_at, *, ↓reduceIte]; rfl)) _ _) ?_ | refine gcallF_of (rest64 (T := T.took has data lo hi) (v := .slice (some ⟨_, 0, none⟩) 1 _) (by first | rfl | (simp only [upd_same, upd_at, set_at, *, ↓reduceIte]; done) | (simp only [upd_same, upd_at, set_at, *, ↓reduceIte]; rfl)) _ _) ?_ | (intro _; intros) | (refine And.intro ?_ ?_; focus (first | omega | ((repeat (first | exact Sub.refl _ | (refine Sub.drop ?_ ?_; focus (simp only [evN, *]; done)) | refine Sub.both ?_)); done) | (simp_all; done) | (simp_all; omega)))))
      have hf := fits_eq hc
      rw [hf, takes_eq hf]
      refine endF_at ⟨rfl, leafTx (by simp only [upd_at, *, ↓reduceIte]; rfl) ?_ (by repeat (first | exact Same.refl _ _ | (refine Same.updNew ?_ ?_; focus (simp only [evN, *]; done)) | (refine Same.both ?_ ?_; focus (first | exact rfl | exact .inl rfl | exact .inr rfl)) | (refine Same.updIn ?_ ?_; focus (first | exact rfl | exact .inl rfl | exact .inr rfl)) | refine Same.eq ?_)) ?_⟩
      · exact rows_mk (by simp [TxS.took, TxS.rests, hnil]) (by omega) (by simp only [upd_at, *, ↓reduceIte, TxS.took, TxS.rests]; rfl)
      · intro k hk; first | exact .inl hk | (cases hk; exact .inr (by simp only [evN, *]; done))
    · have hf := fits_eq hc
      rw [hf, takes_no hf]
      refine endF_at ⟨rfl, leafTx (by simp only [upd_at, *, ↓reduceIte]; rfl) ?_ (by repeat (first | exact Same.refl _ _ | (refine Same.updNew ?_ ?_; focus (simp only [evN, *]; done)) | (refine Same.both ?_ ?_; focus (first | exact rfl | exact .inl rfl | exact .inr rfl)) | (refine Same.updIn ?_ ?_; focus (first | exact rfl | exact .inl rfl | exact .inr rfl)) | refine Same.eq ?_)) ?_⟩
      · first | exact .inl ⟨rfl, hnil⟩ | exact rows_mk rfl hcap (by simp only [upd_at, *, ↓reduceIte]; done)
      · intro k hk; first | exact .inl hk | (cases hk; exact .inr (by simp only [evN, *]; done))
  · obtain ⟨τ, rfl, hne1, hne2⟩ := open_two hg hb (by simp)
    clear hg hb
    (refine acalls_F ok84 (by simp) ?_; unfold c84 r84)
    (repeat' (first | (simp +contextual -dsimp only [*, Msg.cells, TxS.cells, TxS.req, TxS.rests, TxS.asks, TxS.more, ↓reduceIte, ↓evP, evQ, splice, Nat.reduceAdd, Nat.reduceEqDiff, Nat.reduceLeDiff, Nat.reduceMul, reduceCtorEq, Int.reduceLT, Int.reduceLE, Int.reduceGT, Int.reduceGE, Int.reduceEq, Int.reduceNeg]) | (refine condF_split (fun hc => ?_) (fun hc => ?_) <;> (try simp only [Bool.not_eq_true', Bool.not_eq_false', Bool.and_eq_true, Bool.or_eq_false_iff] at hc)) | refine callF_v (of108 _ _ _) ?_ | refine callF_v (narrow107 _ _ _ _ _) ?_ | refine ccallF_of (of108 _ _ _) ?_ | refine ccallF_of (narrow107 _ _ _ _ _) ?_ | refine gcallF_of (of108 _ _ _) ?_ | refine gcallF_of (narrow107 _ _ _ _ _) ?_ | (intro _; intros) | (refine And.intro ?_ ?_; focus (first | omega | ((repeat (first | exact Sub.refl _ | (refine Sub.drop ?_ ?_; focus (simp only [evN, *]; done)) | refine Sub.both ?_)); done) | (simp_all; done) | (simp_all; omega)))))
    · have hf := fits_eq hc
      rw [hf, takes_eq hf]
      have hl : (T.reads.flatMap Got.cells ++ [.string T.key, .bool has, .string data]) = (T.reads ++ [(⟨T.key, has, data⟩ : Got)]).flatMap Got.cells := by simp only [List.flatMap_append, List.flatMap_cons, List.flatMap_nil, Got.cells, List.append_nil]
      refine app_b (by first | (simp only [Nat.reduceMul, Nat.one_mul, Nat.zero_mul, rdn_row, rdn_same, rdn_ne, seg_zero, seg_cons, seg_skip, Option.map_some, not_false_eq_true, *]; done) | (simp only [Nat.reduceMul, Nat.one_mul, Nat.zero_mul, rdn_row, rdn_same, rdn_ne, seg_zero, seg_cons, seg_skip, Option.map_some, not_false_eq_true, *]; exact rfl)) rfl (by simp only [upd_at, *, ↓reduceIte]) (flat_len Got.cells_len _) (by omega) (by omega) (by unfold maxLen; omega) ?_ ?_
      · rw [hl]
        (repeat' (first | (simp +contextual -dsimp only [*, Msg.cells, TxS.cells, TxS.req, TxS.rests, TxS.asks, TxS.more, ↓reduceIte, ↓evP, evQ, splice, Nat.reduceAdd, Nat.reduceEqDiff, Nat.reduceLeDiff, Nat.reduceMul, reduceCtorEq, Int.reduceLT, Int.reduceLE, Int.reduceGT, Int.reduceGE, Int.reduceEq, Int.reduceNeg]) | (refine condF_split (fun hc => ?_) (fun hc => ?_) <;> (try simp only [Bool.not_eq_true', Bool.not_eq_false', Bool.and_eq_true, Bool.or_eq_false_iff] at hc)) | refine callF_v (rest64 (T := T.took has data lo hi) (v := .slice (some ⟨b, 0, none⟩) (T.reads.length + 1) _) (by first | rfl | (simp only [upd_same, upd_at, set_at, *, ↓reduceIte]; done) | (simp only [upd_same, upd_at, set_at, *, ↓reduceIte]; rfl)) _ _) ?_ | refine ccallF_of (rest64 (T := T.took has data lo hi) (v := .slice (some ⟨b, 0, none⟩) (T.reads.length + 1) _) (by first | rfl | (simp only [upd_same, upd_at, set_at, *, ↓reduceIte]; done) | (simp only [upd_same, upd_at, set_at, *, ↓reduceIte]; rfl)) _ _) ?_ | refine gcallF_of (rest64 (T := T.took has data lo hi) (v := .slice (some ⟨b, 0, none⟩) (T.reads.length + 1) _) (by first | rfl | (simp only [upd_same, upd_at, set_at, *, ↓reduceIte]; done) | (simp only [upd_same, upd_at, set_at, *, ↓reduceIte]; rfl)) _ _) ?_ | (intro _; intros) | (refine And.intro ?_ ?_; focus (first | omega | ((repeat (first | exact Sub.refl _ | (refine Sub.drop ?_ ?_; focus (simp only [evN, *]; done)) | refine Sub.both ?_)); done) | (simp_all; done) | (simp_all; omega)))))
        refine endF_at ⟨rfl, leafTx (by simp only [upd_at, *, ↓reduceIte]; rfl) ?_ (by repeat (first | exact Same.refl _ _ | (refine Same.updNew ?_ ?_; focus (simp only [evN, *]; done)) | (refine Same.both ?_ ?_; focus (first | exact rfl | exact .inl rfl | exact .inr rfl)) | (refine Same.updIn ?_ ?_; focus (first | exact rfl | exact .inl rfl | exact .inr rfl)) | refine Same.eq ?_)) ?_⟩
        · exact rows_mk (by simp [TxS.took, TxS.rests]) (by omega) (by simp only [upd_at, *, ↓reduceIte]; rfl)
        · intro k hk; first | exact .inl hk | (cases hk; exact .inr (by simp only [evN, *]; done))
      · rw [hl]
        (repeat' (first | (simp +contextual -dsimp only [*, Msg.cells, TxS.cells, TxS.req, TxS.rests, TxS.asks, TxS.more, ↓reduceIte, ↓evP, evQ, splice, Nat.reduceAdd, Nat.reduceEqDiff, Nat.reduceLeDiff, Nat.reduceMul, reduceCtorEq, Int.reduceLT, Int.reduceLE, Int.reduceGT, Int.reduceGE, Int.reduceEq, Int.reduceNeg]) | (refine condF_split (fun hc => ?_) (fun hc => ?_) <;> (try simp only [Bool.not_eq_true', Bool.not_eq_false', Bool.and_eq_true, Bool.or_eq_false_iff] at hc)) | refine callF_v (rest64 (T := T.took has data lo hi) (v := .slice (some ⟨_, 0, none⟩) (T.reads.length + 1) _) (by first | rfl | (simp only [upd_same, upd_at, set_at, *, ↓reduceIte]; done) | (simp only [upd_same, upd_at, set_at, *, ↓reduceIte]; rfl)) _ _) ?_ | refine ccallF_of (rest64 (T := T.took has data lo hi) (v := .slice (some ⟨_, 0, none⟩) (T.reads.length + 1) _) (by first | rfl | (simp only [upd_same, upd_at, set_at, *, ↓reduceIte]; done) | (simp only [upd_same, upd_at, set_at, *, ↓reduceIte]; rfl)) _ _) ?_ | refine gcallF_of (rest64 (T := T.took has data lo hi) (v := .slice (some ⟨_, 0, none⟩) (T.reads.length + 1) _) (by first | rfl | (simp only [upd_same, upd_at, set_at, *, ↓reduceIte]; done) | (simp only [upd_same, upd_at, set_at, *, ↓reduceIte]; rfl)) _ _) ?_ | (intro _; intros) | (refine And.intro ?_ ?_; focus (first | omega | ((repeat (first | exact Sub.refl _ | (refine Sub.drop ?_ ?_; focus (simp only [evN, *]; done)) | refine Sub.both ?_)); done) | (simp_all; done) | (simp_all; omega)))))
        refine endF_at ⟨rfl, leafTx (by simp only [upd_at, *, ↓reduceIte]; rfl) ?_ (by repeat (first | exact Same.refl _ _ | (refine Same.updNew ?_ ?_; focus (simp only [evN, *]; done)) | (refine Same.both ?_ ?_; focus (first | exact rfl | exact .inl rfl | exact .inr rfl)) | (refine Same.updIn ?_ ?_; focus (first | exact rfl | exact .inl rfl | exact .inr rfl)) | refine Same.eq ?_)) ?_⟩
        · exact rows_mk (by simp [TxS.took, TxS.rests]) (by omega) (by simp only [upd_at, *, ↓reduceIte]; rfl)
        · intro k hk; first | exact .inl hk | (cases hk; exact .inr (by simp only [evN, *]; done))
    · have hf := fits_eq hc
      rw [hf, takes_no hf]
      refine endF_at ⟨rfl, leafTx (by simp only [upd_at, *, ↓reduceIte]; rfl) ?_ (by repeat (first | exact Same.refl _ _ | (refine Same.updNew ?_ ?_; focus (simp only [evN, *]; done)) | (refine Same.both ?_ ?_; focus (first | exact rfl | exact .inl rfl | exact .inr rfl)) | (refine Same.updIn ?_ ?_; focus (first | exact rfl | exact .inl rfl | exact .inr rfl)) | refine Same.eq ?_)) ?_⟩
      · first | exact .inl ⟨rfl, hnil⟩ | exact rows_mk rfl hcap (by simp only [upd_at, *, ↓reduceIte]; done)
      · intro k hk; first | exact .inl hk | (cases hk; exact .inr (by simp only [evN, *]; done))
theorem got_one (l : List Got) : (l.flatMap Got.cells).all Go.Sp.one = true := by
  induction l with
  | nil => rfl
  | cons x l ih => rw [List.flatMap_cons, List.all_append, ih]; rfl
def TxS.hear (T : TxS) (m : Msg) : TxS × Msg × Bool :=
  cond (T.busy && decide (m.tx = T.id) && decide (m.seq = T.seq))
    (cond (decide (m.kind = 4) && decide (T.st = 1))
      (cond (m.hit && T.fits m.lo m.hi) (T.takes m.has m.data m.lo m.hi, {}, true) (T.asks 2 T.key, (T.asks 2 T.key).req, true))
      (cond (decide (m.kind = 6) && decide (T.st = 2)) (cond (decide (m.err = 0)) (T.takes m.has m.data m.lo m.hi, {}, T.fits m.lo m.hi) (T.rests 4 m.err, {}, true)) (T, {}, false)))
    (T, {}, false)
theorem TxAt.same {ty : TypeId} {σ σ' : Hp} {g : Nat} {T T' : TxS} {v : Value} (h : TxAt ty σ g T v) (hs : Same (fun k => k = g) σ σ') (hg : σ' g = some (.cells (T'.cells v) ty)) (hr : T'.reads = T.reads) : TxAt ty σ' g T' v :=
  ⟨hg, by
    rw [hr]
    refine h.2.keep fun k hk => ?_
    rcases h.2 with ⟨rfl, _⟩ | ⟨b, c, rfl, _, hb⟩
    · cases hk
    · cases hk
      refine hs _ (by rw [hb]; simp) fun e => ?_
      have e : b = g := e
      subst e
      rw [h.1] at hb; cases hb⟩
theorem leafKeep {ty : TypeId} {σ₀ σ : Hp} {g : Nat} {v : Value} {T T' : TxS} (h : TxAt ty σ₀ g T v) (h3 : Same (fun k => k = g) σ₀ σ) (h1 : σ g = some (.cells (T'.cells v) ty)) (hr : T'.reads = T.reads) :
    ∃ v', TxAt ty σ g T' v' ∧ Step σ₀ g v σ v' := ⟨v, h.same h3 h1 hr, fun k hk hf => h3 k hk fun e => hf (.inl e), fun k hk => .inl hk⟩
theorem Step.trans {σ0 σ1 σ2 : Hp} {g : Nat} {v v1 v2 : Value} (h : Step σ0 g v σ1 v1) (k : Step σ1 g v1 σ2 v2) (hg : σ1 g ≠ none) : Step σ0 g v σ2 v2 :=
  ⟨h.1.trans k.1 fun i hi hG => by
    rcases hG with e | e
    · exact .inl e
    · rcases h.2 i e with e2 | e2
      · exact .inr e2
      · exact absurd e2 hi, fun i hi => by
    rcases k.2 i hi with e | e
    · exact h.2 i e
    · by_cases e0 : σ0 i = none
      · exact .inr e0
      · by_cases e1 : blk v = some i
        · exact .inl e1
        · by_cases e2 : i = g
          · subst e2; exact absurd e hg
          · exact absurd ((h.1 i e0 (fun x => x.elim e2 e1)).symm.trans e) e0⟩
theorem stepOn {ty : TypeId} {σ0 σ1 σ2 : Hp} {g : Nat} {v v1 : Value} {T : TxS} (h : Step σ0 g v σ1 v1) (k : ∃ v', TxAt ty σ2 g T v' ∧ Step σ1 g v1 σ2 v') (hg : σ1 g ≠ none) : ∃ v', TxAt ty σ2 g T v' ∧ Step σ0 g v σ2 v' := by
  obtain ⟨v', a, b⟩ := k; exact ⟨v', a, h.trans b hg⟩
theorem hear61 {σ : Hp} {g : Nat} {T : TxS} {v : Value} (hT : TxAt 141 σ g T v) (m : Msg) (hk : T.key.size ≤ 140737488351232) (hn : (T.reads.length + 1) * 40 ≤ 140737488355328) :
    ACalls Try.prog 61 #[.pointer (some ⟨g, 0, none⟩), .agg m.cells.toArray] σ fun u σ' => u = .tuple #[.agg (T.hear m).2.1.cells.toArray, .bool (T.hear m).2.2] ∧ ∃ v', TxAt 141 σ' g (T.hear m).1 v' ∧ Step σ g v σ' v' := by
  have hg := hT.1
  unfold TxS.cells at hg
  obtain ⟨τ, rfl⟩ := open_upd hg
  clear hg
  have H : Hid (TxAt 141 _ g T v) := ⟨hT⟩
  clear hT
  (refine acalls_F ok61 (by simp) ?_; unfold c61 r61)
  (repeat' (first | (simp +contextual -dsimp only [*, Msg.cells, TxS.cells, TxS.req, TxS.rests, TxS.asks, TxS.more, ↓reduceIte, ↓evP, evQ, splice, Nat.reduceAdd, Nat.reduceEqDiff, Nat.reduceLeDiff, Nat.reduceMul, reduceCtorEq, Int.reduceLT, Int.reduceLE, Int.reduceGT, Int.reduceGE, Int.reduceEq, Int.reduceNeg]) | (refine condF_split (fun hc => ?_) (fun hc => ?_) <;> (try simp only [Bool.not_eq_true', Bool.not_eq_false', Bool.and_eq_true, Bool.or_eq_false_iff] at hc)) | refine callF_v (busy63 (T := T) (v := v) (by first | rfl | (simp only [upd_same, upd_at, set_at, *, ↓reduceIte]; done) | (simp only [upd_same, upd_at, set_at, *, ↓reduceIte]; rfl))) ?_ | refine ccallF_of (busy63 (T := T) (v := v) (by first | rfl | (simp only [upd_same, upd_at, set_at, *, ↓reduceIte]; done) | (simp only [upd_same, upd_at, set_at, *, ↓reduceIte]; rfl))) ?_ | refine gcallF_of (busy63 (T := T) (v := v) (by first | rfl | (simp only [upd_same, upd_at, set_at, *, ↓reduceIte]; done) | (simp only [upd_same, upd_at, set_at, *, ↓reduceIte]; rfl))) ?_ | (intro _; intros) | (refine And.intro ?_ ?_; focus (first | omega | ((repeat (first | exact Sub.refl _ | (refine Sub.drop ?_ ?_; focus (simp only [evN, *]; done)) | refine Sub.both ?_)); done) | (simp_all; done) | (simp_all; omega)))))
  · (refine endF_at ⟨?_, ?_⟩; (focus (first | (simp only [TxS.hear, cond_true, cond_false, Bool.and_true, Bool.true_and, Bool.and_false, Bool.false_and, *]; done) | (simp only [TxS.hear, cond_true, cond_false, Bool.and_true, Bool.true_and, Bool.and_false, Bool.false_and, *]; rfl))); (focus (simp only [TxS.hear, cond_true, cond_false, Bool.and_true, Bool.true_and, Bool.and_false, Bool.false_and, *]; exact leafKeep H.out (by repeat (first | exact Same.refl _ _ | (refine Same.updNew ?_ ?_; focus (simp only [evN, *]; done)) | (refine Same.both ?_ ?_; focus (first | exact rfl | exact .inl rfl | exact .inr rfl)) | (refine Same.updIn ?_ ?_; focus (first | exact rfl | exact .inl rfl | exact .inr rfl)) | refine Same.eq ?_)) (by first | (simp only [upd_at, *, ↓reduceIte]; done) | (simp only [upd_at, *, ↓reduceIte]; rfl)) rfl)))
  · (refine endF_at ⟨?_, ?_⟩; (focus (first | (simp only [TxS.hear, cond_true, cond_false, Bool.and_true, Bool.true_and, Bool.and_false, Bool.false_and, *]; done) | (simp only [TxS.hear, cond_true, cond_false, Bool.and_true, Bool.true_and, Bool.and_false, Bool.false_and, *]; rfl))); (focus (simp only [TxS.hear, cond_true, cond_false, Bool.and_true, Bool.true_and, Bool.and_false, Bool.false_and, *]; exact leafKeep H.out (by repeat (first | exact Same.refl _ _ | (refine Same.updNew ?_ ?_; focus (simp only [evN, *]; done)) | (refine Same.both ?_ ?_; focus (first | exact rfl | exact .inl rfl | exact .inr rfl)) | (refine Same.updIn ?_ ?_; focus (first | exact rfl | exact .inl rfl | exact .inr rfl)) | refine Same.eq ?_)) (by first | (simp only [upd_at, *, ↓reduceIte]; done) | (simp only [upd_at, *, ↓reduceIte]; rfl)) rfl)))
  · (refine endF_at ⟨?_, ?_⟩; (focus (first | (simp only [TxS.hear, cond_true, cond_false, Bool.and_true, Bool.true_and, Bool.and_false, Bool.false_and, *]; done) | (simp only [TxS.hear, cond_true, cond_false, Bool.and_true, Bool.true_and, Bool.and_false, Bool.false_and, *]; rfl))); (focus (simp only [TxS.hear, cond_true, cond_false, Bool.and_true, Bool.true_and, Bool.and_false, Bool.false_and, *]; exact leafKeep H.out (by repeat (first | exact Same.refl _ _ | (refine Same.updNew ?_ ?_; focus (simp only [evN, *]; done)) | (refine Same.both ?_ ?_; focus (first | exact rfl | exact .inl rfl | exact .inr rfl)) | (refine Same.updIn ?_ ?_; focus (first | exact rfl | exact .inl rfl | exact .inr rfl)) | refine Same.eq ?_)) (by first | (simp only [upd_at, *, ↓reduceIte]; done) | (simp only [upd_at, *, ↓reduceIte]; rfl)) rfl)))
  · refine callF_of (ACalls.beside (by simp only [evN, *]; done) (ACalls.beside (by simp only [evN, *]; done) (take84 H.out m.has m.data m.lo m.hi hn))) ?_
    rintro u σ'' ⟨σ1, ⟨σ2, ⟨rfl, v', hT', hS⟩, hn2, rfl⟩, hn1, rfl⟩
    simp only [none_upd] at hn1
    cases hf : T.fits m.lo m.hi with
    | true =>
      simp +contextual -dsimp only [*, Msg.cells, TxS.cells, TxS.req, TxS.rests, TxS.asks, TxS.more, ↓reduceIte, ↓evP, evQ, splice, Nat.reduceAdd, Nat.reduceEqDiff, Nat.reduceLeDiff, Nat.reduceMul, reduceCtorEq, Int.reduceLT, Int.reduceLE, Int.reduceGT, Int.reduceGE, Int.reduceEq, Int.reduceNeg]
      refine endF_sub (τ := σ2) (by (repeat (first | exact Sub.refl _ | (refine Sub.drop ?_ ?_; focus (simp only [evN, *]; done)) | refine Sub.both ?_)); done) ⟨?_, ?_⟩
      · first | (simp only [TxS.hear, cond_true, cond_false, Bool.and_true, Bool.true_and, Bool.and_false, Bool.false_and, *]; done) | (simp only [TxS.hear, cond_true, cond_false, Bool.and_true, Bool.true_and, Bool.and_false, Bool.false_and, *]; rfl)
      · simp only [TxS.hear, cond_true, cond_false, Bool.and_true, Bool.true_and, Bool.and_false, Bool.false_and, *]; exact ⟨v', hT', hS⟩
    | false =>
      rw [takes_no hf] at hT'
      have hg := hT'.1
      unfold TxS.cells at hg
      obtain ⟨τ2, rfl⟩ := open_upd hg
      clear hg
      simp only [none_upd] at hn1 hn2
      have H2 : Hid (TxAt 141 _ g T v') := ⟨hT'⟩
      have HS : Hid (Step _ g v _ v') := ⟨hS⟩
      clear hT' hS
      (repeat' (first | (simp +contextual -dsimp only [*, Msg.cells, TxS.cells, TxS.req, TxS.rests, TxS.asks, TxS.more, ↓reduceIte, ↓evP, evQ, splice, Nat.reduceAdd, Nat.reduceEqDiff, Nat.reduceLeDiff, Nat.reduceMul, reduceCtorEq, Int.reduceLT, Int.reduceLE, Int.reduceGT, Int.reduceGE, Int.reduceEq, Int.reduceNeg]) | (refine condF_split (fun hc => ?_) (fun hc => ?_) <;> (try simp only [Bool.not_eq_true', Bool.not_eq_false', Bool.and_eq_true, Bool.or_eq_false_iff] at hc)) | refine callF_v (ask83 (T := T) (v := v') (by first | rfl | (simp only [upd_same, upd_at, set_at, *, ↓reduceIte]; done) | (simp only [upd_same, upd_at, set_at, *, ↓reduceIte]; rfl)) _ _ (by assumption)) ?_ | refine ccallF_of (ask83 (T := T) (v := v') (by first | rfl | (simp only [upd_same, upd_at, set_at, *, ↓reduceIte]; done) | (simp only [upd_same, upd_at, set_at, *, ↓reduceIte]; rfl)) _ _ (by assumption)) ?_ | refine gcallF_of (ask83 (T := T) (v := v') (by first | rfl | (simp only [upd_same, upd_at, set_at, *, ↓reduceIte]; done) | (simp only [upd_same, upd_at, set_at, *, ↓reduceIte]; rfl)) _ _ (by assumption)) ?_ | (intro _; intros) | (refine And.intro ?_ ?_; focus (first | omega | ((repeat (first | exact Sub.refl _ | (refine Sub.drop ?_ ?_; focus (simp only [evN, *]; done)) | refine Sub.both ?_)); done) | (simp_all; done) | (simp_all; omega)))))
      refine endF_at ⟨?_, ?_⟩
      · (first | (simp only [TxS.hear, cond_true, cond_false, Bool.and_true, Bool.true_and, Bool.and_false, Bool.false_and, *]; done) | (simp only [TxS.hear, cond_true, cond_false, Bool.and_true, Bool.true_and, Bool.and_false, Bool.false_and, *]; rfl))
      · simp only [TxS.hear, cond_true, cond_false, Bool.and_true, Bool.true_and, Bool.and_false, Bool.false_and, *]
        exact stepOn HS.out (leafKeep H2.out (by repeat (first | exact Same.refl _ _ | (refine Same.updNew ?_ ?_; focus (simp only [evN, *]; done)) | (refine Same.both ?_ ?_; focus (first | exact rfl | exact .inl rfl | exact .inr rfl)) | (refine Same.updIn ?_ ?_; focus (first | exact rfl | exact .inl rfl | exact .inr rfl)) | refine Same.eq ?_)) (by first | (simp only [upd_at, *, ↓reduceIte]; done) | (simp only [upd_at, *, ↓reduceIte]; rfl)) rfl) (by rw [upd_same]; simp)
  · (repeat' (first | (simp +contextual -dsimp only [*, Msg.cells, TxS.cells, TxS.req, TxS.rests, TxS.asks, TxS.more, ↓reduceIte, ↓evP, evQ, splice, Nat.reduceAdd, Nat.reduceEqDiff, Nat.reduceLeDiff, Nat.reduceMul, reduceCtorEq, Int.reduceLT, Int.reduceLE, Int.reduceGT, Int.reduceGE, Int.reduceEq, Int.reduceNeg]) | (refine condF_split (fun hc => ?_) (fun hc => ?_) <;> (try simp only [Bool.not_eq_true', Bool.not_eq_false', Bool.and_eq_true, Bool.or_eq_false_iff] at hc)) | refine callF_v (ask83 (T := T) (v := v) (by first | rfl | (simp only [upd_same, upd_at, set_at, *, ↓reduceIte]; done) | (simp only [upd_same, upd_at, set_at, *, ↓reduceIte]; rfl)) _ _ (by assumption)) ?_ | refine ccallF_of (ask83 (T := T) (v := v) (by first | rfl | (simp only [upd_same, upd_at, set_at, *, ↓reduceIte]; done) | (simp only [upd_same, upd_at, set_at, *, ↓reduceIte]; rfl)) _ _ (by assumption)) ?_ | refine gcallF_of (ask83 (T := T) (v := v) (by first | rfl | (simp only [upd_same, upd_at, set_at, *, ↓reduceIte]; done) | (simp only [upd_same, upd_at, set_at, *, ↓reduceIte]; rfl)) _ _ (by assumption)) ?_ | (intro _; intros) | (refine And.intro ?_ ?_; focus (first | omega | ((repeat (first | exact Sub.refl _ | (refine Sub.drop ?_ ?_; focus (simp only [evN, *]; done)) | refine Sub.both ?_)); done) | (simp_all; done) | (simp_all; omega)))))
    (refine endF_at ⟨?_, ?_⟩; (focus (first | (simp only [TxS.hear, cond_true, cond_false, Bool.and_true, Bool.true_and, Bool.and_false, Bool.false_and, *]; done) | (simp only [TxS.hear, cond_true, cond_false, Bool.and_true, Bool.true_and, Bool.and_false, Bool.false_and, *]; rfl))); (focus (simp only [TxS.hear, cond_true, cond_false, Bool.and_true, Bool.true_and, Bool.and_false, Bool.false_and, *]; exact leafKeep H.out (by repeat (first | exact Same.refl _ _ | (refine Same.updNew ?_ ?_; focus (simp only [evN, *]; done)) | (refine Same.both ?_ ?_; focus (first | exact rfl | exact .inl rfl | exact .inr rfl)) | (refine Same.updIn ?_ ?_; focus (first | exact rfl | exact .inl rfl | exact .inr rfl)) | refine Same.eq ?_)) (by first | (simp only [upd_at, *, ↓reduceIte]; done) | (simp only [upd_at, *, ↓reduceIte]; rfl)) rfl)))
  all_goals (first | (refine endF_at ⟨?_, ?_⟩; (focus (first | (simp only [TxS.hear, cond_true, cond_false, Bool.and_true, Bool.true_and, Bool.and_false, Bool.false_and, *]; done) | (simp only [TxS.hear, cond_true, cond_false, Bool.and_true, Bool.true_and, Bool.and_false, Bool.false_and, *]; rfl))); (focus (simp only [TxS.hear, cond_true, cond_false, Bool.and_true, Bool.true_and, Bool.and_false, Bool.false_and, *]; exact leafKeep H.out (by repeat (first | exact Same.refl _ _ | (refine Same.updNew ?_ ?_; focus (simp only [evN, *]; done)) | (refine Same.both ?_ ?_; focus (first | exact rfl | exact .inl rfl | exact .inr rfl)) | (refine Same.updIn ?_ ?_; focus (first | exact rfl | exact .inl rfl | exact .inr rfl)) | refine Same.eq ?_)) (by first | (simp only [upd_at, *, ↓reduceIte]; done) | (simp only [upd_at, *, ↓reduceIte]; rfl)) rfl))) | ((repeat' (first | (simp +contextual -dsimp only [*, Msg.cells, TxS.cells, TxS.req, TxS.rests, TxS.asks, TxS.more, ↓reduceIte, ↓evP, evQ, splice, Nat.reduceAdd, Nat.reduceEqDiff, Nat.reduceLeDiff, Nat.reduceMul, reduceCtorEq, Int.reduceLT, Int.reduceLE, Int.reduceGT, Int.reduceGE, Int.reduceEq, Int.reduceNeg]) | (refine condF_split (fun hc => ?_) (fun hc => ?_) <;> (try simp only [Bool.not_eq_true', Bool.not_eq_false', Bool.and_eq_true, Bool.or_eq_false_iff] at hc)) | refine callF_v (rest64 (T := T) (v := v) (by first | rfl | (simp only [upd_same, upd_at, set_at, *, ↓reduceIte]; done) | (simp only [upd_same, upd_at, set_at, *, ↓reduceIte]; rfl)) _ _) ?_ | refine ccallF_of (rest64 (T := T) (v := v) (by first | rfl | (simp only [upd_same, upd_at, set_at, *, ↓reduceIte]; done) | (simp only [upd_same, upd_at, set_at, *, ↓reduceIte]; rfl)) _ _) ?_ | refine gcallF_of (rest64 (T := T) (v := v) (by first | rfl | (simp only [upd_same, upd_at, set_at, *, ↓reduceIte]; done) | (simp only [upd_same, upd_at, set_at, *, ↓reduceIte]; rfl)) _ _) ?_ | (intro _; intros) | (refine And.intro ?_ ?_; focus (first | omega | ((repeat (first | exact Sub.refl _ | (refine Sub.drop ?_ ?_; focus (simp only [evN, *]; done)) | refine Sub.both ?_)); done) | (simp_all; done) | (simp_all; omega))))); (refine endF_at ⟨?_, ?_⟩; (focus (first | (simp only [TxS.hear, cond_true, cond_false, Bool.and_true, Bool.true_and, Bool.and_false, Bool.false_and, *]; done) | (simp only [TxS.hear, cond_true, cond_false, Bool.and_true, Bool.true_and, Bool.and_false, Bool.false_and, *]; rfl))); (focus (simp only [TxS.hear, cond_true, cond_false, Bool.and_true, Bool.true_and, Bool.and_false, Bool.false_and, *]; exact leafKeep H.out (by repeat (first | exact Same.refl _ _ | (refine Same.updNew ?_ ?_; focus (simp only [evN, *]; done)) | (refine Same.both ?_ ?_; focus (first | exact rfl | exact .inl rfl | exact .inr rfl)) | (refine Same.updIn ?_ ?_; focus (first | exact rfl | exact .inl rfl | exact .inr rfl)) | refine Same.eq ?_)) (by first | (simp only [upd_at, *, ↓reduceIte]; done) | (simp only [upd_at, *, ↓reduceIte]; rfl)) rfl)))) | (refine callF_of (ACalls.beside (by simp only [evN, *]; done) (ACalls.beside (by simp only [evN, *]; done) (take84 H.out m.has m.data m.lo m.hi hn))) ?_; (rintro u σ'' ⟨σ1, ⟨σ2, ⟨rfl, v', hT', hS⟩, hn2, rfl⟩, hn1, rfl⟩); (simp only [none_upd] at hn1); simp +contextual -dsimp only [*, Msg.cells, TxS.cells, TxS.req, TxS.rests, TxS.asks, TxS.more, ↓reduceIte, ↓evP, evQ, splice, Nat.reduceAdd, Nat.reduceEqDiff, Nat.reduceLeDiff, Nat.reduceMul, reduceCtorEq, Int.reduceLT, Int.reduceLE, Int.reduceGT, Int.reduceGE, Int.reduceEq, Int.reduceNeg]; refine endF_sub (τ := σ2) (by (repeat (first | exact Sub.refl _ | (refine Sub.drop ?_ ?_; focus (simp only [evN, *]; done)) | refine Sub.both ?_)); done) ⟨?_, ?_⟩; (focus (first | (simp only [TxS.hear, cond_true, cond_false, Bool.and_true, Bool.true_and, Bool.and_false, Bool.false_and, *]; done) | (simp only [TxS.hear, cond_true, cond_false, Bool.and_true, Bool.true_and, Bool.and_false, Bool.false_and, *]; rfl))); (focus (simp only [TxS.hear, cond_true, cond_false, Bool.and_true, Bool.true_and, Bool.and_false, Bool.false_and, *]; exact ⟨v', hT', hS⟩))))
/-- What is seen: eight cells. -/
def TxS.view (T : TxS) (v : Value) : List Value := [.int .i64 T.st, .int .i64 T.er, .int .i64 T.lo, .int .i64 T.hi, .string T.key, .int .i64 T.seq, .int .i64 T.tr, v]
theorem clone59 {σ : Hp} {v : Value} {l : List Got} (hr : RowsAt 81 3 Got.cells σ v l) (hn : l.length * 40 ≤ 140737488355328) :
    ACalls Try.prog 59 #[v] σ fun u σ' => RowsAt 81 3 Got.cells σ' u l ∧ Made σ σ' u := by
  rcases hr with ⟨rfl, hnil⟩ | ⟨b, c, rfl, hcap, hb⟩
  · (refine acalls_F ok59 (by simp) ?_; unfold c59 r59; simp +contextual -dsimp only [TxS.cells, TxS.view, ↓reduceIte, ↓evP, evQ, splice, Nat.reduceAdd, Nat.reduceEqDiff, Nat.reduceLeDiff, Nat.reduceMul, reduceCtorEq, Int.reduceLT, Int.reduceLE, Int.reduceGT, Int.reduceGE, Int.reduceEq, Int.reduceNeg])
    exact endF_at ⟨.inl ⟨rfl, hnil⟩, Same.refl _ _, fun k hk => by cases hk⟩
  · have hsg : seg (l.flatMap Got.cells) 0 (l.length * 3) = some (l.flatMap Got.cells) := by rw [← flat_len Got.cells_len]; exact seg_all _
    have hone : (l.flatMap Got.cells).all Go.Sp.one = true := got_one _
    obtain ⟨τ, rfl⟩ := open_upd hb
    clear hb
    (refine acalls_F ok59 (by simp) ?_; unfold c59 r59)
    (repeat' (first | (simp +contextual -dsimp only [*, TxS.cells, TxS.view, ↓reduceIte, ↓evP, evQ, splice, Nat.reduceAdd, Nat.reduceEqDiff, Nat.reduceLeDiff, Nat.reduceMul, reduceCtorEq, Int.reduceLT, Int.reduceLE, Int.reduceGT, Int.reduceGE, Int.reduceEq, Int.reduceNeg]) | (refine condF_split (fun hc => ?_) (fun hc => ?_) <;> (try simp only [Bool.not_eq_true', Bool.not_eq_false', Bool.and_eq_true, Bool.or_eq_false_iff] at hc)) | (intro _; intros) | (refine And.intro ?_ ?_; focus (first | omega | ((repeat (first | exact Sub.refl _ | (refine Sub.drop ?_ ?_; focus (simp only [evN, *]; done)) | refine Sub.both ?_)); done) | (simp_all; done) | (simp_all; omega)))))
    refine app_b (by first | (simp only [Nat.reduceMul, Nat.one_mul, Nat.zero_mul, rdn_row, rdn_same, rdn_ne, seg_zero, seg_cons, seg_skip, Option.map_some, not_false_eq_true, *]; done) | (simp only [Nat.reduceMul, Nat.one_mul, Nat.zero_mul, rdn_row, rdn_same, rdn_ne, seg_zero, seg_cons, seg_skip, Option.map_some, not_false_eq_true, *]; exact rfl)) hone (by first | (simp only [upd_at, *, ↓reduceIte]; done) | (simp only [upd_at, *, ↓reduceIte]; rfl)) rfl (by omega) (by omega) (by unfold maxLen; omega) ?_ ?_
    all_goals (repeat' (first | (simp +contextual -dsimp only [*, TxS.cells, TxS.view, ↓reduceIte, ↓evP, evQ, splice, Nat.reduceAdd, Nat.reduceEqDiff, Nat.reduceLeDiff, Nat.reduceMul, reduceCtorEq, Int.reduceLT, Int.reduceLE, Int.reduceGT, Int.reduceGE, Int.reduceEq, Int.reduceNeg]) | (refine condF_split (fun hc => ?_) (fun hc => ?_) <;> (try simp only [Bool.not_eq_true', Bool.not_eq_false', Bool.and_eq_true, Bool.or_eq_false_iff] at hc)) | (intro _; intros) | (refine And.intro ?_ ?_; focus (first | omega | ((repeat (first | exact Sub.refl _ | (refine Sub.drop ?_ ?_; focus (simp only [evN, *]; done)) | refine Sub.both ?_)); done) | (simp_all; done) | (simp_all; omega)))))
    all_goals (refine endF_at ⟨?_, ?_, ?_⟩; (focus exact rows_mk (by simp) (by omega) (by first | (simp only [upd_at, *, ↓reduceIte, List.nil_append]; done) | (simp only [upd_at, *, ↓reduceIte, List.nil_append]; rfl))); (focus exact (by repeat (first | exact Same.refl _ _ | (refine Same.updNew ?_ ?_; focus (simp only [evN, *]; done)) | (refine Same.both ?_ ?_; focus (first | exact rfl | exact .inl rfl | exact .inr rfl)) | (refine Same.updIn ?_ ?_; focus (first | exact rfl | exact .inl rfl | exact .inr rfl)) | refine Same.eq ?_))); (focus (intro k hk; cases hk; exact (by simp only [evN, *]; done))))
theorem view28 {σ : Hp} {g : Nat} {T : TxS} {v : Value} (hT : TxAt 141 σ g T v) (hn : T.reads.length * 40 ≤ 140737488355328) :
    ACalls Try.prog 28 #[.pointer (some ⟨g, 0, none⟩)] σ fun u σ' => ∃ v', u = .agg (T.view v').toArray ∧ RowsAt 81 3 Got.cells σ' v' T.reads ∧ Made σ σ' v' := by
  obtain ⟨hg, hr⟩ := hT
  obtain ⟨a, c, rfl⟩ := hr.slice
  unfold TxS.cells at hg
  obtain ⟨τ, rfl⟩ := open_upd hg
  clear hg
  have H : Hid (RowsAt 81 3 Got.cells _ _ _) := ⟨hr⟩
  clear hr
  (refine acalls_F ok28 (by simp) ?_; unfold c28 r28)
  (repeat' (first | (simp +contextual -dsimp only [*, TxS.cells, TxS.view, ↓reduceIte, ↓evP, evQ, splice, Nat.reduceAdd, Nat.reduceEqDiff, Nat.reduceLeDiff, Nat.reduceMul, reduceCtorEq, Int.reduceLT, Int.reduceLE, Int.reduceGT, Int.reduceGE, Int.reduceEq, Int.reduceNeg]) | (refine condF_split (fun hc => ?_) (fun hc => ?_) <;> (try simp only [Bool.not_eq_true', Bool.not_eq_false', Bool.and_eq_true, Bool.or_eq_false_iff] at hc)) | (intro _; intros) | (refine And.intro ?_ ?_; focus (first | omega | ((repeat (first | exact Sub.refl _ | (refine Sub.drop ?_ ?_; focus (simp only [evN, *]; done)) | refine Sub.both ?_)); done) | (simp_all; done) | (simp_all; omega)))))
  refine callF_of (ACalls.beside ?_ (ACalls.beside ?_ (clone59 H.out hn))) ?_
  · (simp only [evN, *]; done)
  · (simp only [evN, *]; done)
  rintro u σ'' ⟨σ1, ⟨σ2, ⟨hR, hM⟩, hn2, rfl⟩, hn1, rfl⟩
  simp only [none_upd] at hn1
  obtain ⟨a', c', rfl⟩ := hR.slice
  have H2 : Hid (RowsAt 81 3 Got.cells _ _ _ ∧ Made _ _ _) := ⟨hR, hM⟩
  clear hR hM
  simp +contextual -dsimp only [*, TxS.cells, TxS.view, ↓reduceIte, ↓evP, evQ, splice, Nat.reduceAdd, Nat.reduceEqDiff, Nat.reduceLeDiff, Nat.reduceMul, reduceCtorEq, Int.reduceLT, Int.reduceLE, Int.reduceGT, Int.reduceGE, Int.reduceEq, Int.reduceNeg]
  (with_reducible refine endF_sub (τ := σ2) ?_ ⟨.slice a' T.reads.length c', ?_⟩)
  · (repeat (first | exact Sub.refl _ | (refine Sub.drop ?_ ?_; focus (simp only [evN, *]; done)) | refine Sub.both ?_)); done
  · exact ⟨rfl, H2.out.1, H2.out.2⟩
def hd (n most least : Int) : Int := mnI (mxI n least) most
theorem held78 (n most least : Int) (σ : Hp) : ACalls Try.prog 78 #[.int .i64 n, .int .i64 most, .int .i64 least] σ fun u σ' => u = .int .i64 (hd n most least) ∧ σ' = σ := by
  (refine acalls_F ok78 (by simp) ?_; unfold c78 r78)
  (repeat' (first | (simp +contextual -dsimp only [*, ↓reduceIte, ↓evP, evQ, splice, Nat.reduceAdd, Nat.reduceEqDiff, Nat.reduceLeDiff, Nat.reduceMul, reduceCtorEq, Int.reduceLT, Int.reduceLE, Int.reduceGT, Int.reduceGE, Int.reduceEq, Int.reduceNeg]) | (refine condF_split (fun hc => ?_) (fun hc => ?_) <;> (try simp only [Bool.not_eq_true', Bool.not_eq_false', Bool.and_eq_true, Bool.or_eq_false_iff] at hc)) | refine vcallF_mk (by kernel_rfl) ?_ | refine vccallF_mk (by kernel_rfl) ?_ | (intro _; intros) | (refine And.intro ?_ ?_; focus (first | omega | ((repeat (first | exact Sub.refl _ | (refine Sub.drop ?_ ?_; focus (simp only [evN, *]; done)) | refine Sub.both ?_)); done) | (simp_all; done) | (simp_all; omega)))))
  all_goals exact endF_sub (by (repeat (first | exact Sub.refl _ | (refine Sub.drop ?_ ?_; focus (simp only [evN, *]; done)) | refine Sub.both ?_)); done) ⟨by ((try simp only [decide_eq_true_eq, decide_eq_false_iff_not] at *) <;> first | rfl | (simp [hd]; done) | (simp_all [hd]; done) | (simp [hd]; omega) | (simp [hd]; (rw [Bool.eq_iff_iff]); simp; omega) | (simp_all [hd] <;> omega) | ((try unfold hd); (rw [Value.bool.injEq, Bool.eq_iff_iff]); simp <;> omega) | ((try unfold hd); (repeat' split) <;> simp_all <;> omega) | (simp_all [hd] <;> (repeat' split) <;> simp_all <;> omega)), rfl⟩
structure Cfg where
  nodes : Int := 0
  bytes : Int := 0
  spans : Int := 0
  gap : Int := 0
  recent : Int := 0
  versions : Int := 0
  protect : Int := 0
  retries : Int := 0
def Cfg.cells (c : Cfg) : List Value := [.int .i64 c.nodes, .int .i64 c.bytes, .int .i64 c.spans, .int .i64 c.gap, .int .i64 c.recent, .int .i64 c.versions, .int .i64 c.protect, .int .i64 c.retries]
def Cfg.held (c : Cfg) : Cfg := ⟨hd c.nodes 8 1, hd c.bytes 1048576 0, hd c.spans 64 1, hd c.gap 256 0, hd c.recent 1024 0, hd c.versions 64 1, hd c.protect 256 0, hd c.retries 16 0⟩
set_option maxRecDepth 100000 in
theorem held56 (c : Cfg) (σ : Hp) : ACalls Try.prog 56 #[.agg c.cells.toArray] σ fun u σ' => u = .agg c.held.cells.toArray ∧ σ' = σ := by
  unfold Cfg.cells
  (refine acalls_F ok56 (by simp) ?_; unfold c56 r56)
  (repeat' (first | (simp +contextual -dsimp only [*, ↓reduceIte, ↓evP, evQ, splice, Nat.reduceAdd, Nat.reduceEqDiff, Nat.reduceLeDiff, Nat.reduceMul, reduceCtorEq, Int.reduceLT, Int.reduceLE, Int.reduceGT, Int.reduceGE, Int.reduceEq, Int.reduceNeg]) | (refine condF_split (fun hc => ?_) (fun hc => ?_) <;> (try simp only [Bool.not_eq_true', Bool.not_eq_false', Bool.and_eq_true, Bool.or_eq_false_iff] at hc)) | refine callF_v (held78 _ _ _ _) ?_ | refine ccallF_of (held78 _ _ _ _) ?_ | refine gcallF_of (held78 _ _ _ _) ?_ | refine vcallF_mk (by kernel_rfl) ?_ | refine vccallF_mk (by kernel_rfl) ?_ | (intro _; intros) | (refine And.intro ?_ ?_; focus (first | omega | ((repeat (first | exact Sub.refl _ | (refine Sub.drop ?_ ?_; focus (simp only [evN, *]; done)) | refine Sub.both ?_)); done) | (simp_all; done) | (simp_all; omega)))))
  all_goals (refine endF_det ?_ ?_; (focus ((try simp only [Cfg.held, Cfg.cells, cond_true, cond_false, *]) <;> ((try simp only [decide_eq_true_eq, decide_eq_false_iff_not] at *) <;> first | rfl | (simp [Cfg.held, Cfg.cells]; done) | (simp_all [Cfg.held, Cfg.cells]; done) | (simp [Cfg.held, Cfg.cells]; omega) | (simp [Cfg.held, Cfg.cells]; (rw [Bool.eq_iff_iff]); simp; omega) | (simp_all [Cfg.held, Cfg.cells] <;> omega) | ((try unfold Cfg.held  Cfg.cells); (rw [Value.bool.injEq, Bool.eq_iff_iff]); simp <;> omega) | ((try unfold Cfg.held  Cfg.cells); (repeat' split) <;> simp_all <;> omega) | (simp_all [Cfg.held, Cfg.cells] <;> (repeat' split) <;> simp_all <;> omega)))); (focus ((try simp only [Cfg.held, Cfg.cells, cond_true, cond_false, set_same, *]); exact (by (repeat (first | exact Sub.refl _ | (refine Sub.drop ?_ ?_; focus (simp only [evN, *]; done)) | refine Sub.both ?_)); done))))
theorem between116 (n lo hi : Int) (σ : Hp) : ACalls Try.prog 116 #[.int .i64 n, .int .i64 lo, .int .i64 hi] σ fun u σ' => u = .bool (decide (lo ≤ n) && decide (n ≤ hi)) ∧ σ' = σ := by
  (refine acalls_F ok116 (by simp) ?_; unfold c116 r116)
  (repeat' (first | (simp +contextual -dsimp only [*, Wr.cells, ↓reduceIte, ↓evP, evQ, splice, Nat.reduceAdd, Nat.reduceEqDiff, Nat.reduceLeDiff, Nat.reduceMul, reduceCtorEq, Int.reduceLT, Int.reduceLE, Int.reduceGT, Int.reduceGE, Int.reduceEq, Int.reduceNeg]) | (refine condF_split (fun hc => ?_) (fun hc => ?_) <;> (try simp only [Bool.not_eq_true', Bool.not_eq_false', Bool.and_eq_true, Bool.or_eq_false_iff] at hc)) | (intro _; intros) | (refine And.intro ?_ ?_; focus (first | omega | ((repeat (first | exact Sub.refl _ | (refine Sub.drop ?_ ?_; focus (simp only [evN, *]; done)) | refine Sub.both ?_)); done) | (simp_all; done) | (simp_all; omega)))))
  all_goals (refine endF_det ?_ ?_; (focus ((try simp only [cond_true, cond_false, *]) <;> ((try simp only [decide_eq_true_eq, decide_eq_false_iff_not] at *) <;> first | rfl | (simp []; done) | (simp_all []; done) | (simp []; omega) | (simp []; (rw [Bool.eq_iff_iff]); simp; omega) | (simp_all [] <;> omega) | ((try unfold id); (rw [Value.bool.injEq, Bool.eq_iff_iff]); simp <;> omega) | ((try unfold id); (repeat' split) <;> simp_all <;> omega) | (simp_all [] <;> (repeat' split) <;> simp_all <;> omega)))); (focus ((try simp only [cond_true, cond_false, set_same, *]); exact (by (repeat (first | exact Sub.refl _ | (refine Sub.drop ?_ ?_; focus (simp only [evN, *]; done)) | refine Sub.both ?_)); done))))
theorem known99 (n : Int) (σ : Hp) : ACalls Try.prog 99 #[.int .i64 n] σ fun u σ' => u = .bool (decide (n ≥ 1) && decide (n ≤ 11)) ∧ σ' = σ := by
  (refine acalls_F ok99 (by simp) ?_; unfold c99 r99)
  (repeat' (first | (simp +contextual -dsimp only [*, Wr.cells, ↓reduceIte, ↓evP, evQ, splice, Nat.reduceAdd, Nat.reduceEqDiff, Nat.reduceLeDiff, Nat.reduceMul, reduceCtorEq, Int.reduceLT, Int.reduceLE, Int.reduceGT, Int.reduceGE, Int.reduceEq, Int.reduceNeg]) | (refine condF_split (fun hc => ?_) (fun hc => ?_) <;> (try simp only [Bool.not_eq_true', Bool.not_eq_false', Bool.and_eq_true, Bool.or_eq_false_iff] at hc)) | (intro _; intros) | (refine And.intro ?_ ?_; focus (first | omega | ((repeat (first | exact Sub.refl _ | (refine Sub.drop ?_ ?_; focus (simp only [evN, *]; done)) | refine Sub.both ?_)); done) | (simp_all; done) | (simp_all; omega)))))
  all_goals (refine endF_det ?_ ?_; (focus ((try simp only [cond_true, cond_false, *]) <;> ((try simp only [decide_eq_true_eq, decide_eq_false_iff_not] at *) <;> first | rfl | (simp []; done) | (simp_all []; done) | (simp []; omega) | (simp []; (rw [Bool.eq_iff_iff]); simp; omega) | (simp_all [] <;> omega) | ((try unfold id); (rw [Value.bool.injEq, Bool.eq_iff_iff]); simp <;> omega) | ((try unfold id); (repeat' split) <;> simp_all <;> omega) | (simp_all [] <;> (repeat' split) <;> simp_all <;> omega)))); (focus ((try simp only [cond_true, cond_false, set_same, *]); exact (by (repeat (first | exact Sub.refl _ | (refine Sub.drop ?_ ?_; focus (simp only [evN, *]; done)) | refine Sub.both ?_)); done))))
def badK (k : ByteArray) : Bool := decide (k = ⟨#[]⟩) || decide ((k.size : Int) > 32)
def badD (has : Bool) (d : ByteArray) : Bool := decide ((d.size : Int) > 256) || (!has && decide (¬ d = ⟨#[]⟩))
def goodP (lo hi : Int) : Bool := decide (lo ≥ 0) && decide (lo ≤ 1099511627776) && decide (hi > lo) && (decide (hi = 4611686018427387904) || decide (hi ≤ 1099511627777))
def goodF (k : ByteArray) (has : Bool) (d : ByteArray) (lo hi : Int) : Bool := !badK k && !badD has d && goodP lo hi
set_option maxHeartbeats 2000000 in
theorem good65 (k : ByteArray) (has : Bool) (d : ByteArray) (lo hi : Int) (σ : Hp) : ACalls Try.prog 65 #[.agg #[.string k, .bool has, .string d, .int .i64 lo, .int .i64 hi]] σ fun u σ' => u = .bool (goodF k has d lo hi) ∧ σ' = σ := by
  cases has
  all_goals (refine acalls_F ok65 (by simp) ?_; unfold c65 r65; simp +contextual -dsimp only [Wr.cells, ↓reduceIte, ↓evP, evQ, splice, Nat.reduceAdd, Nat.reduceEqDiff, Nat.reduceLeDiff, Nat.reduceMul, reduceCtorEq, Int.reduceLT, Int.reduceLE, Int.reduceGT, Int.reduceGE, Int.reduceEq, Int.reduceNeg])
  all_goals (repeat' (first | (simp +contextual -dsimp only [*, Wr.cells, ↓reduceIte, ↓evP, evQ, splice, Nat.reduceAdd, Nat.reduceEqDiff, Nat.reduceLeDiff, Nat.reduceMul, reduceCtorEq, Int.reduceLT, Int.reduceLE, Int.reduceGT, Int.reduceGE, Int.reduceEq, Int.reduceNeg]) | (refine condF_split (fun hc => ?_) (fun hc => ?_) <;> (try simp only [Bool.not_eq_true', Bool.not_eq_false', Bool.and_eq_true, Bool.or_eq_false_iff] at hc)) | (intro _; intros) | (refine And.intro ?_ ?_; focus (first | omega | ((repeat (first | exact Sub.refl _ | (refine Sub.drop ?_ ?_; focus (simp only [evN, *]; done)) | refine Sub.both ?_)); done) | (simp_all; done) | (simp_all; omega)))))
  all_goals (refine endF_det ?_ ?_; (focus ((try simp only [goodF, badK, badD, goodP, cond_true, cond_false, *]) <;> ((try simp only [decide_eq_true_eq, decide_eq_false_iff_not] at *) <;> first | rfl | (simp [goodF, badK, badD, goodP]; done) | (simp_all [goodF, badK, badD, goodP]; done) | (simp [goodF, badK, badD, goodP]; omega) | (simp [goodF, badK, badD, goodP]; (rw [Bool.eq_iff_iff]); simp; omega) | (simp_all [goodF, badK, badD, goodP] <;> omega) | ((try unfold goodF  badK  badD  goodP); (rw [Value.bool.injEq, Bool.eq_iff_iff]); simp <;> omega) | ((try unfold goodF  badK  badD  goodP); (repeat' split) <;> simp_all <;> omega) | (simp_all [goodF, badK, badD, goodP] <;> (repeat' split) <;> simp_all <;> omega)))); (focus ((try simp only [goodF, badK, badD, goodP, cond_true, cond_false, set_same, *]); exact (by (repeat (first | exact Sub.refl _ | (refine Sub.drop ?_ ?_; focus (simp only [evN, *]; done)) | refine Sub.both ?_)); done))))
theorem key118 (k : ByteArray) (σ : Hp) : ACalls Try.prog 118 #[.string k] σ fun u σ' => u = .bool (goodF k false ⟨#[]⟩ 0 1) ∧ σ' = σ := by
  (refine acalls_F ok118 (by simp) ?_; unfold c118 r118)
  (repeat' (first | (simp +contextual -dsimp only [*, Wr.cells, Msg.cells, ↓reduceIte, ↓evP, evQ, splice, Nat.reduceAdd, Nat.reduceEqDiff, Nat.reduceLeDiff, Nat.reduceMul, reduceCtorEq, Int.reduceLT, Int.reduceLE, Int.reduceGT, Int.reduceGE, Int.reduceEq, Int.reduceNeg]) | (refine condF_split (fun hc => ?_) (fun hc => ?_) <;> (try simp only [Bool.not_eq_true', Bool.not_eq_false', Bool.and_eq_true, Bool.or_eq_false_iff] at hc)) | refine callF_v (good65 _ _ _ _ _ _) ?_ | refine ccallF_of (good65 _ _ _ _ _ _) ?_ | refine gcallF_of (good65 _ _ _ _ _ _) ?_ | (intro _; intros) | (refine And.intro ?_ ?_; focus (first | omega | ((repeat (first | exact Sub.refl _ | (refine Sub.drop ?_ ?_; focus (simp only [evN, *]; done)) | refine Sub.both ?_)); done) | (simp_all; done) | (simp_all; omega)))))
  all_goals (refine endF_det ?_ ?_; (focus ((try simp only [cond_true, cond_false, *]) <;> ((try simp only [decide_eq_true_eq, decide_eq_false_iff_not] at *) <;> first | rfl | (simp []; done) | (simp_all []; done) | (simp []; omega) | (simp []; (rw [Bool.eq_iff_iff]); simp; omega) | (simp_all [] <;> omega) | ((try unfold id); (rw [Value.bool.injEq, Bool.eq_iff_iff]); simp <;> omega) | ((try unfold id); (repeat' split) <;> simp_all <;> omega) | (simp_all [] <;> (repeat' split) <;> simp_all <;> omega)))); (focus ((try simp only [cond_true, cond_false, set_same, *]); exact (by (repeat (first | exact Sub.refl _ | (refine Sub.drop ?_ ?_; focus (simp only [evN, *]; done)) | refine Sub.both ?_)); done))))
theorem value119 (h : Bool) (d : ByteArray) (σ : Hp) : ACalls Try.prog 119 #[.agg #[.bool h, .string d]] σ fun u σ' => u = .bool (goodF ⟨#[107]⟩ h d 0 1) ∧ σ' = σ := by
  (refine acalls_F ok119 (by simp) ?_; unfold c119 r119)
  (repeat' (first | (simp +contextual -dsimp only [*, Wr.cells, Msg.cells, ↓reduceIte, ↓evP, evQ, splice, Nat.reduceAdd, Nat.reduceEqDiff, Nat.reduceLeDiff, Nat.reduceMul, reduceCtorEq, Int.reduceLT, Int.reduceLE, Int.reduceGT, Int.reduceGE, Int.reduceEq, Int.reduceNeg]) | (refine condF_split (fun hc => ?_) (fun hc => ?_) <;> (try simp only [Bool.not_eq_true', Bool.not_eq_false', Bool.and_eq_true, Bool.or_eq_false_iff] at hc)) | refine callF_v (good65 _ _ _ _ _ _) ?_ | refine ccallF_of (good65 _ _ _ _ _ _) ?_ | refine gcallF_of (good65 _ _ _ _ _ _) ?_ | (intro _; intros) | (refine And.intro ?_ ?_; focus (first | omega | ((repeat (first | exact Sub.refl _ | (refine Sub.drop ?_ ?_; focus (simp only [evN, *]; done)) | refine Sub.both ?_)); done) | (simp_all; done) | (simp_all; omega)))))
  all_goals (refine endF_det ?_ ?_; (focus ((try simp only [cond_true, cond_false, *]) <;> ((try simp only [decide_eq_true_eq, decide_eq_false_iff_not] at *) <;> first | rfl | (simp []; done) | (simp_all []; done) | (simp []; omega) | (simp []; (rw [Bool.eq_iff_iff]); simp; omega) | (simp_all [] <;> omega) | ((try unfold id); (rw [Value.bool.injEq, Bool.eq_iff_iff]); simp <;> omega) | ((try unfold id); (repeat' split) <;> simp_all <;> omega) | (simp_all [] <;> (repeat' split) <;> simp_all <;> omega)))); (focus ((try simp only [cond_true, cond_false, set_same, *]); exact (by (repeat (first | exact Sub.refl _ | (refine Sub.drop ?_ ?_; focus (simp only [evN, *]; done)) | refine Sub.both ?_)); done))))
theorem pin121 (lo hi : Int) (σ : Hp) : ACalls Try.prog 121 #[.agg #[.int .i64 lo, .int .i64 hi]] σ fun u σ' => u = .bool (goodF ⟨#[107]⟩ false ⟨#[]⟩ lo hi) ∧ σ' = σ := by
  (refine acalls_F ok121 (by simp) ?_; unfold c121 r121)
  (repeat' (first | (simp +contextual -dsimp only [*, Wr.cells, Msg.cells, ↓reduceIte, ↓evP, evQ, splice, Nat.reduceAdd, Nat.reduceEqDiff, Nat.reduceLeDiff, Nat.reduceMul, reduceCtorEq, Int.reduceLT, Int.reduceLE, Int.reduceGT, Int.reduceGE, Int.reduceEq, Int.reduceNeg]) | (refine condF_split (fun hc => ?_) (fun hc => ?_) <;> (try simp only [Bool.not_eq_true', Bool.not_eq_false', Bool.and_eq_true, Bool.or_eq_false_iff] at hc)) | refine callF_v (good65 _ _ _ _ _ _) ?_ | refine ccallF_of (good65 _ _ _ _ _ _) ?_ | refine gcallF_of (good65 _ _ _ _ _ _) ?_ | (intro _; intros) | (refine And.intro ?_ ?_; focus (first | omega | ((repeat (first | exact Sub.refl _ | (refine Sub.drop ?_ ?_; focus (simp only [evN, *]; done)) | refine Sub.both ?_)); done) | (simp_all; done) | (simp_all; omega)))))
  all_goals (refine endF_det ?_ ?_; (focus ((try simp only [cond_true, cond_false, *]) <;> ((try simp only [decide_eq_true_eq, decide_eq_false_iff_not] at *) <;> first | rfl | (simp []; done) | (simp_all []; done) | (simp []; omega) | (simp []; (rw [Bool.eq_iff_iff]); simp; omega) | (simp_all [] <;> omega) | ((try unfold id); (rw [Value.bool.injEq, Bool.eq_iff_iff]); simp <;> omega) | ((try unfold id); (repeat' split) <;> simp_all <;> omega) | (simp_all [] <;> (repeat' split) <;> simp_all <;> omega)))); (focus ((try simp only [cond_true, cond_false, set_same, *]); exact (by (repeat (first | exact Sub.refl _ | (refine Sub.drop ?_ ?_; focus (simp only [evN, *]; done)) | refine Sub.both ?_)); done))))
def badW (w : Wr) : Bool := !goodF w.key false ⟨#[]⟩ 0 1 || !goodF ⟨#[107]⟩ w.has w.data 0 1
theorem bad117 (w : Wr) (σ : Hp) : ACalls Try.prog 117 #[.agg w.cells.toArray] σ fun u σ' => u = .bool (badW w) ∧ σ' = σ := by
  obtain ⟨k, h, d⟩ := w
  cases hk : goodF k false ⟨#[]⟩ 0 1
  all_goals ((refine acalls_F ok117 (by simp) ?_; unfold c117 r117; simp +contextual -dsimp only [Wr.cells, Msg.cells, ↓reduceIte, ↓evP, evQ, splice, Nat.reduceAdd, Nat.reduceEqDiff, Nat.reduceLeDiff, Nat.reduceMul, reduceCtorEq, Int.reduceLT, Int.reduceLE, Int.reduceGT, Int.reduceGE, Int.reduceEq, Int.reduceNeg]))
  all_goals (repeat' (first | (simp +contextual -dsimp only [*, Wr.cells, Msg.cells, ↓reduceIte, ↓evP, evQ, splice, Nat.reduceAdd, Nat.reduceEqDiff, Nat.reduceLeDiff, Nat.reduceMul, reduceCtorEq, Int.reduceLT, Int.reduceLE, Int.reduceGT, Int.reduceGE, Int.reduceEq, Int.reduceNeg]) | (refine condF_split (fun hc => ?_) (fun hc => ?_) <;> (try simp only [Bool.not_eq_true', Bool.not_eq_false', Bool.and_eq_true, Bool.or_eq_false_iff] at hc)) | refine callF_v (key118 _ _) ?_ | refine callF_v (value119 _ _ _) ?_ | refine ccallF_of (key118 _ _) ?_ | refine ccallF_of (value119 _ _ _) ?_ | refine gcallF_of (key118 _ _) ?_ | refine gcallF_of (value119 _ _ _) ?_ | (intro _; intros) | (refine And.intro ?_ ?_; focus (first | omega | ((repeat (first | exact Sub.refl _ | (refine Sub.drop ?_ ?_; focus (simp only [evN, *]; done)) | refine Sub.both ?_)); done) | (simp_all; done) | (simp_all; omega)))))
  all_goals (refine endF_det ?_ ?_; (focus ((try simp only [badW, cond_true, cond_false, *]) <;> ((try simp only [decide_eq_true_eq, decide_eq_false_iff_not] at *) <;> first | rfl | (simp [badW]; done) | (simp_all [badW]; done) | (simp [badW]; omega) | (simp [badW]; (rw [Bool.eq_iff_iff]); simp; omega) | (simp_all [badW] <;> omega) | ((try unfold badW); (rw [Value.bool.injEq, Bool.eq_iff_iff]); simp <;> omega) | ((try unfold badW); (repeat' split) <;> simp_all <;> omega) | (simp_all [badW] <;> (repeat' split) <;> simp_all <;> omega)))); (focus ((try simp only [badW, cond_true, cond_false, set_same, *]); exact (by (repeat (first | exact Sub.refl _ | (refine Sub.drop ?_ ?_; focus (simp only [evN, *]; done)) | refine Sub.both ?_)); done))))
theorem blankC (seq : Int) (A : Option Addr) (n c : Nat) (σ : Hp) : ACalls Try.prog 115 #[.agg ({ kind := 1, seq := seq, writes := .slice A n c } : Msg).cells.toArray] σ fun u σ' => u = .agg ({ kind := 1 } : Msg).cells.toArray ∧ σ' = σ := by
  (refine acalls_F ok115 (by simp) ?_; unfold c115 r115)
  (repeat' (first | (simp +contextual -dsimp only [*, Wr.cells, Msg.cells, ↓reduceIte, ↓evP, evQ, splice, Nat.reduceAdd, Nat.reduceEqDiff, Nat.reduceLeDiff, Nat.reduceMul, reduceCtorEq, Int.reduceLT, Int.reduceLE, Int.reduceGT, Int.reduceGE, Int.reduceEq, Int.reduceNeg]) | (refine condF_split (fun hc => ?_) (fun hc => ?_) <;> (try simp only [Bool.not_eq_true', Bool.not_eq_false', Bool.and_eq_true, Bool.or_eq_false_iff] at hc)) | (intro _; intros) | (refine And.intro ?_ ?_; focus (first | omega | ((repeat (first | exact Sub.refl _ | (refine Sub.drop ?_ ?_; focus (simp only [evN, *]; done)) | refine Sub.both ?_)); done) | (simp_all; done) | (simp_all; omega)))))
  all_goals (refine endF_det ?_ ?_; (focus ((try simp only [cond_true, cond_false, *]) <;> ((try simp only [decide_eq_true_eq, decide_eq_false_iff_not] at *) <;> first | rfl | (simp []; done) | (simp_all []; done) | (simp []; omega) | (simp []; (rw [Bool.eq_iff_iff]); simp; omega) | (simp_all [] <;> omega) | ((try unfold id); (rw [Value.bool.injEq, Bool.eq_iff_iff]); simp <;> omega) | ((try unfold id); (repeat' split) <;> simp_all <;> omega) | (simp_all [] <;> (repeat' split) <;> simp_all <;> omega)))); (focus ((try simp only [cond_true, cond_false, set_same, *]); exact (by (repeat (first | exact Sub.refl _ | (refine Sub.drop ?_ ?_; focus (simp only [evN, *]; done)) | refine Sub.both ?_)); done))))
theorem blankR (tx seq : Int) (k : ByteArray) (lo hi : Int) (σ : Hp) : ACalls Try.prog 115 #[.agg ({ kind := 5, tx := tx, seq := seq, key := k, lo := lo, hi := hi } : Msg).cells.toArray] σ fun u σ' => u = .agg ({ kind := 5 } : Msg).cells.toArray ∧ σ' = σ := by
  (refine acalls_F ok115 (by simp) ?_; unfold c115 r115)
  (repeat' (first | (simp +contextual -dsimp only [*, Wr.cells, Msg.cells, ↓reduceIte, ↓evP, evQ, splice, Nat.reduceAdd, Nat.reduceEqDiff, Nat.reduceLeDiff, Nat.reduceMul, reduceCtorEq, Int.reduceLT, Int.reduceLE, Int.reduceGT, Int.reduceGE, Int.reduceEq, Int.reduceNeg]) | (refine condF_split (fun hc => ?_) (fun hc => ?_) <;> (try simp only [Bool.not_eq_true', Bool.not_eq_false', Bool.and_eq_true, Bool.or_eq_false_iff] at hc)) | (intro _; intros) | (refine And.intro ?_ ?_; focus (first | omega | ((repeat (first | exact Sub.refl _ | (refine Sub.drop ?_ ?_; focus (simp only [evN, *]; done)) | refine Sub.both ?_)); done) | (simp_all; done) | (simp_all; omega)))))
  all_goals (refine endF_det ?_ ?_; (focus ((try simp only [cond_true, cond_false, *]) <;> ((try simp only [decide_eq_true_eq, decide_eq_false_iff_not] at *) <;> first | rfl | (simp []; done) | (simp_all []; done) | (simp []; omega) | (simp []; (rw [Bool.eq_iff_iff]); simp; omega) | (simp_all [] <;> omega) | ((try unfold id); (rw [Value.bool.injEq, Bool.eq_iff_iff]); simp <;> omega) | ((try unfold id); (repeat' split) <;> simp_all <;> omega) | (simp_all [] <;> (repeat' split) <;> simp_all <;> omega)))); (focus ((try simp only [cond_true, cond_false, set_same, *]); exact (by (repeat (first | exact Sub.refl _ | (refine Sub.drop ?_ ?_; focus (simp only [evN, *]; done)) | refine Sub.both ?_)); done))))
set_option maxRecDepth 20000 in
theorem unusedC (seq : Int) (A : Option Addr) (n c : Nat) (σ : Hp) : ACalls Try.prog 100 #[.agg ({ kind := 1, seq := seq, writes := .slice A n c } : Msg).cells.toArray] σ fun u σ' => u = .bool true ∧ σ' = σ := by
  (refine acalls_F ok100 (by simp) ?_; unfold c100 r100)
  (repeat' (first | (simp +contextual -dsimp only [*, Wr.cells, Msg.cells, ↓reduceIte, ↓evP, evQ, splice, Nat.reduceAdd, Nat.reduceEqDiff, Nat.reduceLeDiff, Nat.reduceMul, reduceCtorEq, Int.reduceLT, Int.reduceLE, Int.reduceGT, Int.reduceGE, Int.reduceEq, Int.reduceNeg]) | (refine condF_split (fun hc => ?_) (fun hc => ?_) <;> (try simp only [Bool.not_eq_true', Bool.not_eq_false', Bool.and_eq_true, Bool.or_eq_false_iff] at hc)) | refine callF_v (blankC _ _ _ _ _) ?_ | refine ccallF_of (blankC _ _ _ _ _) ?_ | refine gcallF_of (blankC _ _ _ _ _) ?_ | (intro _; intros) | (refine And.intro ?_ ?_; focus (first | omega | ((repeat (first | exact Sub.refl _ | (refine Sub.drop ?_ ?_; focus (simp only [evN, *]; done)) | refine Sub.both ?_)); done) | (simp_all; done) | (simp_all; omega)))))
  all_goals (refine endF_det ?_ ?_; (focus ((try simp only [cond_true, cond_false, *]) <;> ((try simp only [decide_eq_true_eq, decide_eq_false_iff_not] at *) <;> first | rfl | (simp []; done) | (simp_all []; done) | (simp []; omega) | (simp []; (rw [Bool.eq_iff_iff]); simp; omega) | (simp_all [] <;> omega) | ((try unfold id); (rw [Value.bool.injEq, Bool.eq_iff_iff]); simp <;> omega) | ((try unfold id); (repeat' split) <;> simp_all <;> omega) | (simp_all [] <;> (repeat' split) <;> simp_all <;> omega)))); (focus ((try simp only [cond_true, cond_false, set_same, *]); exact (by (repeat (first | exact Sub.refl _ | (refine Sub.drop ?_ ?_; focus (simp only [evN, *]; done)) | refine Sub.both ?_)); done))))
set_option maxRecDepth 20000 in
theorem unusedR (tx seq : Int) (k : ByteArray) (lo hi : Int) (σ : Hp) : ACalls Try.prog 100 #[.agg ({ kind := 5, tx := tx, seq := seq, key := k, lo := lo, hi := hi } : Msg).cells.toArray] σ fun u σ' => u = .bool true ∧ σ' = σ := by
  (refine acalls_F ok100 (by simp) ?_; unfold c100 r100)
  (repeat' (first | (simp +contextual -dsimp only [*, Wr.cells, Msg.cells, ↓reduceIte, ↓evP, evQ, splice, Nat.reduceAdd, Nat.reduceEqDiff, Nat.reduceLeDiff, Nat.reduceMul, reduceCtorEq, Int.reduceLT, Int.reduceLE, Int.reduceGT, Int.reduceGE, Int.reduceEq, Int.reduceNeg]) | (refine condF_split (fun hc => ?_) (fun hc => ?_) <;> (try simp only [Bool.not_eq_true', Bool.not_eq_false', Bool.and_eq_true, Bool.or_eq_false_iff] at hc)) | refine callF_v (blankR _ _ _ _ _ _) ?_ | refine ccallF_of (blankR _ _ _ _ _ _) ?_ | refine gcallF_of (blankR _ _ _ _ _ _) ?_ | (intro _; intros) | (refine And.intro ?_ ?_; focus (first | omega | ((repeat (first | exact Sub.refl _ | (refine Sub.drop ?_ ?_; focus (simp only [evN, *]; done)) | refine Sub.both ?_)); done) | (simp_all; done) | (simp_all; omega)))))
  all_goals (refine endF_det ?_ ?_; (focus ((try simp only [cond_true, cond_false, *]) <;> ((try simp only [decide_eq_true_eq, decide_eq_false_iff_not] at *) <;> first | rfl | (simp []; done) | (simp_all []; done) | (simp []; omega) | (simp []; (rw [Bool.eq_iff_iff]); simp; omega) | (simp_all [] <;> omega) | ((try unfold id); (rw [Value.bool.injEq, Bool.eq_iff_iff]); simp <;> omega) | ((try unfold id); (repeat' split) <;> simp_all <;> omega) | (simp_all [] <;> (repeat' split) <;> simp_all <;> omega)))); (focus ((try simp only [cond_true, cond_false, set_same, *]); exact (by (repeat (first | exact Sub.refl _ | (refine Sub.drop ?_ ?_; focus (simp only [evN, *]; done)) | refine Sub.both ?_)); done))))
set_option maxRecDepth 20000 in
theorem numbersC (seq : Int) (h1 : 1 ≤ seq) (h2 : seq ≤ 2147483647) (A : Option Addr) (n c : Nat) (σ : Hp) : ACalls Try.prog 101 #[.agg ({ kind := 1, seq := seq, writes := .slice A n c } : Msg).cells.toArray] σ fun u σ' => u = .bool true ∧ σ' = σ := by
  have d1 : decide (1 ≤ seq) = true := decide_eq_true h1
  have d2 : decide (seq ≤ 2147483647) = true := decide_eq_true h2
  clear h1 h2
  (refine acalls_F ok101 (by simp) ?_; unfold c101 r101)
  (repeat' (first | (simp +contextual -dsimp only [*, Wr.cells, Msg.cells, ↓reduceIte, ↓evP, evQ, splice, Nat.reduceAdd, Nat.reduceEqDiff, Nat.reduceLeDiff, Nat.reduceMul, reduceCtorEq, Int.reduceLT, Int.reduceLE, Int.reduceGT, Int.reduceGE, Int.reduceEq, Int.reduceNeg]) | (refine condF_split (fun hc => ?_) (fun hc => ?_) <;> (try simp only [Bool.not_eq_true', Bool.not_eq_false', Bool.and_eq_true, Bool.or_eq_false_iff] at hc)) | refine callF_v (between116 _ _ _ _) ?_ | refine ccallF_of (between116 _ _ _ _) ?_ | refine gcallF_of (between116 _ _ _ _) ?_ | (intro _; intros) | (refine And.intro ?_ ?_; focus (first | omega | ((repeat (first | exact Sub.refl _ | (refine Sub.drop ?_ ?_; focus (simp only [evN, *]; done)) | refine Sub.both ?_)); done) | (simp_all; done) | (simp_all; omega)))))
  all_goals (refine endF_det ?_ ?_; (focus ((try simp only [cond_true, cond_false, *]) <;> ((try simp only [decide_eq_true_eq, decide_eq_false_iff_not] at *) <;> first | rfl | (simp []; done) | (simp_all []; done) | (simp []; omega) | (simp []; (rw [Bool.eq_iff_iff]); simp; omega) | (simp_all [] <;> omega) | ((try unfold id); (rw [Value.bool.injEq, Bool.eq_iff_iff]); simp <;> omega) | ((try unfold id); (repeat' split) <;> simp_all <;> omega) | (simp_all [] <;> (repeat' split) <;> simp_all <;> omega)))); (focus ((try simp only [cond_true, cond_false, set_same, *]); exact (by (repeat (first | exact Sub.refl _ | (refine Sub.drop ?_ ?_; focus (simp only [evN, *]; done)) | refine Sub.both ?_)); done))))
set_option maxRecDepth 20000 in
theorem numbersR (tx seq : Int) (h1 : 1 ≤ seq) (h2 : seq ≤ 2147483647) (h3 : 0 ≤ tx) (h4 : tx ≤ 255) (k : ByteArray) (lo hi : Int) (σ : Hp) : ACalls Try.prog 101 #[.agg ({ kind := 5, tx := tx, seq := seq, key := k, lo := lo, hi := hi } : Msg).cells.toArray] σ fun u σ' => u = .bool true ∧ σ' = σ := by
  have d1 : decide (1 ≤ seq) = true := decide_eq_true h1
  have d2 : decide (seq ≤ 2147483647) = true := decide_eq_true h2
  have d3 : decide (0 ≤ tx) = true := decide_eq_true h3
  have d4 : decide (tx ≤ 255) = true := decide_eq_true h4
  clear h1 h2 h3 h4
  (refine acalls_F ok101 (by simp) ?_; unfold c101 r101)
  (repeat' (first | (simp +contextual -dsimp only [*, Wr.cells, Msg.cells, ↓reduceIte, ↓evP, evQ, splice, Nat.reduceAdd, Nat.reduceEqDiff, Nat.reduceLeDiff, Nat.reduceMul, reduceCtorEq, Int.reduceLT, Int.reduceLE, Int.reduceGT, Int.reduceGE, Int.reduceEq, Int.reduceNeg]) | (refine condF_split (fun hc => ?_) (fun hc => ?_) <;> (try simp only [Bool.not_eq_true', Bool.not_eq_false', Bool.and_eq_true, Bool.or_eq_false_iff] at hc)) | refine callF_v (between116 _ _ _ _) ?_ | refine ccallF_of (between116 _ _ _ _) ?_ | refine gcallF_of (between116 _ _ _ _) ?_ | (intro _; intros) | (refine And.intro ?_ ?_; focus (first | omega | ((repeat (first | exact Sub.refl _ | (refine Sub.drop ?_ ?_; focus (simp only [evN, *]; done)) | refine Sub.both ?_)); done) | (simp_all; done) | (simp_all; omega)))))
  all_goals (refine endF_det ?_ ?_; (focus ((try simp only [cond_true, cond_false, *]) <;> ((try simp only [decide_eq_true_eq, decide_eq_false_iff_not] at *) <;> first | rfl | (simp []; done) | (simp_all []; done) | (simp []; omega) | (simp []; (rw [Bool.eq_iff_iff]); simp; omega) | (simp_all [] <;> omega) | ((try unfold id); (rw [Value.bool.injEq, Bool.eq_iff_iff]); simp <;> omega) | ((try unfold id); (repeat' split) <;> simp_all <;> omega) | (simp_all [] <;> (repeat' split) <;> simp_all <;> omega)))); (focus ((try simp only [cond_true, cond_false, set_same, *]); exact (by (repeat (first | exact Sub.refl _ | (refine Sub.drop ?_ ?_; focus (simp only [evN, *]; done)) | refine Sub.both ?_)); done))))
theorem thingsR (tx seq : Int) (k : ByteArray) (lo hi : Int) (hk : goodF k false ⟨#[]⟩ 0 1 = true) (hp : goodF ⟨#[107]⟩ false ⟨#[]⟩ lo hi = true) (σ : Hp) : ACalls Try.prog 102 #[.agg ({ kind := 5, tx := tx, seq := seq, key := k, lo := lo, hi := hi } : Msg).cells.toArray] σ fun u σ' => u = .bool true ∧ σ' = σ := by
  (refine acalls_F ok102 (by simp) ?_; unfold c102 r102)
  (repeat' (first | (simp +contextual -dsimp only [*, Wr.cells, Msg.cells, ↓reduceIte, ↓evP, evQ, splice, Nat.reduceAdd, Nat.reduceEqDiff, Nat.reduceLeDiff, Nat.reduceMul, reduceCtorEq, Int.reduceLT, Int.reduceLE, Int.reduceGT, Int.reduceGE, Int.reduceEq, Int.reduceNeg]) | (refine condF_split (fun hc => ?_) (fun hc => ?_) <;> (try simp only [Bool.not_eq_true', Bool.not_eq_false', Bool.and_eq_true, Bool.or_eq_false_iff] at hc)) | refine callF_v (key118 _ _) ?_ | refine callF_v (pin121 _ _ _) ?_ | refine ccallF_of (key118 _ _) ?_ | refine ccallF_of (pin121 _ _ _) ?_ | refine gcallF_of (key118 _ _) ?_ | refine gcallF_of (pin121 _ _ _) ?_ | (intro _; intros) | (refine And.intro ?_ ?_; focus (first | omega | ((repeat (first | exact Sub.refl _ | (refine Sub.drop ?_ ?_; focus (simp only [evN, *]; done)) | refine Sub.both ?_)); done) | (simp_all; done) | (simp_all; omega)))))
  all_goals (refine endF_det ?_ ?_; (focus ((try simp only [cond_true, cond_false, *]) <;> ((try simp only [decide_eq_true_eq, decide_eq_false_iff_not] at *) <;> first | rfl | (simp []; done) | (simp_all []; done) | (simp []; omega) | (simp []; (rw [Bool.eq_iff_iff]); simp; omega) | (simp_all [] <;> omega) | ((try unfold id); (rw [Value.bool.injEq, Bool.eq_iff_iff]); simp <;> omega) | ((try unfold id); (repeat' split) <;> simp_all <;> omega) | (simp_all [] <;> (repeat' split) <;> simp_all <;> omega)))); (focus ((try simp only [cond_true, cond_false, set_same, *]); exact (by (repeat (first | exact Sub.refl _ | (refine Sub.drop ?_ ?_; focus (simp only [evN, *]; done)) | refine Sub.both ?_)); done))))
theorem checkR (tx seq : Int) (h1 : 1 ≤ seq) (h2 : seq ≤ 2147483647) (h3 : 0 ≤ tx) (h4 : tx ≤ 255) (k : ByteArray) (lo hi : Int) (hk : goodF k false ⟨#[]⟩ 0 1 = true) (hp : goodF ⟨#[107]⟩ false ⟨#[]⟩ lo hi = true) (σ : Hp) : ACalls Try.prog 79 #[.agg ({ kind := 5, tx := tx, seq := seq, key := k, lo := lo, hi := hi } : Msg).cells.toArray] σ fun u σ' => u = .int .i64 0 ∧ σ' = σ := by
  (refine acalls_F ok79 (by simp) ?_; unfold c79 r79)
  (repeat' (first | (simp +contextual -dsimp only [*, Wr.cells, Msg.cells, ↓reduceIte, ↓evP, evQ, splice, Nat.reduceAdd, Nat.reduceEqDiff, Nat.reduceLeDiff, Nat.reduceMul, reduceCtorEq, Int.reduceLT, Int.reduceLE, Int.reduceGT, Int.reduceGE, Int.reduceEq, Int.reduceNeg]) | (refine condF_split (fun hc => ?_) (fun hc => ?_) <;> (try simp only [Bool.not_eq_true', Bool.not_eq_false', Bool.and_eq_true, Bool.or_eq_false_iff] at hc)) | refine callF_v (known99 _ _) ?_ | refine callF_v (unusedR _ _ _ _ _ _) ?_ | refine callF_v (numbersR _ _ h1 h2 h3 h4 _ _ _ _) ?_ | refine callF_v (thingsR _ _ _ _ _ hk hp _) ?_ | refine ccallF_of (known99 _ _) ?_ | refine ccallF_of (unusedR _ _ _ _ _ _) ?_ | refine ccallF_of (numbersR _ _ h1 h2 h3 h4 _ _ _ _) ?_ | refine ccallF_of (thingsR _ _ _ _ _ hk hp _) ?_ | refine gcallF_of (known99 _ _) ?_ | refine gcallF_of (unusedR _ _ _ _ _ _) ?_ | refine gcallF_of (numbersR _ _ h1 h2 h3 h4 _ _ _ _) ?_ | refine gcallF_of (thingsR _ _ _ _ _ hk hp _) ?_ | (intro _; intros) | (refine And.intro ?_ ?_; focus (first | omega | ((repeat (first | exact Sub.refl _ | (refine Sub.drop ?_ ?_; focus (simp only [evN, *]; done)) | refine Sub.both ?_)); done) | (simp_all; done) | (simp_all; omega)))))
  all_goals (refine endF_det ?_ ?_; (focus ((try simp only [cond_true, cond_false, *]) <;> ((try simp only [decide_eq_true_eq, decide_eq_false_iff_not] at *) <;> first | rfl | (simp []; done) | (simp_all []; done) | (simp []; omega) | (simp []; (rw [Bool.eq_iff_iff]); simp; omega) | (simp_all [] <;> omega) | ((try unfold id); (rw [Value.bool.injEq, Bool.eq_iff_iff]); simp <;> omega) | ((try unfold id); (repeat' split) <;> simp_all <;> omega) | (simp_all [] <;> (repeat' split) <;> simp_all <;> omega)))); (focus ((try simp only [cond_true, cond_false, set_same, *]); exact (by (repeat (first | exact Sub.refl _ | (refine Sub.drop ?_ ?_; focus (simp only [evN, *]; done)) | refine Sub.both ?_)); done))))
def idxB (ws : List Wr) : Int := match ws.findIdx? badW with | some i => i | none => -1
theorem idxB_at {ws : List Wr} {i : Nat} {w : Wr} (hi : ws[i]? = some w) (hn : ∀ x ∈ ws.take i, badW x = false) (hw : badW w = true) : idxB ws = (i : Int) := by
  obtain ⟨hlt, e⟩ := List.getElem?_eq_some_iff.1 hi
  have : ws.findIdx? badW = some i := by
    rw [List.findIdx?_eq_some_iff_getElem]
    refine ⟨hlt, by rw [e]; exact hw, fun j hj => ?_⟩
    have := hn (ws[j]'(by omega)) (List.mem_take_iff_getElem.2 ⟨j, by omega, rfl⟩)
    rw [this]; simp
  unfold idxB; rw [this]
theorem idxB_no {ws : List Wr} (hn : ∀ x ∈ ws, badW x = false) : idxB ws = -1 := by
  unfold idxB
  rw [List.findIdx?_eq_none_iff.2 hn]
theorem index143 {σ : Hp} {v : Value} {ws : List Wr} (hv : RoRows 3 Wr.cells σ v ws) (hn : ws.length ≤ 140737488355328) : ACalls Try.prog 143 #[v, .func (.func 117) #[] #[]] σ fun u σ' => u = .int .i64 (idxB ws) ∧ σ' = σ := by
  obtain ⟨A, c, rfl, hrow⟩ := hv
  have H := Hid.mk hrow
  clear hrow
  (refine acalls_F ok143 (by simp) ?_; unfold c143 r143)
  (repeat' (first | (simp +contextual -dsimp only [*, Wr.cells, Msg.cells, ↓reduceIte, ↓evP, evQ, splice, Nat.reduceAdd, Nat.reduceEqDiff, Nat.reduceLeDiff, Nat.reduceMul, reduceCtorEq, Int.reduceLT, Int.reduceLE, Int.reduceGT, Int.reduceGE, Int.reduceEq, Int.reduceNeg]) | (refine condF_split (fun hc => ?_) (fun hc => ?_) <;> (try simp only [Bool.not_eq_true', Bool.not_eq_false', Bool.and_eq_true, Bool.or_eq_false_iff] at hc)) | (intro _; intros) | (refine And.intro ?_ ?_; focus (first | omega | ((repeat (first | exact Sub.refl _ | (refine Sub.drop ?_ ?_; focus (simp only [evN, *]; done)) | refine Sub.both ?_)); done) | (simp_all; done) | (simp_all; omega)))))
  refine loopF_of (fun k s σ' => ∃ (i : Nat), i ≤ ws.length ∧ k = ws.length - i ∧ s 8 = .int .i64 i ∧ s 7 = .int .i64 ws.length ∧ s 0 = .slice A ws.length c ∧ s 1 = .func (.func 117) #[] #[] ∧ σ' = σ ∧ ∀ x ∈ ws.take i, badW x = false) ws.length (Sub.refl _)
    ⟨0, by omega, rfl, (by first | rfl | (simp only [↓putO_get, ↓putO_no, init_zero, init_succ, Nat.reduceEqDiff, ↓reduceIte, *]; done) | (simp only [↓putO_get, ↓putO_no, init_zero, init_succ, Nat.reduceEqDiff, ↓reduceIte, *]; rfl)), (by first | rfl | (simp only [↓putO_get, ↓putO_no, init_zero, init_succ, Nat.reduceEqDiff, ↓reduceIte, *]; done) | (simp only [↓putO_get, ↓putO_no, init_zero, init_succ, Nat.reduceEqDiff, ↓reduceIte, *]; rfl)), (by first | rfl | (simp only [↓putO_get, ↓putO_no, init_zero, init_succ, Nat.reduceEqDiff, ↓reduceIte, *]; done) | (simp only [↓putO_get, ↓putO_no, init_zero, init_succ, Nat.reduceEqDiff, ↓reduceIte, *]; rfl)), (by first | rfl | (simp only [↓putO_get, ↓putO_no, init_zero, init_succ, Nat.reduceEqDiff, ↓reduceIte, *]; done) | (simp only [↓putO_get, ↓putO_no, init_zero, init_succ, Nat.reduceEqDiff, ↓reduceIte, *]; rfl)), rfl, by simp⟩ ?_
  rintro k s τ ⟨i, hi, hk, s8, s7, s0, s1, rfl, hall⟩
  rcases Nat.lt_or_ge i ws.length with hlt | hge
  · obtain ⟨w, ho⟩ : ∃ w, ws[i]? = some w := ⟨_, List.getElem?_eq_getElem hlt⟩
    obtain ⟨b, off, rfl, hrd⟩ := H.out i w ho
    have hd : decide ((i : Int) < (ws.length : Int)) = true := by simp; omega
    have hlt' : (i : Int) < (ws.length : Int) := by omega
    have e1 : IntKind.i64.wrap ((i : Int) + 1) = ((i + 1 : Nat) : Int) := by rw [wi64 (by omega)]; rfl
    have HA := Hid.mk (And.intro hall ho)
    have hb0 := bad117 w τ
    clear hall ho H
    cases hb : badW w with
    | true =>
      rw [hb] at hb0
      have HB := Hid.mk hb
      clear hb
      simp +contextual -dsimp only [*, Wr.cells, Msg.cells, ↓reduceIte, ↓evP, evQ, splice, Nat.reduceAdd, Nat.reduceEqDiff, Nat.reduceLeDiff, Nat.reduceMul, reduceCtorEq, Int.reduceLT, Int.reduceLE, Int.reduceGT, Int.reduceGE, Int.reduceEq, Int.reduceNeg]
      refine vcallF_mk (by kernel_rfl) ?_
      refine callF_v hb0 ?_
      (repeat' (first | (simp +contextual -dsimp only [*, Wr.cells, Msg.cells, ↓reduceIte, ↓evP, evQ, splice, Nat.reduceAdd, Nat.reduceEqDiff, Nat.reduceLeDiff, Nat.reduceMul, reduceCtorEq, Int.reduceLT, Int.reduceLE, Int.reduceGT, Int.reduceGE, Int.reduceEq, Int.reduceNeg]) | (refine condF_split (fun hc => ?_) (fun hc => ?_) <;> (try simp only [Bool.not_eq_true', Bool.not_eq_false', Bool.and_eq_true, Bool.or_eq_false_iff] at hc)) | (intro _; intros) | (refine And.intro ?_ ?_; focus (first | omega | ((repeat (first | exact Sub.refl _ | (refine Sub.drop ?_ ?_; focus (simp only [evN, *]; done)) | refine Sub.both ?_)); done) | (simp_all; done) | (simp_all; omega)))))
      rw [idxB_at HA.out.2 HA.out.1 HB.out]
      all_goals (refine endF_det ?_ ?_; (focus ((try simp only [cond_true, cond_false, *]) <;> ((try simp only [decide_eq_true_eq, decide_eq_false_iff_not] at *) <;> first | rfl | (simp []; done) | (simp_all []; done) | (simp []; omega) | (simp []; (rw [Bool.eq_iff_iff]); simp; omega) | (simp_all [] <;> omega) | ((try unfold id); (rw [Value.bool.injEq, Bool.eq_iff_iff]); simp <;> omega) | ((try unfold id); (repeat' split) <;> simp_all <;> omega) | (simp_all [] <;> (repeat' split) <;> simp_all <;> omega)))); (focus ((try simp only [cond_true, cond_false, set_same, *]); exact (by (repeat (first | exact Sub.refl _ | (refine Sub.drop ?_ ?_; focus (simp only [evN, *]; done)) | refine Sub.both ?_)); done))))
    | false =>
      rw [hb] at hb0
      have HB := Hid.mk hb
      clear hb
      simp +contextual -dsimp only [*, Wr.cells, Msg.cells, ↓reduceIte, ↓evP, evQ, splice, Nat.reduceAdd, Nat.reduceEqDiff, Nat.reduceLeDiff, Nat.reduceMul, reduceCtorEq, Int.reduceLT, Int.reduceLE, Int.reduceGT, Int.reduceGE, Int.reduceEq, Int.reduceNeg]
      refine vcallF_mk (by kernel_rfl) ?_
      refine callF_v hb0 ?_
      (repeat' (first | (simp +contextual -dsimp only [*, Wr.cells, Msg.cells, ↓reduceIte, ↓evP, evQ, splice, Nat.reduceAdd, Nat.reduceEqDiff, Nat.reduceLeDiff, Nat.reduceMul, reduceCtorEq, Int.reduceLT, Int.reduceLE, Int.reduceGT, Int.reduceGE, Int.reduceEq, Int.reduceNeg]) | (refine condF_split (fun hc => ?_) (fun hc => ?_) <;> (try simp only [Bool.not_eq_true', Bool.not_eq_false', Bool.and_eq_true, Bool.or_eq_false_iff] at hc)) | (intro _; intros) | (refine And.intro ?_ ?_; focus (first | omega | ((repeat (first | exact Sub.refl _ | (refine Sub.drop ?_ ?_; focus (simp only [evN, *]; done)) | refine Sub.both ?_)); done) | (simp_all; done) | (simp_all; omega)))))
      refine nextF_of (ws.length - (i + 1)) (by omega) (by (repeat (first | exact Sub.refl _ | (refine Sub.drop ?_ ?_; focus (simp only [evN, *]; done)) | refine Sub.both ?_)); done) ⟨i + 1, by omega, rfl, (by first | rfl | (simp only [↓putO_get, ↓putO_no, init_zero, init_succ, Nat.reduceEqDiff, ↓reduceIte, *]; done) | (simp only [↓putO_get, ↓putO_no, init_zero, init_succ, Nat.reduceEqDiff, ↓reduceIte, *]; rfl)), (by first | rfl | (simp only [↓putO_get, ↓putO_no, init_zero, init_succ, Nat.reduceEqDiff, ↓reduceIte, *]; done) | (simp only [↓putO_get, ↓putO_no, init_zero, init_succ, Nat.reduceEqDiff, ↓reduceIte, *]; rfl)), (by first | rfl | (simp only [↓putO_get, ↓putO_no, init_zero, init_succ, Nat.reduceEqDiff, ↓reduceIte, *]; done) | (simp only [↓putO_get, ↓putO_no, init_zero, init_succ, Nat.reduceEqDiff, ↓reduceIte, *]; rfl)), (by first | rfl | (simp only [↓putO_get, ↓putO_no, init_zero, init_succ, Nat.reduceEqDiff, ↓reduceIte, *]; done) | (simp only [↓putO_get, ↓putO_no, init_zero, init_succ, Nat.reduceEqDiff, ↓reduceIte, *]; rfl)), rfl, fun x hx => ?_⟩
      have e2 : ws.take (i + 1) = ws.take i ++ [w] := by rw [List.take_add_one, HA.out.2]; rfl
      rw [e2] at hx
      rcases List.mem_append.1 hx with h | h
      · exact HA.out.1 x h
      · rw [List.mem_singleton.1 h]; exact HB.out
  · have hd : decide ((i : Int) < (ws.length : Int)) = false := by simp; omega
    have HA := Hid.mk hall
    clear hall
    (repeat' (first | (simp +contextual -dsimp only [*, Wr.cells, Msg.cells, ↓reduceIte, ↓evP, evQ, splice, Nat.reduceAdd, Nat.reduceEqDiff, Nat.reduceLeDiff, Nat.reduceMul, reduceCtorEq, Int.reduceLT, Int.reduceLE, Int.reduceGT, Int.reduceGE, Int.reduceEq, Int.reduceNeg]) | (refine condF_split (fun hc => ?_) (fun hc => ?_) <;> (try simp only [Bool.not_eq_true', Bool.not_eq_false', Bool.and_eq_true, Bool.or_eq_false_iff] at hc)) | (intro _; intros) | (refine And.intro ?_ ?_; focus (first | omega | ((repeat (first | exact Sub.refl _ | (refine Sub.drop ?_ ?_; focus (simp only [evN, *]; done)) | refine Sub.both ?_)); done) | (simp_all; done) | (simp_all; omega)))))
    have e2 : ws.take i = ws := List.take_of_length_le hge
    rw [idxB_no (by have := HA.out; rwa [e2] at this)]
    all_goals (refine endF_det ?_ ?_; (focus ((try simp only [cond_true, cond_false, *]) <;> ((try simp only [decide_eq_true_eq, decide_eq_false_iff_not] at *) <;> first | rfl | (simp []; done) | (simp_all []; done) | (simp []; omega) | (simp []; (rw [Bool.eq_iff_iff]); simp; omega) | (simp_all [] <;> omega) | ((try unfold id); (rw [Value.bool.injEq, Bool.eq_iff_iff]); simp <;> omega) | ((try unfold id); (repeat' split) <;> simp_all <;> omega) | (simp_all [] <;> (repeat' split) <;> simp_all <;> omega)))); (focus ((try simp only [cond_true, cond_false, set_same, *]); exact (by (repeat (first | exact Sub.refl _ | (refine Sub.drop ?_ ?_; focus (simp only [evN, *]; done)) | refine Sub.both ?_)); done))))
theorem contains120 {σ : Hp} {v : Value} {ws : List Wr} (hv : RoRows 3 Wr.cells σ v ws) (hn : ws.length ≤ 140737488355328) : ACalls Try.prog 120 #[v, .func (.func 117) #[] #[]] σ fun u σ' => u = .bool (decide (idxB ws ≥ 0)) ∧ σ' = σ := by
  obtain ⟨A, c, rfl⟩ : ∃ A c, v = .slice A ws.length c := by obtain ⟨A, c, rfl, _⟩ := hv; exact ⟨A, c, rfl⟩
  have h0 := index143 hv hn
  clear hv
  (refine acalls_F ok120 (by simp) ?_; unfold c120 r120)
  (repeat' (first | (simp +contextual -dsimp only [*, Wr.cells, Msg.cells, ↓reduceIte, ↓evP, evQ, splice, Nat.reduceAdd, Nat.reduceEqDiff, Nat.reduceLeDiff, Nat.reduceMul, reduceCtorEq, Int.reduceLT, Int.reduceLE, Int.reduceGT, Int.reduceGE, Int.reduceEq, Int.reduceNeg]) | (refine condF_split (fun hc => ?_) (fun hc => ?_) <;> (try simp only [Bool.not_eq_true', Bool.not_eq_false', Bool.and_eq_true, Bool.or_eq_false_iff] at hc)) | refine callF_v (h0) ?_ | refine ccallF_of (h0) ?_ | refine gcallF_of (h0) ?_ | (intro _; intros) | (refine And.intro ?_ ?_; focus (first | omega | ((repeat (first | exact Sub.refl _ | (refine Sub.drop ?_ ?_; focus (simp only [evN, *]; done)) | refine Sub.both ?_)); done) | (simp_all; done) | (simp_all; omega)))))
  all_goals (refine endF_det ?_ ?_; (focus ((try simp only [cond_true, cond_false, *]) <;> ((try simp only [decide_eq_true_eq, decide_eq_false_iff_not] at *) <;> first | rfl | (simp []; done) | (simp_all []; done) | (simp []; omega) | (simp []; (rw [Bool.eq_iff_iff]); simp; omega) | (simp_all [] <;> omega) | ((try unfold id); (rw [Value.bool.injEq, Bool.eq_iff_iff]); simp <;> omega) | ((try unfold id); (repeat' split) <;> simp_all <;> omega) | (simp_all [] <;> (repeat' split) <;> simp_all <;> omega)))); (focus ((try simp only [cond_true, cond_false, set_same, *]); exact (by (repeat (first | exact Sub.refl _ | (refine Sub.drop ?_ ?_; focus (simp only [evN, *]; done)) | refine Sub.both ?_)); done))))
def thgC (ws : List Wr) : Bool := decide (1 ≤ (ws.length : Int)) && decide ((ws.length : Int) ≤ 8) && !decide (idxB ws ≥ 0)
theorem thingsC (seq : Int) {σ0 σ : Hp} {v : Value} {ws : List Wr} (hv : RoRows 3 Wr.cells σ0 v ws) (hn : ws.length ≤ 140737488355328) (hs : Sub σ0 σ) : ACalls Try.prog 102 #[.agg ({ kind := 1, seq := seq, writes := v } : Msg).cells.toArray] σ fun u σ' => u = .bool (thgC ws) ∧ σ' = σ := by
  obtain ⟨A, c, rfl⟩ : ∃ A c, v = .slice A ws.length c := by obtain ⟨A, c, rfl, _⟩ := hv; exact ⟨A, c, rfl⟩
  have h0 : ∀ b o, σ b = none → ACalls Try.prog 120 #[.slice A ws.length c, .func (.func 117) #[] #[]] (upd σ b o) fun u σ' => u = .bool (decide (idxB ws ≥ 0)) ∧ σ' = upd σ b o := fun b o hb => contains120 (hv.sub (Sub.drop (hs.noneAt hb) hs)) hn
  clear hv hs
  (refine acalls_F ok102 (by simp) ?_; unfold c102 r102)
  (repeat' (first | (simp +contextual -dsimp only [*, Wr.cells, Msg.cells, ↓reduceIte, ↓evP, evQ, splice, Nat.reduceAdd, Nat.reduceEqDiff, Nat.reduceLeDiff, Nat.reduceMul, reduceCtorEq, Int.reduceLT, Int.reduceLE, Int.reduceGT, Int.reduceGE, Int.reduceEq, Int.reduceNeg]) | (refine condF_split (fun hc => ?_) (fun hc => ?_) <;> (try simp only [Bool.not_eq_true', Bool.not_eq_false', Bool.and_eq_true, Bool.or_eq_false_iff] at hc)) | refine callF_v (between116 _ _ _ _) ?_ | refine callF_v (h0 _ _ (by assumption)) ?_ | refine ccallF_of (between116 _ _ _ _) ?_ | refine ccallF_of (h0 _ _ (by assumption)) ?_ | refine gcallF_of (between116 _ _ _ _) ?_ | refine gcallF_of (h0 _ _ (by assumption)) ?_ | (intro _; intros) | (refine And.intro ?_ ?_; focus (first | omega | ((repeat (first | exact Sub.refl _ | (refine Sub.drop ?_ ?_; focus (simp only [evN, *]; done)) | refine Sub.both ?_)); done) | (simp_all; done) | (simp_all; omega)))))
  all_goals (refine endF_det ?_ ?_; (focus ((try simp only [thgC, cond_true, cond_false, *]) <;> ((try simp only [decide_eq_true_eq, decide_eq_false_iff_not] at *) <;> first | rfl | (simp [thgC]; done) | (simp_all [thgC]; done) | (simp [thgC]; omega) | (simp [thgC]; (rw [Bool.eq_iff_iff]); simp; omega) | (simp_all [thgC] <;> omega) | ((try unfold thgC); (rw [Value.bool.injEq, Bool.eq_iff_iff]); simp <;> omega) | ((try unfold thgC); (repeat' split) <;> simp_all <;> omega) | (simp_all [thgC] <;> (repeat' split) <;> simp_all <;> omega)))); (focus ((try simp only [thgC, cond_true, cond_false, set_same, *]); exact (by (repeat (first | exact Sub.refl _ | (refine Sub.drop ?_ ?_; focus (simp only [evN, *]; done)) | refine Sub.both ?_)); done))))
theorem checkC (seq : Int) (h1 : 1 ≤ seq) (h2 : seq ≤ 2147483647) {σ0 σ : Hp} {v : Value} {ws : List Wr} (hv : RoRows 3 Wr.cells σ0 v ws) (hn : ws.length ≤ 140737488355328) (hs : Sub σ0 σ) : ACalls Try.prog 79 #[.agg ({ kind := 1, seq := seq, writes := v } : Msg).cells.toArray] σ fun u σ' => u = .int .i64 (cond (thgC ws) 0 1) ∧ σ' = σ := by
  obtain ⟨A, c, rfl⟩ : ∃ A c, v = .slice A ws.length c := by obtain ⟨A, c, rfl, _⟩ := hv; exact ⟨A, c, rfl⟩
  have h0 : ∀ b o, σ b = none → ACalls Try.prog 102 #[.agg ({ kind := 1, seq := seq, writes := .slice A ws.length c } : Msg).cells.toArray] (upd σ b o) fun u σ' => u = .bool (thgC ws) ∧ σ' = upd σ b o := fun b o hb => thingsC seq hv hn (Sub.drop (hs.noneAt hb) hs)
  clear hv hs
  (refine acalls_F ok79 (by simp) ?_; unfold c79 r79)
  (repeat' (first | (simp +contextual -dsimp only [*, Wr.cells, Msg.cells, ↓reduceIte, ↓evP, evQ, splice, Nat.reduceAdd, Nat.reduceEqDiff, Nat.reduceLeDiff, Nat.reduceMul, reduceCtorEq, Int.reduceLT, Int.reduceLE, Int.reduceGT, Int.reduceGE, Int.reduceEq, Int.reduceNeg]) | (refine condF_split (fun hc => ?_) (fun hc => ?_) <;> (try simp only [Bool.not_eq_true', Bool.not_eq_false', Bool.and_eq_true, Bool.or_eq_false_iff] at hc)) | refine callF_v (known99 _ _) ?_ | refine callF_v (unusedC _ _ _ _ _) ?_ | refine callF_v (numbersC _ h1 h2 _ _ _ _) ?_ | refine callF_v (h0 _ _ (by assumption)) ?_ | refine ccallF_of (known99 _ _) ?_ | refine ccallF_of (unusedC _ _ _ _ _) ?_ | refine ccallF_of (numbersC _ h1 h2 _ _ _ _) ?_ | refine ccallF_of (h0 _ _ (by assumption)) ?_ | refine gcallF_of (known99 _ _) ?_ | refine gcallF_of (unusedC _ _ _ _ _) ?_ | refine gcallF_of (numbersC _ h1 h2 _ _ _ _) ?_ | refine gcallF_of (h0 _ _ (by assumption)) ?_ | (intro _; intros) | (refine And.intro ?_ ?_; focus (first | omega | ((repeat (first | exact Sub.refl _ | (refine Sub.drop ?_ ?_; focus (simp only [evN, *]; done)) | refine Sub.both ?_)); done) | (simp_all; done) | (simp_all; omega)))))
  all_goals (refine endF_det ?_ ?_; (focus ((try simp only [cond_true, cond_false, *]) <;> ((try simp only [decide_eq_true_eq, decide_eq_false_iff_not] at *) <;> first | rfl | (simp []; done) | (simp_all []; done) | (simp []; omega) | (simp []; (rw [Bool.eq_iff_iff]); simp; omega) | (simp_all [] <;> omega) | ((try unfold id); (rw [Value.bool.injEq, Bool.eq_iff_iff]); simp <;> omega) | ((try unfold id); (repeat' split) <;> simp_all <;> omega) | (simp_all [] <;> (repeat' split) <;> simp_all <;> omega)))); (focus ((try simp only [cond_true, cond_false, set_same, *]); exact (by (repeat (first | exact Sub.refl _ | (refine Sub.drop ?_ ?_; focus (simp only [evN, *]; done)) | refine Sub.both ?_)); done))))
/-- A slice of slices of writes, to be read alone. -/
def ListsAt (σ : Hp) (v : Value) (L : List (List Wr)) : Prop :=
  ∃ A c, v = .slice A L.length c ∧ ∀ (i : Nat) ws, L[i]? = some ws → ∃ b o x, A = some ⟨b, o, none⟩ ∧ rd σ b (o + i * 1) = some x ∧ RoRows 3 Wr.cells σ x ws ∧ ws.length ≤ 140737488355328
/-- A heap of one block. -/
def only (b : Nat) (o : Blk) : Hp := upd (fun _ => none) b o
open Go.Sp Go.Sp.Open
theorem list_of {P : Nat → Value → Prop} : ∀ (n : Nat), (∀ i, i < n → ∃ v, P i v) → ∃ vs : List Value, vs.length = n ∧ ∀ (i : Nat) v, vs[i]? = some v → P i v
  | 0, _ => ⟨[], rfl, fun i v h => by simp at h⟩
  | n + 1, h => by
    obtain ⟨vs, h1, h2⟩ := list_of n fun i hi => h i (by omega)
    obtain ⟨v, hv⟩ := h n (by omega)
    refine ⟨vs ++ [v], by simp [h1], fun i x hx => ?_⟩
    by_cases hi : i < n
    · rw [List.getElem?_append_left (by omega)] at hx; exact h2 i x hx
    · have := (List.getElem?_eq_some_iff.1 hx).1
      simp at this
      have e : i = n := by omega
      subst e
      rw [List.getElem?_append_right (by omega), h1] at hx
      simp at hx; subst hx; exact hv
theorem ro_lists_of {α : Type} {n : Nat} {f : α → List Value} {w : World} {A : Option Addr} {c : Nat} {L : List (List α)} (hn : 0 < n) (h : (Kd.slice (Kd.of n f)).C w A L) :
    ∀ (i : Nat) ws, L[i]? = some ws → ∃ b o x, A = some ⟨b, o, none⟩ ∧ rd (full w) b (o + i * 1) = some x ∧ RoRows n f (full w) x ws := by
  obtain ⟨vs, h1, h2⟩ := list_of (P := fun i v => ∃ ws, L[i]? = some ws ∧ (Kd.slice (Kd.of n f)).K w ws [v] ∧ ∃ a, A = some a ∧ w.cell? (a.add (i * 1 + 0)) = some v) L.length fun i hi => by
    obtain ⟨a, rfl, cs, hl, hk, hc⟩ := h i _ (List.getElem?_eq_getElem hi)
    obtain ⟨A', c', rfl, h3, h4⟩ := hk
    exact ⟨_, _, List.getElem?_eq_getElem hi, ⟨A', c', rfl, h3, h4⟩, a, rfl, hc 0 _ rfl⟩
  have hC : (Kd.of 1 vC).C w A vs := fun j x hx => by
    obtain ⟨ws, _, _, a, e, hc⟩ := h2 j x hx
    exact ⟨a, e, _, rfl, rfl, fun i u hu => by
      cases i with
      | zero => cases hu; exact hc
      | succ i => cases hu⟩
  have hro := ro_rows (c := 0) (by decide) hC
  intro i ws hws
  have hi : i < vs.length := by rw [h1]; exact (List.getElem?_eq_some_iff.1 hws).1
  obtain ⟨ws', e1, ⟨A', c', e2, h3, h4⟩, _⟩ := h2 i _ (List.getElem?_eq_getElem hi)
  rw [hws] at e1; cases e1
  obtain ⟨b, o, e3, h5⟩ := hro.get hi
  have e2 := (List.cons.inj e2).1
  rw [e2] at h5
  exact ⟨b, o, _, e3, rd_of_rdn h5, ro_rows hn h4⟩
theorem ro_lists {w : World} {A : Option Addr} {c : Nat} {L : List (List Wr)} (h : (Kd.slice (Kd.of 3 Wr.cells)).C w A L) (hs : ∀ ws ∈ L, ws.length * 40 ≤ 140737488351232) : ListsAt (full w) (.slice A L.length c) L :=
  ⟨A, c, rfl, fun i ws hws => by
    obtain ⟨b, o, x, h1, h2, h3⟩ := ro_lists_of (c := c) (by decide) h i ws hws
    have := hs ws (List.mem_of_getElem? hws)
    exact ⟨b, o, x, h1, h2, h3, by omega⟩⟩
set_option maxRecDepth 100000
def r4 : List RV := [.tmp 10]
/-- (*vouch/stream.Log).Get -/
def c17 : C := (.seq (.reg [(rO 4 (.new 51 [.int .i64 (0), .slice none 0 0])),
 (rO 5 (.mv (.const (.int .i64 0))))])
 (.seq (.seq (.reg [(rO 6 (.mv (.tmp 1))),
 (rO 7 (.bin .lss (.tmp 6) (.const (.int .i64 1)))),
 (rO 8 (.mv (.tmp 7))),
 ⟨(some 9), (.mv (.tmp 1)), (some (8, false))⟩,
 ⟨(some 10), (.mv (.tmp 0)), (some (8, false))⟩,
 ⟨(some 11), (.call 13 [(.tmp 10)]), (some (8, false))⟩,
 ⟨(some 12), (.bin .gtr (.tmp 9) (.tmp 11)), (some (8, false))⟩,
 (rO 13 (.pick (.tmp 8) (.const (.bool true)) (.tmp 12)))])
 (.cond (.tmp 13) (.seq (.reg [(rO 14 (.bld [.int .i64 (0), .slice none 0 0] [])),
 ⟨none, (.st 2 (.tmp 4) (.tmp 14)), none⟩,
 (rO 5 (.mv (.const (.int .i64 3))))])
 .ret)
 .skip))
 (.seq (.reg [(rO 15 (.mv (.tmp 1))),
 (rO 16 (.mv (.tmp 0))),
 (rO 17 (.nilc (.tmp 16))),
 (rO 18 (.fa 0 (.tmp 17))),
 (rO 19 (.ld none (.tmp 18))),
 (rO 20 (.mv (.tmp 1))),
 (rO 21 (.bin .sub (.tmp 20) (.const (.int .i64 1)))),
 (rO 22 (.ia 1 (.tmp 19) (.tmp 21))),
 (rO 23 (.ld none (.tmp 22))),
 (rO 24 (.call 44 [(.tmp 23)])),
 (rO 25 (.bld [.int .i64 (0), .slice none 0 0] [(0, 1, (.tmp 15)), (1, 1, (.tmp 24))])),
 ⟨none, (.st 2 (.tmp 4) (.tmp 25)), none⟩,
 (rO 5 (.mv (.const (.int .i64 0))))])
 .ret)))
def r17 : List RV := [.agg 4 2, .tmp 5]
theorem ok17 : FnOk Try.prog 17 26 c17 r17 := ⟨[], _, _, Try.func17, rfl, rfl, by kernel_rfl, by kernel_rfl, by kernel_rfl⟩
theorem LogAt.ks {σ σ' : Hp} {g : Nat} {v : Value} {H : List (List ByteArray)} {p : Blk → Prop} (h : LogAt σ g v H) (hs : KSame p σ σ') (h1 : ∀ cs, ¬ p (.cells cs 102)) (h2 : ∀ cs r, ¬ p (.row cs r 36)) (h3 : ∀ cs r, ¬ p (.row cs r 9)) : LogAt σ' g v H := by
  obtain ⟨vs, a, b, c⟩ := h.rows
  exact ⟨hs _ _ h.cell (h1 _), vs, a.ks hs h2, b, fun i x l hx hl => ⟨(c i x l hx hl).1.ks hs h3, (c i x l hx hl).2⟩⟩
/-- One element of a list of records' lists. -/
theorem LogAt.get {σ : Hp} {g : Nat} {v : Value} {H : List (List ByteArray)} (h : LogAt σ g v H) {i : Nat} {ks : List ByteArray} (hi : H[i]? = some ks) : ∃ b c x, v = .slice (some ⟨b, 0, none⟩) H.length c ∧ rd σ b (i * 1) = some x ∧ RowsAt 9 1 sC σ x ks ∧ ks ≠ [] ∧ ks.length ≤ 8 := by
  obtain ⟨vs, hr, hl, hk⟩ := h.rows
  have hlt := (List.getElem?_eq_some_iff.1 hi).1
  obtain ⟨h1, h2, h3⟩ := hk i _ ks (List.getElem?_eq_getElem (by omega)) hi
  rcases hr with ⟨_, e⟩ | ⟨b, c, rfl, hc, hb⟩
  · rw [e] at hl; simp at hl; omega
  · refine ⟨b, c, vs[i], by rw [hl], ?_, h1, h2, h3⟩
    unfold rd; rw [hb]
    have := get_flat vC_len (List.getElem?_eq_getElem (show i < vs.length by omega)) 0 (by omega)
    show (vs.flatMap vC)[i * 1]? = _
    rw [Nat.add_zero] at this; rw [this]; rfl
theorem get17 {σ : Hp} {g : Nat} {v : Value} {H : List (List ByteArray)} (h : LogAt σ g v H) (i : Nat) {ks : List ByteArray} (hi : H[i]? = some ks) (hH : H.length < 1048576) :
    ACalls Try.prog 17 #[.pointer (some ⟨g, 0, none⟩), .int .i64 (i + 1 : Nat)] σ fun u σ' => ∃ b c, σ b = none ∧ ks.length ≤ c ∧ u = .tuple #[.agg #[.int .i64 (i + 1 : Nat), .slice (some ⟨b, 0, none⟩) ks.length c], .int .i64 0] ∧ σ' = upd σ b (.row (ks.flatMap sC) (c * 1) 9) := by
  obtain ⟨b, c, x, rfl, hrd, hr, h0, h8⟩ := h.get hi
  have hlt := (List.getElem?_eq_some_iff.1 hi).1
  have hgn : ∀ y, σ y = none → ¬ g = y := fun y hy e => by have := h.cell; rw [e, hy] at this; cases this
  have hbn : ∀ y, σ y = none → ¬ b = y := fun y hy e => by unfold rd at hrd; rw [e, hy] at hrd; cases hrd
  have hl : ∀ b' o, σ b' = none → ACalls Try.prog 13 #[.pointer (some ⟨g, 0, none⟩)] (upd σ b' o) fun u σ' => u = .int .i64 (H.length : Nat) ∧ σ' = upd σ b' o := fun b' o hb =>
    last13 (a := some ⟨b, 0, none⟩) (c := c) (by rw [rd_ne _ _ _ (hgn b' hb)]; unfold rd; rw [h.cell]; rfl)
  have hg0 : rd σ g 0 = some (.slice (some ⟨b, 0, none⟩) H.length c) := by unfold rd; rw [h.cell]; rfl
  have d1 : decide (((i + 1 : Nat) : Int) < 1) = false := by simp; omega
  have d2 : decide (((i + 1 : Nat) : Int) > (H.length : Int)) = false := by simp; omega
  have e1 : IntKind.i64.wrap (((i + 1 : Nat) : Int) - 1) = (i : Int) := by rw [wi64 (by omega)]; omega
  have hlt' : (i : Int) < (H.length : Int) := by omega
  have HH := Hid.mk (And.intro hr h)
  clear h hr
  (refine acalls_F ok17 (by simp) ?_; unfold c17 r17)
  (repeat' (first | (simp +contextual -dsimp only [*, ↓reduceIte, ↓evP, evQ, splice, Nat.reduceAdd, Nat.reduceEqDiff, Nat.reduceLeDiff, Nat.reduceMul, reduceCtorEq, Int.reduceLT, Int.reduceLE, Int.reduceGT, Int.reduceGE, Int.reduceEq, Int.reduceNeg]) | (refine condF_split (fun hc => ?_) (fun hc => ?_) <;> (try simp only [Bool.not_eq_true', Bool.not_eq_false', Bool.and_eq_true, Bool.or_eq_false_iff] at hc)) | refine callF_v (hl _ _ (by assumption)) ?_ | refine ccallF_of (hl _ _ (by assumption)) ?_ | refine gcallF_of (hl _ _ (by assumption)) ?_ | (intro _; intros) | (refine And.intro ?_ ?_; focus (first | omega | ((repeat (first | exact Sub.refl _ | (refine Sub.drop ?_ ?_; focus (simp only [evN, *]; done)) | refine Sub.both ?_)); done) | (simp_all; done) | (simp_all; omega)))))
  rename_i y y0
  have q1 := hgn y y0
  have q2 := hbn y y0
  (repeat' (first | (simp +contextual -dsimp only [*, ↓reduceIte, ↓evP, evQ, splice, Nat.reduceAdd, Nat.reduceEqDiff, Nat.reduceLeDiff, Nat.reduceMul, reduceCtorEq, Int.reduceLT, Int.reduceLE, Int.reduceGT, Int.reduceGE, Int.reduceEq, Int.reduceNeg]) | (refine condF_split (fun hc => ?_) (fun hc => ?_) <;> (try simp only [Bool.not_eq_true', Bool.not_eq_false', Bool.and_eq_true, Bool.or_eq_false_iff] at hc)) | (intro _; intros) | (refine And.intro ?_ ?_; focus (first | omega | ((repeat (first | exact Sub.refl _ | (refine Sub.drop ?_ ?_; focus (simp only [evN, *]; done)) | refine Sub.both ?_)); done) | (simp_all; done) | (simp_all; omega)))))
  refine callF_of (clone44 ((HH.out.1.fresh y0 _).ro sC_len) h0 (by omega)) ?_
  rintro u σ1 ⟨z, cz, hz, hzc, rfl, rfl⟩
  have hz' := hz
  simp only [none_upd] at hz'
  obtain ⟨⟨z1, z2⟩, z3⟩ := hz'
  (repeat' (first | (simp +contextual -dsimp only [*, ↓reduceIte, ↓evP, evQ, splice, Nat.reduceAdd, Nat.reduceEqDiff, Nat.reduceLeDiff, Nat.reduceMul, reduceCtorEq, Int.reduceLT, Int.reduceLE, Int.reduceGT, Int.reduceGE, Int.reduceEq, Int.reduceNeg]) | (refine condF_split (fun hc => ?_) (fun hc => ?_) <;> (try simp only [Bool.not_eq_true', Bool.not_eq_false', Bool.and_eq_true, Bool.or_eq_false_iff] at hc)) | (intro _; intros) | (refine And.intro ?_ ?_; focus (first | omega | ((repeat (first | exact Sub.refl _ | (refine Sub.drop ?_ ?_; focus (simp only [evN, *]; done)) | refine Sub.both ?_)); done) | (simp_all; done) | (simp_all; omega)))))
  refine endF_sub ?_ ⟨z, cz, z3, hzc, rfl, rfl⟩
  rw [upd_comm _ _ _ (fun e => z1 e.symm)]
  exact Sub.drop (by simp only [evN, *]; done) (Sub.refl _)
end Go.Proofs.Ytpnghjmphbhkjaa
