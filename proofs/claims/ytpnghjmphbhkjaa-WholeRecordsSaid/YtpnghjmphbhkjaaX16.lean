/- WholeLogs: what a read says, and what First says; store and stream side by side. -/
import Derived.Test.YtpnghjmphbhkjaaX15
namespace Go.Proofs.Ytpnghjmphbhkjaa
open Go.Sp
set_option linter.unusedSimpArgs false
set_option linter.unusedVariables false
theorem get_findIdx {α : Type} (p : α → Bool) : ∀ (l : List α), l[l.findIdx p]? = l.find? p
  | [] => rfl
  | x :: r => by
    rw [List.findIdx_cons, List.find?_cons]
    cases h : p x with
    | true => rfl
    | false => simp [get_findIdx p r]
theorem place_find (l : List Ver) (c : Nat) : l[place l c]? = l.find? (fun v => decide (c < v.n)) := by
  unfold place
  rw [get_findIdx]
  congr 1
  funext v
  simp
theorem first_some {H : List (List Wr)} {k : ByteArray} {c : Nat} {v : Ver} (h : (vers H k).find? (fun v => decide (c < v.n)) = some v) : firstV (H.map keysOf) k c = ((v.n : Int), true) := by
  obtain ⟨h1, h2, _⟩ := posH_some h
  unfold firstV
  rw [h1, if_neg (by omega)]
  congr 1
  omega
theorem first_none {H : List (List Wr)} {k : ByteArray} {c : Nat} (h : (vers H k).find? (fun v => decide (c < v.n)) = none) : firstV (H.map keysOf) k c = (0, false) := by
  unfold firstV
  rw [posH_none h]; rfl
theorem first_here {H : List (List Wr)} {k : ByteArray} {j : Nat} {v : Ver} (h : (vers H k)[j]? = some v) : 1 ≤ v.n ∧ firstV (H.map keysOf) k (v.n - 1) = ((v.n : Int), true) := by
  have hm : v ∈ vers H k := List.mem_of_getElem? h
  have h1 := (versF_ge hm).1
  refine ⟨h1, first_some ?_⟩
  obtain ⟨hj, hv⟩ := List.getElem?_eq_some_iff.1 h
  rw [List.find?_eq_some_iff_getElem]
  refine ⟨by simp; omega, j, hj, hv, fun i hi => ?_⟩
  have hs : (vers H k)[i].n < (vers H k)[j].n := List.pairwise_iff_getElem.1 (show (vers H k).Pairwise _ from versF_sorted k H 1) i j (by omega) hj hi
  rw [hv] at hs
  simp; omega
theorem run_ok {H : List (List Wr)} (h : H.length < 1000000) : StOk (St.run 64 H) := ⟨⟨(by decide : 1 ≤ 64), (by decide : 64 ≤ 64)⟩, fun k => cut_len _ _, by show H.length < _; omega⟩
theorem vers_len (H : List (List Wr)) (k : ByteArray) : (vers H k).length ≤ H.length := by
  have key : ∀ (H : List (List Wr)) (n : Nat), (versF n H k).length ≤ H.length := by
    intro H
    induction H with
    | nil => intro n; exact Nat.le_refl _
    | cons x r ih =>
      intro n
      show (wroteV k x n ++ versF (n + 1) r k).length ≤ _
      rw [List.length_append]
      have := ih (n + 1)
      have h2 : (wroteV k x n).length ≤ 1 := by unfold wroteV; cases wrote k x <;> simp
      simp; omega
  exact key H 1
theorem run_row {H : List (List Wr)} (h : H.length ≤ 64) (k : ByteArray) : (St.run 64 H).row k = ⟨vers H k, false⟩ := by
  show cut 64 (vers H k) = _
  unfold cut
  rw [if_neg (by have := vers_len H k; omega)]
theorem rowOk_run {H : List (List Wr)} (h : H.length ≤ 64) (k : ByteArray) : RowOk ((St.run 64 H).row k) := by
  rw [run_row h]
  exact ⟨versF_sorted k H 1, (fun e => by cases e), by have := vers_len H k; show (vers H k).length ≤ _; omega⟩
/-- Store and stream over a heap: what the one and the other holds; what was there before is as it was. -/
structure WL (σ0 σ : Hp) (g m gl : Nat) (v : Value) (HS HL : List (List Wr)) : Prop where
  store : StoreAt σ g m (St.run 64 HS)
  log : LogAt σ gl v (HL.map keysOf)
  sub : Sub σ0 σ
  new : σ0 g = none ∧ σ0 m = none ∧ σ0 gl = none ∧ ∀ k, blk v = some k → σ0 k = none
theorem WL.ne {σ0 σ : Hp} {g m gl : Nat} {v : Value} {HS HL : List (List Wr)} (h : WL σ0 σ g m gl v HS HL) : gl ≠ g ∧ gl ≠ m ∧ (∀ k, blk v = some k → k ≠ g ∧ k ≠ m ∧ ∃ cs r, σ k = some (.row cs r 36)) := by
  obtain ⟨l, hm, _⟩ := h.store.map
  have hg := h.store.cell
  have hl := h.log.cell
  obtain ⟨vs, hr, _⟩ := h.log.rows
  refine ⟨(fun e => by rw [e, hg] at hl; exact absurd (Blk.cells.inj (Option.some.inj hl)).2 (by decide)), (fun e => by rw [e, hm] at hl; cases hl), fun k hk => ?_⟩
  rcases hr with ⟨rfl, _⟩ | ⟨b, c, rfl, _, hb⟩
  · cases hk
  · cases hk
    exact ⟨(fun e => by have e : b = g := e; rw [e, hg] at hb; cases hb), (fun e => by have e : b = m := e; rw [e, hm] at hb; cases hb), _, _, hb⟩
theorem StoreAt.same {σ σ' : Hp} {g m : Nat} {S : St} {F : Nat → Prop} (h : StoreAt σ g m S) (hs : Same F σ σ') (hg : ¬ F g) (hm : ¬ F m) (hF : ∀ k cs n, F k → σ k = some (.row cs n 109) → False) : StoreAt σ' g m S := by
  obtain ⟨h1, l, h2, h3⟩ := h
  exact ⟨hs.at h1 hg, l, hs.at h2 hm, fun k => (h3 k).same hs hF⟩
theorem WL.same {σ0 σ σ' : Hp} {g m gl : Nat} {v : Value} {HS HL : List (List Wr)} (h : WL σ0 σ g m gl v HS HL) (hs : Same (fun _ => False) σ σ') : WL σ0 σ' g m gl v HS HL :=
  ⟨h.store.same hs (fun x => x) (fun x => x) (fun _ _ _ x => x.elim), h.log.same hs (fun x => x) (fun _ _ _ _ x => x.elim), h.sub.trans hs.sub, h.new⟩
theorem WL.commit {σ0 σ σ' : Hp} {g m gl : Nat} {v : Value} {HS HL : List (List Wr)} {ws : List Wr} (h : WL σ0 σ g m gl v HS HL) (hs : Same (fun k => k = g ∨ k = m) σ σ') (hS : StoreAt σ' g m ((St.run 64 HS).commit ws)) (hg : GoodWs ws) : WL σ0 σ' g m gl v (HS ++ [ws]) HL := by
  obtain ⟨n1, n2, n3⟩ := h.ne
  obtain ⟨l, hm, _⟩ := h.store.map
  have hc := h.store.cell
  refine ⟨by rw [← run_commit _ _ _ hg.once]; exact hS, h.log.same hs (fun e => e.elim n1 n2) (fun k cs r E e hk => ?_), h.sub.same hs fun k e => ?_, h.new⟩
  · rcases e with rfl | rfl
    · rw [hc] at hk; cases hk
    · rw [hm] at hk; cases hk
  · rcases e with rfl | rfl
    · exact h.new.1
    · exact h.new.2.1
theorem WL.append {σ0 σ σ' : Hp} {g m gl : Nat} {v v' : Value} {HS HL : List (List Wr)} {ws : List Wr} (h : WL σ0 σ g m gl v HS HL) (hL : LogAt σ' gl v' (HL.map keysOf ++ [keysOf ws])) (hs : Step σ gl v σ' v') : WL σ0 σ' g m gl v' HS (HL ++ [ws]) := by
  obtain ⟨n1, n2, n3⟩ := h.ne
  have hl := h.log.cell
  refine ⟨h.store.same hs.1 (fun e => e.elim (fun e => n1 e.symm) fun e => (n3 _ e).1 rfl) (fun e => e.elim (fun e => n2 e.symm) fun e => (n3 _ e).2.1 rfl) (fun k cs n e hk => ?_), by rw [List.map_append]; exact hL, h.sub.same hs.1 fun k e => ?_, h.new.1, h.new.2.1, h.new.2.2.1, fun k hk => ?_⟩
  · rcases e with rfl | e
    · rw [hl] at hk; cases hk
    · obtain ⟨_, _, cs', r', hk'⟩ := n3 _ e
      rw [hk'] at hk
      exact absurd (Blk.row.inj (Option.some.inj hk)).2.2 (by decide)
  · rcases e with rfl | e
    · exact h.new.2.2.1
    · exact h.new.2.2.2 _ e
  · rcases hs.2 k hk with e | e
    · exact h.new.2.2.2 _ e
    · exact h.sub.noneAt e
theorem new7 (n : Int) (σ : Hp) : ACalls Try.prog 7 #[.int .i64 n] σ fun u σ' => ∃ m g, σ m = none ∧ σ g = none ∧ ¬ g = m ∧ u = .pointer (some ⟨g, 0, none⟩) ∧ σ' = upd (upd σ m (.mp [])) g (.cells [.map (some m), .int .i64 (mnI (mxI n 1) 64), .int .i64 0] 100) := by
  (refine acalls_F ok7 (by simp) ?_; unfold c7 r7)
  (repeat' (first | (simp +contextual -dsimp only [*, Fct.cells, noF, ↓reduceIte, ↓evP, evQ, splice, Nat.reduceAdd, Nat.reduceEqDiff, Nat.reduceLeDiff, Nat.reduceMul, reduceCtorEq, Int.reduceLT, Int.reduceLE, Int.reduceGT, Int.reduceGE, Int.reduceEq, Int.reduceNeg]) | (refine condF_split (fun hc => ?_) (fun hc => ?_) <;> (try simp only [Bool.not_eq_true', Bool.not_eq_false', Bool.and_eq_true, Bool.or_eq_false_iff] at hc)) | (intro _; intros) | (refine And.intro ?_ ?_; focus (first | omega | ((repeat (first | exact Sub.refl _ | (refine Sub.drop ?_ ?_; focus (simp only [evN, *]; done)) | refine Sub.both ?_)); done) | (simp_all; done) | (simp_all; omega)))))
  rename_i m hm g n1 n2 hg
  exact endF_at ⟨m, g, hm, hg, n1, rfl, rfl⟩
theorem new8 (σ : Hp) : ACalls Try.prog 8 #[] σ fun u σ' => ∃ g, σ g = none ∧ u = .pointer (some ⟨g, 0, none⟩) ∧ σ' = upd σ g (.cells [.slice none 0 0] 102) := by
  (refine acalls_F ok8 (by simp) ?_; unfold c8 r8)
  (repeat' (first | (simp +contextual -dsimp only [*, Fct.cells, noF, ↓reduceIte, ↓evP, evQ, splice, Nat.reduceAdd, Nat.reduceEqDiff, Nat.reduceLeDiff, Nat.reduceMul, reduceCtorEq, Int.reduceLT, Int.reduceLE, Int.reduceGT, Int.reduceGE, Int.reduceEq, Int.reduceNeg]) | (refine condF_split (fun hc => ?_) (fun hc => ?_) <;> (try simp only [Bool.not_eq_true', Bool.not_eq_false', Bool.and_eq_true, Bool.or_eq_false_iff] at hc)) | (intro _; intros) | (refine And.intro ?_ ?_; focus (first | omega | ((repeat (first | exact Sub.refl _ | (refine Sub.drop ?_ ?_; focus (simp only [evN, *]; done)) | refine Sub.both ?_)); done) | (simp_all; done) | (simp_all; omega)))))
  rename_i g hg
  exact endF_at ⟨g, hg, rfl, rfl⟩
theorem WL.new_ {σ : Hp} {g m gl : Nat} (hm : σ m = none) (hg : σ g = none) (hgm : ¬ g = m) (hl : upd (upd σ m (.mp [])) g (.cells [.map (some m), .int .i64 64, .int .i64 0] 100) gl = none) :
    WL σ (upd (upd (upd σ m (.mp [])) g (.cells [.map (some m), .int .i64 64, .int .i64 0] 100)) gl (.cells [.slice none 0 0] 102)) g m gl (.slice none 0 0) [] [] := by
  have hl' := hl
  simp only [none_upd] at hl'
  obtain ⟨⟨a1, a2⟩, ⟨a3, a4⟩, a5⟩ := hl'
  refine ⟨⟨?_, [], ?_, fun k => ⟨.slice none 0 0, rfl, .inl ⟨rfl, rfl⟩⟩⟩, ⟨upd_same _ _ _, [], .inl ⟨rfl, rfl⟩, rfl, fun i x l h => by simp at h⟩, Sub.drop a5 (Sub.drop hg (Sub.drop hm (Sub.refl _))), hg, hm, a5, fun k hk => by cases hk⟩
  · simp only [upd_at, *, ↓reduceIte]; rfl
  · simp only [upd_at, *, ↓reduceIte]
    rw [if_neg (fun e => hgm e.symm)]
end Go.Proofs.Ytpnghjmphbhkjaa
