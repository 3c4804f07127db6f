/- Versions of a key: rows that begin somewhere in their block; cloned. -/
import Derived.Test.YtpnghjmphbhkjaaX11
namespace Go.Proofs.Ytpnghjmphbhkjaa
open Go.Sp
set_option linter.unusedSimpArgs false
set_option linter.unusedVariables false
/-- The slice v holds the list l: nil, or the end of a row. -/
def RowsOff {α : Type} (E sz : Nat) (f : α → List Value) (σ : Hp) (v : Value) (l : List α) : Prop :=
  (v = .slice none 0 0 ∧ l = []) ∨ ∃ b pre c, v = .slice (some ⟨b, pre.length, none⟩) l.length c ∧ l.length ≤ c ∧ σ b = some (.row (pre ++ l.flatMap f) (pre.length + c * sz) E)
theorem RowsOff.of {α : Type} {E sz : Nat} {f : α → List Value} {σ : Hp} {v : Value} {l : List α} (h : RowsAt E sz f σ v l) : RowsOff E sz f σ v l := by
  rcases h with h | ⟨b, c, rfl, hc, hb⟩
  · exact .inl h
  · exact .inr ⟨b, [], c, rfl, hc, by simpa using hb⟩
theorem RowsOff.ro {α : Type} {E sz : Nat} {f : α → List Value} (hf : ∀ x, (f x).length = sz) {σ : Hp} {v : Value} {l : List α} (h : RowsOff E sz f σ v l) : RoRows sz f σ v l := by
  rcases h with ⟨rfl, rfl⟩ | ⟨b, pre, c, rfl, hc, hb⟩
  · exact ⟨none, 0, rfl, fun i x hx => by simp at hx⟩
  · refine ⟨some ⟨b, pre.length, none⟩, c, rfl, fun i x hx => ⟨b, pre.length, rfl, ?_⟩⟩
    unfold rdn
    rw [hb]
    show seg _ (pre.length + i * sz) sz = _
    obtain ⟨A, B, h1, h2⟩ := flat_split hf hx
    rw [h1, ← List.append_assoc, ← List.append_assoc, ← h2, ← List.length_append]
    have := seg_mid (pre ++ A) (f x) B 0 sz (by rw [hf]; omega)
    rw [Nat.add_zero] at this
    rw [this]
    have e := seg_all (f x)
    rw [hf] at e
    exact e
theorem RowsOff.keep {α : Type} {E sz : Nat} {f : α → List Value} {σ σ' : Hp} {v : Value} {l : List α} (h : RowsOff E sz f σ v l) (hk : ∀ k, blk v = some k → σ' k = σ k) : RowsOff E sz f σ' v l := by
  rcases h with h | ⟨b, pre, c, rfl, hc, hb⟩
  · exact .inl h
  · exact .inr ⟨b, pre, c, rfl, hc, by rw [hk b rfl]; exact hb⟩
theorem RowsOff.same {α : Type} {E sz : Nat} {f : α → List Value} {σ σ' : Hp} {v : Value} {l : List α} {F : Nat → Prop} (h : RowsOff E sz f σ v l) (hs : Same F σ σ') (hF : ∀ k cs r, F k → σ k = some (.row cs r E) → False) : RowsOff E sz f σ' v l :=
  h.keep fun k hk => by
    rcases h with ⟨rfl, _⟩ | ⟨b, pre, c, rfl, _, hb⟩
    · cases hk
    · cases hk; exact hs _ (by rw [hb]; simp) fun hf => hF _ _ _ hf hb
theorem RowsOff.fresh {α : Type} {E sz : Nat} {f : α → List Value} {σ : Hp} {v : Value} {l : List α} (h : RowsOff E sz f σ v l) {b : Nat} (hb : σ b = none) (o : Blk) : RowsOff E sz f (upd σ b o) v l :=
  h.keep fun k hk => upd_ne _ _ fun e => by
    subst e
    rcases h with ⟨rfl, _⟩ | ⟨b, pre, c, rfl, _, hb'⟩
    · cases hk
    · cases hk; rw [hb] at hb'; cases hb'
theorem RowsOff.slice {α : Type} {E sz : Nat} {f : α → List Value} {σ : Hp} {v : Value} {l : List α} (h : RowsOff E sz f σ v l) : ∃ a c, v = .slice a l.length c := by
  rcases h with ⟨rfl, rfl⟩ | ⟨b, pre, c, rfl, _, _⟩
  · exact ⟨_, _, rfl⟩
  · exact ⟨_, _, rfl⟩
/-- The end of it, from place i on. -/
theorem RowsOff.drop {α : Type} {E sz : Nat} {f : α → List Value} (hf : ∀ x, (f x).length = sz) {σ : Hp} {b o n c : Nat} {l : List α} (h : RowsOff E sz f σ (.slice (some ⟨b, o, none⟩) n c) l) (i : Nat) (hi : i < n) : RowsOff E sz f σ (.slice (some ⟨b, o + i * sz, none⟩) (n - i) (c - i)) (l.drop i) := by
  rcases h with ⟨e, _⟩ | ⟨b', pre, c', e, hc, hb⟩
  · cases e
  · injection e with e1 e2 e3
    injection e1 with e1; injection e1 with e1 e4
    subst e1; subst e2; subst e3; subst e4
    have hlen : (pre ++ (l.take i).flatMap f).length = pre.length + i * sz := by rw [List.length_append, flat_len hf, List.length_take, Nat.min_eq_left (by omega)]
    refine .inr ⟨b, pre ++ (l.take i).flatMap f, c - i, by rw [hlen, List.length_drop], by rw [List.length_drop]; omega, ?_⟩
    rw [hlen, hb]
    congr 2
    · rw [List.append_assoc, ← List.flatMap_append, List.take_append_drop]
    · rw [Nat.sub_mul]
      have : i * sz ≤ c * sz := Nat.mul_le_mul_right _ (by omega)
      omega
theorem clone42 {σ : Hp} {v : Value} {l : List Ver} (h : RowsOff 109 3 Ver.cells σ v l) (hn : l.length ≤ 1048576) :
    ACalls Try.prog 42 #[v] σ fun u σ' => RowsAt 109 3 Ver.cells σ' u l ∧ Made σ σ' u := by
  have hro := h.ro Ver.cells_len
  rcases h with ⟨rfl, rfl⟩ | ⟨b, pre, c, rfl, hc, hb⟩
  · (refine acalls_F ok42 (by simp) ?_; unfold c42 r42; simp +contextual -dsimp only [↓reduceIte, ↓evP, evQ, splice, Nat.reduceAdd, Nat.reduceEqDiff, Nat.reduceLeDiff, Nat.reduceMul, reduceCtorEq, Int.reduceLT, Int.reduceLE, Int.reduceGT, Int.reduceGE, Int.reduceEq, Int.reduceNeg])
    exact endF_at ⟨.inl ⟨rfl, rfl⟩, Made.nil _⟩
  · have hrd : rdn σ b pre.length (l.length * 3) = some (l.flatMap Ver.cells) := by
      unfold rdn; rw [hb]
      have := seg_mid pre (l.flatMap Ver.cells) [] 0 (l.length * 3) (by rw [flat_len Ver.cells_len]; omega)
      rw [Nat.add_zero, List.append_nil] at this
      show seg _ _ _ = _
      rw [this]
      have e := seg_all (l.flatMap Ver.cells)
      rw [flat_len Ver.cells_len] at e
      exact e
    have hone : (l.flatMap Ver.cells).all Go.Sp.one = true := flat_one (fun _ => rfl) _
    clear hb hro
    (refine acalls_F ok42 (by simp) ?_; unfold c42 r42)
    (repeat' (first | (simp +contextual -dsimp only [*, ↓reduceIte, ↓evP, evQ, splice, Nat.reduceAdd, Nat.reduceEqDiff, Nat.reduceLeDiff, Nat.reduceMul, reduceCtorEq, Int.reduceLT, Int.reduceLE, Int.reduceGT, Int.reduceGE, Int.reduceEq, Int.reduceNeg]) | (refine condF_split (fun hc => ?_) (fun hc => ?_) <;> (try simp only [Bool.not_eq_true', Bool.not_eq_false', Bool.and_eq_true, Bool.or_eq_false_iff] at hc)) | (intro _; intros) | (refine And.intro ?_ ?_; focus (first | omega | ((repeat (first | exact Sub.refl _ | (refine Sub.drop ?_ ?_; focus (simp only [evN, *]; done)) | refine Sub.both ?_)); done) | (simp_all; done) | (simp_all; omega)))))
    rename_i b2 hb2
    refine app_b (rdn_sub (Sub.drop hb2 (Sub.refl _)) hrd) hone (by first | (simp only [upd_at, *, ↓reduceIte]; done) | (simp only [upd_at, *, ↓reduceIte]; rfl)) rfl (by omega) (by omega) (by unfold maxLen; omega) ?_ ?_
    all_goals (repeat' (first | (simp +contextual -dsimp only [*, ↓reduceIte, ↓evP, evQ, splice, Nat.reduceAdd, Nat.reduceEqDiff, Nat.reduceLeDiff, Nat.reduceMul, reduceCtorEq, Int.reduceLT, Int.reduceLE, Int.reduceGT, Int.reduceGE, Int.reduceEq, Int.reduceNeg]) | (refine condF_split (fun hc => ?_) (fun hc => ?_) <;> (try simp only [Bool.not_eq_true', Bool.not_eq_false', Bool.and_eq_true, Bool.or_eq_false_iff] at hc)) | (intro _; intros) | (refine And.intro ?_ ?_; focus (first | omega | ((repeat (first | exact Sub.refl _ | (refine Sub.drop ?_ ?_; focus (simp only [evN, *]; done)) | refine Sub.both ?_)); done) | (simp_all; done) | (simp_all; omega)))))
    all_goals (refine endF_at ⟨?_, ?_, ?_⟩; (focus exact rows_mk (by simp) (by omega) (by first | (simp only [upd_at, *, ↓reduceIte, List.nil_append]; done) | (simp only [upd_at, *, ↓reduceIte, List.nil_append]; rfl))); (focus exact (by repeat (first | exact Same.refl _ _ | (refine Same.updNew ?_ ?_; focus (simp only [evN, *]; done)) | (refine Same.both ?_ ?_; focus (first | exact rfl | exact .inl rfl | exact .inr rfl)) | (refine Same.updIn ?_ ?_; focus (first | exact rfl | exact .inl rfl | exact .inr rfl)) | refine Same.eq ?_))); (focus (intro k hk; cases hk; exact (by simp only [evN, *]; done))))
end Go.Proofs.Ytpnghjmphbhkjaa
