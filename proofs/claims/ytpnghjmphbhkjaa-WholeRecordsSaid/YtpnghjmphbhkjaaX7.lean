/- A list of texts cloned; a record appended to the stream. -/
import Derived.Test.YtpnghjmphbhkjaaX6
namespace Go.Proofs.Ytpnghjmphbhkjaa
open Go.Sp
set_option linter.unusedSimpArgs false
set_option linter.unusedVariables false
theorem _root_.Go.Sp.seg_add {cs xs ys : List Value} {o n m : Nat} (h1 : seg cs o n = some xs) (h2 : seg cs (o + n) m = some ys) : seg cs o (n + m) = some (xs ++ ys) := by
  unfold seg at *
  split at h1
  · split at h2
    · cases h1; cases h2
      rw [if_pos (by omega), List.take_add, List.drop_drop]
    · cases h2
  · cases h1
theorem _root_.Go.Sp.rdn_add {σ : Hp} {b o n m : Nat} {xs ys : List Value} (h1 : rdn σ b o n = some xs) (h2 : rdn σ b (o + n) m = some ys) : rdn σ b o (n + m) = some (xs ++ ys) := by
  unfold rdn at *
  generalize σ b = q at *
  split at h1
  · exact seg_add h1 h2
  · exact seg_add h1 h2
  · exact seg_add h1 h2
  · cases h1
theorem _root_.Go.Sp.ro_whole {α : Type} {sz : Nat} {f : α → List Value} {σ : Hp} {b : Nat} : ∀ (l : List α) (o : Nat), l ≠ [] → (∀ i x, l[i]? = some x → rdn σ b (o + i * sz) sz = some (f x)) → rdn σ b o (l.length * sz) = some (l.flatMap f)
  | [], _, h, _ => absurd rfl h
  | [x], o, _, h => by
    have := h 0 x rfl
    simpa using this
  | x :: y :: r, o, _, h => by
    have h0 := h 0 x rfl
    have ih := ro_whole (σ := σ) (b := b) (f := f) (sz := sz) (y :: r) (o + sz) (by simp) (fun i z hz => by
      have := h (i + 1) z (by simpa using hz)
      rw [show o + (i + 1) * sz = o + sz + i * sz by rw [Nat.add_mul]; omega] at this
      exact this)
    have h0 : rdn σ b o sz = some (f x) := by simpa using h0
    have := rdn_add h0 ih
    rw [show (x :: y :: r).length * sz = sz + (y :: r).length * sz by simp only [List.length_cons, Nat.add_mul]; omega]
    exact this
/-- Rows that are only read, read whole. -/
theorem _root_.Go.Sp.RoRows.whole {α : Type} {sz : Nat} {f : α → List Value} {σ : Hp} {v : Value} {l : List α} (h : RoRows sz f σ v l) (h0 : l ≠ []) : ∃ b o c, v = .slice (some ⟨b, o, none⟩) l.length c ∧ rdn σ b o (l.length * sz) = some (l.flatMap f) := by
  obtain ⟨A, c, rfl, hrow⟩ := h
  obtain ⟨b, off, rfl, _⟩ := hrow 0 (l[0]'(List.length_pos_iff.2 h0)) (List.getElem?_eq_getElem _)
  exact ⟨b, off, c, rfl, ro_whole l off h0 fun i x hx => by
    obtain ⟨b', o', e, h⟩ := hrow i x hx
    cases e; exact h⟩
theorem _root_.Go.Sp.flat_one {α : Type} {f : α → List Value} (hf : ∀ x, (f x).all Go.Sp.one = true) : ∀ (l : List α), (l.flatMap f).all Go.Sp.one = true
  | [] => rfl
  | w :: r => by rw [List.flatMap_cons, List.all_append, flat_one hf r, hf]; rfl
theorem _root_.Go.Sp.RowsAt.apart {α β : Type} {E E' sz sz' : Nat} {f : α → List Value} {f' : β → List Value} {σ : Hp} {v v' : Value} {l : List α} {l' : List β} (h : RowsAt E sz f σ v l) (h' : RowsAt E' sz' f' σ v' l') (hE : E ≠ E') {k : Nat} (hk : blk v = some k) : blk v' ≠ some k := fun e => by
  rcases h with ⟨rfl, _⟩ | ⟨b, c, rfl, _, hb⟩
  · cases hk
  · rcases h' with ⟨rfl, _⟩ | ⟨b', c', rfl, _, hb'⟩
    · cases e
    · cases hk; cases e
      rw [hb] at hb'
      exact hE (Blk.row.inj (Option.some.inj hb')).2.2
theorem clone44 {σ : Hp} {v : Value} {ks : List ByteArray} (hv : RoRows 1 sC σ v ks) (h0 : ks ≠ []) (hn : ks.length ≤ 1048576) :
    ACalls Try.prog 44 #[v] σ fun u σ' => ∃ b c, σ b = none ∧ ks.length ≤ c ∧ u = .slice (some ⟨b, 0, none⟩) ks.length c ∧ σ' = upd σ b (.row (ks.flatMap sC) (c * 1) 9) := by
  obtain ⟨b, off, c, rfl, hrd⟩ := hv.whole h0
  have hone : (ks.flatMap sC).all Go.Sp.one = true := flat_one (fun _ => rfl) _
  (refine acalls_F ok44 (by simp) ?_; unfold c44 r44)
  (repeat' (first | (simp +contextual -dsimp only [*, ↓reduceIte, ↓evP, evQ, splice, Nat.reduceAdd, Nat.reduceEqDiff, Nat.reduceLeDiff, Nat.reduceMul, reduceCtorEq, Int.reduceLT, Int.reduceLE, Int.reduceGT, Int.reduceGE, Int.reduceEq, Int.reduceNeg]) | (refine condF_split (fun hc => ?_) (fun hc => ?_) <;> (try simp only [Bool.not_eq_true', Bool.not_eq_false', Bool.and_eq_true, Bool.or_eq_false_iff] at hc)) | (intro _; intros) | (refine And.intro ?_ ?_; focus (first | omega | ((repeat (first | exact Sub.refl _ | (refine Sub.drop ?_ ?_; focus (simp only [evN, *]; done)) | refine Sub.both ?_)); done) | (simp_all; done) | (simp_all; omega)))))
  rename_i b2 hb2
  refine app_b (rdn_sub (Sub.drop hb2 (Sub.refl _)) hrd) hone (by first | (simp only [upd_at, *, ↓reduceIte]; done) | (simp only [upd_at, *, ↓reduceIte]; rfl)) rfl (by omega) (by omega) (by unfold maxLen; omega) ?_ ?_
  all_goals (repeat' (first | (simp +contextual -dsimp only [*, ↓reduceIte, ↓evP, evQ, splice, Nat.reduceAdd, Nat.reduceEqDiff, Nat.reduceLeDiff, Nat.reduceMul, reduceCtorEq, Int.reduceLT, Int.reduceLE, Int.reduceGT, Int.reduceGE, Int.reduceEq, Int.reduceNeg]) | (refine condF_split (fun hc => ?_) (fun hc => ?_) <;> (try simp only [Bool.not_eq_true', Bool.not_eq_false', Bool.and_eq_true, Bool.or_eq_false_iff] at hc)) | (intro _; intros) | (refine And.intro ?_ ?_; focus (first | omega | ((repeat (first | exact Sub.refl _ | (refine Sub.drop ?_ ?_; focus (simp only [evN, *]; done)) | refine Sub.both ?_)); done) | (simp_all; done) | (simp_all; omega)))))
  · exact endF_sub (by first | exact Sub.refl _ | (repeat (first | exact Sub.refl _ | (refine Sub.drop ?_ ?_; focus (simp only [evN, *]; done)) | refine Sub.both ?_)); done) ⟨b2, _, hb2, (by omega), rfl, rfl⟩
  · exact endF_sub (by (repeat (first | exact Sub.refl _ | (refine Sub.drop ?_ ?_; focus (simp only [evN, *]; done)) | refine Sub.both ?_)); done) ⟨_, _, (by first | assumption | (simp only [evN, *]; done)), (by omega), rfl, rfl⟩
end Go.Proofs.Ytpnghjmphbhkjaa
