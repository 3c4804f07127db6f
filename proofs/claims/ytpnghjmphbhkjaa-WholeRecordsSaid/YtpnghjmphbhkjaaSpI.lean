/- Slices that hold a list, each element so many cells. -/
import Derived.Test.YtpnghjmphbhkjaaSpH
namespace Go.Sp
open Go.RowKit
set_option linter.unusedSimpArgs false
set_option linter.unusedVariables false
theorem seg_zero (cs : List Value) : seg cs 0 0 = some [] := by simp [seg]
theorem seg_cons (c : Value) (cs : List Value) (n : Nat) : seg (c :: cs) 0 (n + 1) = (seg cs 0 n).map (fun l => c :: l) := by
  simp only [seg, List.length_cons, Nat.zero_add, List.drop_zero, List.take_succ_cons]
  by_cases h : n ≤ cs.length
  · rw [if_pos h, if_pos (by omega)]; rfl
  · rw [if_neg h, if_neg (by omega)]; rfl
theorem seg_skip (c : Value) (cs : List Value) (o n : Nat) : seg (c :: cs) (o + 1) n = seg cs o n := by
  simp only [seg, List.length_cons, List.drop_succ_cons]
  by_cases h : o + n ≤ cs.length
  · rw [if_pos h, if_pos (by omega)]
  · rw [if_neg h, if_neg (by omega)]
theorem flat_len {α : Type} {f : α → List Value} {sz : Nat} (hf : ∀ x, (f x).length = sz) (l : List α) : (l.flatMap f).length = l.length * sz := by
  induction l with
  | nil => simp
  | cons a l ih => rw [List.flatMap_cons, List.length_append, hf, ih, List.length_cons, Nat.add_mul]; omega
theorem flat_split {α : Type} {f : α → List Value} {sz : Nat} (hf : ∀ x, (f x).length = sz) : ∀ {l : List α} {i : Nat} {x : α}, l[i]? = some x → ∃ A B, l.flatMap f = A ++ f x ++ B ∧ A.length = i * sz
  | a :: l, 0, x, h => by
    simp at h; subst h
    exact ⟨[], l.flatMap f, by simp, by simp⟩
  | a :: l, i + 1, x, h => by
    obtain ⟨A, B, h1, h2⟩ := flat_split hf (l := l) (i := i) (x := x) (by simpa using h)
    exact ⟨f a ++ A, B, by rw [List.flatMap_cons, h1]; simp, by rw [List.length_append, hf, h2, Nat.add_mul]; omega⟩
theorem seg_mid (A M B : List Value) (o n : Nat) (h : o + n ≤ M.length) : seg (A ++ M ++ B) (A.length + o) n = seg M o n := by
  unfold seg
  rw [if_pos (by simp; omega), if_pos h, List.append_assoc, List.drop_append, List.drop_of_length_le (by omega), List.nil_append, Nat.add_sub_cancel_left,
    List.drop_append_of_le_length (by omega), List.take_append_of_le_length (by rw [List.length_drop]; omega)]
theorem seg_flat {α : Type} {f : α → List Value} {sz : Nat} (hf : ∀ x, (f x).length = sz) {l : List α} {i : Nat} {x : α} (hx : l[i]? = some x) (o n : Nat) (h : o + n ≤ sz) : seg (l.flatMap f) (i * sz + o) n = seg (f x) o n := by
  obtain ⟨A, B, h1, h2⟩ := flat_split hf hx
  rw [h1, ← h2]
  exact seg_mid A _ B o n (by rw [hf]; exact h)
theorem get_flat {α : Type} {f : α → List Value} {sz : Nat} (hf : ∀ x, (f x).length = sz) {l : List α} {i : Nat} {x : α} (hx : l[i]? = some x) (o : Nat) (h : o < sz) : (l.flatMap f)[i * sz + o]? = (f x)[o]? := by
  obtain ⟨A, B, h1, h2⟩ := flat_split hf hx
  rw [h1, ← h2, List.append_assoc, List.getElem?_append_right (by omega), Nat.add_sub_cancel_left, List.getElem?_append_left (by rw [hf]; exact h)]
theorem seg_all (cs : List Value) : seg cs 0 cs.length = some cs := by simp [seg]
/-- The slice v holds the list l: nil, or a row of its own. -/
def RowsAt {α : Type} (E sz : Nat) (f : α → List Value) (σ : Hp) (v : Value) (l : List α) : Prop :=
  (v = .slice none 0 0 ∧ l = []) ∨ ∃ b c, v = .slice (some ⟨b, 0, none⟩) l.length c ∧ l.length ≤ c ∧ σ b = some (.row (l.flatMap f) (c * sz) E)
/-- A loop that leaves the heap as it is (but for what it makes and forgets), and the slots of L. -/
theorem loopF_keep {P : Program} {c : C} {Q : Exit → Sl → Hp → Prop} {s : Sl} {σ : Hp} {δ} (L : List Nat) (J : Nat → Sl → Prop) (k : Nat) (h0 : J k s)
    (h : ∀ k s', L.map s' = L.map s → J k s' → codeF P c (thn (fun s'' σ'' => nextF (fun k s' σ' => L.map s' = L.map s ∧ σ' = σ ∧ J k s') k s'' σ'' ⟨⟩) Q) s' σ ⟨⟩) : loopF P c Q s σ δ :=
  loopF_of (fun k s' σ' => L.map s' = L.map s ∧ σ' = σ ∧ J k s') k (Sub.refl _) ⟨rfl, rfl, h0⟩ fun k s' σ' ⟨h1, h2, h3⟩ => by subst h2; exact h k s' h1 h3
theorem keep_of {L : List Nat} {J : Nat → Sl → Prop} {s s' : Sl} {σ σ' : Hp} {k : Nat} (k' : Nat) (hk : k' < k) (hL : L.map s' = L.map s) (hs : Sub σ σ') (h : J k' s') {δ} : nextF (fun k s' σ' => L.map s' = L.map s ∧ σ' = σ ∧ J k s') k s' σ' δ :=
  ⟨k', hk, σ, hs, hL, rfl, h⟩
/-- Two known blocks of unlike form, laid open. -/
theorem open_two {σ : Hp} {g b : Nat} {A B : Blk} (hg : σ g = some A) (hb : σ b = some B) (hne : A ≠ B) : ∃ τ, σ = upd (upd τ b B) g A ∧ ¬ g = b ∧ ¬ b = g := by
  have h : ¬ g = b := fun e => by subst e; rw [hg] at hb; cases hb; exact hne rfl
  exact ⟨σ, by rw [upd_self hb, upd_self hg], h, fun e => h e.symm⟩
/-- A fact laid aside. -/
structure Hid (p : Prop) : Prop where
  out : p
theorem app_bn {E size bytes b n cap : Nat} {K : Value → Hp → Prop} {σ : Hp} {δ} (h : n ≤ cap) (hk : K (.slice (some ⟨b, 0, none⟩) n cap) σ) : appF E size bytes (.slice (some ⟨b, 0, none⟩) n cap) (.slice none 0 0) K σ δ :=
  .inl ⟨none, 0, 0, rfl, rfl, .inr ⟨b, n, cap, rfl, h, hk⟩⟩
theorem app_nn {E size bytes : Nat} {K : Value → Hp → Prop} {σ : Hp} {δ} (hk : K (.slice none 0 0) σ) : appF E size bytes (.slice none 0 0) (.slice none 0 0) K σ δ :=
  .inl ⟨none, 0, 0, rfl, rfl, .inl ⟨rfl, hk⟩⟩
theorem app_be {E size bytes b n cap c : Nat} {A : Option Addr} {K : Value → Hp → Prop} {σ : Hp} {δ} (h : n ≤ cap) (hk : K (.slice (some ⟨b, 0, none⟩) n cap) σ) : appF E size bytes (.slice (some ⟨b, 0, none⟩) n cap) (.slice A 0 c) K σ δ :=
  .inl ⟨A, 0, c, rfl, rfl, .inr ⟨b, n, cap, rfl, h, hk⟩⟩
theorem app_ne {E size bytes c : Nat} {A : Option Addr} {K : Value → Hp → Prop} {σ : Hp} {δ} (hk : K (.slice none 0 0) σ) : appF E size bytes (.slice none 0 0) (.slice A 0 c) K σ δ :=
  .inl ⟨A, 0, c, rfl, rfl, .inl ⟨rfl, hk⟩⟩
/-- Something appended to nil. -/
theorem app_n {E size bytes b off m c : Nat} {ys : List Value} {K : Value → Hp → Prop} {σ : Hp} {δ} (hy : rdn σ b off (m * size) = some ys) (h1 : ys.all one = true) (hm : 0 < m) (hb : m * bytes ≤ 140737488355328) (hl : m ≤ maxLen)
    (hk : ∀ b' c', σ b' = none → m ≤ c' → K (.slice (some ⟨b', 0, none⟩) m c') (upd σ b' (.row ys (c' * size) E))) : appF E size bytes (.slice none 0 0) (.slice (some ⟨b, off, none⟩) m c) K σ δ :=
  .inr ⟨b, off, m, c, ys, rfl, hy, h1, .inr (.inl ⟨hm, rfl, hb, hl, hk⟩)⟩
theorem app_n0 {E size bytes b off c : Nat} {K : Value → Hp → Prop} {σ : Hp} {δ} (hy : rdn σ b off 0 = some []) (hk : K (.slice none 0 0) σ) : appF E size bytes (.slice none 0 0) (.slice (some ⟨b, off, none⟩) 0 c) K σ δ :=
  .inr ⟨b, off, 0, c, [], rfl, by rw [Nat.zero_mul]; exact hy, rfl, .inl ⟨rfl, rfl, hk⟩⟩
/-- Something appended to a row: in its room, or to a copy of it. -/
theorem app_b {E size bytes b off m c g n cap : Nat} {xs ys : List Value} {K : Value → Hp → Prop} {σ : Hp} {δ} (hy : rdn σ b off (m * size) = some ys) (h1 : ys.all one = true) (hx : σ g = some (.row xs (cap * size) E)) (hxl : xs.length = n * size) (hn : n ≤ cap)
    (hb : (n + m) * bytes ≤ 140737488355328) (hl : n + m ≤ maxLen)
    (hk1 : ∀ c', n + m ≤ c' → K (.slice (some ⟨g, 0, none⟩) (n + m) c') (set σ g (.row (xs ++ ys) (c' * size) E)))
    (hk2 : ∀ b' c', σ b' = none → n + m ≤ c' → K (.slice (some ⟨b', 0, none⟩) (n + m) c') (upd (set σ g .dead) b' (.row (xs ++ ys) (c' * size) E))) :
    appF E size bytes (.slice (some ⟨g, 0, none⟩) n cap) (.slice (some ⟨b, off, none⟩) m c) K σ δ := by
  refine .inr ⟨b, off, m, c, ys, rfl, hy, h1, .inr (.inr ⟨g, n, cap, xs, rfl, hx, hxl, hn, hb, hl, ?_⟩)⟩
  rintro b' c' (rfl | hn') hc
  · rw [upd_upd]; exact hk1 c' hc
  · exact hk2 b' c' hn' hc
/-- The block that a slice lies in. -/
def blk (v : Value) : Option Nat := match v with | .slice (some a) _ _ => some a.block | _ => none
theorem RowsAt.keep {α : Type} {E sz : Nat} {f : α → List Value} {σ σ' : Hp} {v : Value} {l : List α} (h : RowsAt E sz f σ v l) (hk : ∀ k, blk v = some k → σ' k = σ k) : RowsAt E sz f σ' v l := by
  rcases h with h | ⟨b, c, rfl, hc, hb⟩
  · exact .inl h
  · exact .inr ⟨b, c, rfl, hc, by rw [hk b rfl]; exact hb⟩
theorem rows_mk {α : Type} {E sz : Nat} {f : α → List Value} {σ : Hp} {b n c : Nat} {l : List α} (hl : l.length = n) (hc : n ≤ c) (hb : σ b = some (.row (l.flatMap f) (c * sz) E)) : RowsAt E sz f σ (.slice (some ⟨b, 0, none⟩) n c) l := by
  subst hl; exact .inr ⟨b, c, rfl, hc, hb⟩
/-- What was known and is not of F is as it was. -/
def Same (F : Nat → Prop) (σ σ' : Hp) : Prop := ∀ k, σ k ≠ none → ¬ F k → σ' k = σ k
theorem Same.refl (F : Nat → Prop) (σ : Hp) : Same F σ σ := fun _ _ _ => rfl
theorem Same.updNew {F : Nat → Prop} {σ σ' : Hp} {b : Nat} {o : Blk} (hb : σ b = none) (h : Same F σ σ') : Same F σ (upd σ' b o) := fun k hk hf => by
  rw [upd_ne _ _ (fun e => by subst e; exact hk hb)]; exact h k hk hf
theorem Same.updIn {F : Nat → Prop} {σ σ' : Hp} {b : Nat} {o : Blk} (hb : F b) (h : Same F σ σ') : Same F σ (upd σ' b o) := fun k hk hf => by
  rw [upd_ne _ _ (fun e => by subst e; exact hf hb)]; exact h k hk hf
theorem Same.both {F : Nat → Prop} {σ σ' : Hp} {b : Nat} {o o' : Blk} (hb : F b) (h : Same F σ σ') : Same F (upd σ b o) (upd σ' b o') := fun k hk hf => by
  have hne : k ≠ b := fun e => by subst e; exact hf hb
  rw [upd_ne _ _ hne] at hk ⊢
  rw [upd_ne _ _ hne]; exact h k hk hf
theorem Same.eq {F : Nat → Prop} {σ σ' : Hp} {b : Nat} {o : Blk} (h : Same F σ σ') : Same F (upd σ b o) (upd σ' b o) := fun k hk hf => by
  by_cases hne : k = b
  · subst hne; rw [upd_same, upd_same]
  · rw [upd_ne _ _ hne] at hk ⊢
    rw [upd_ne _ _ hne]; exact h k hk hf
theorem RowsAt.sameF {α : Type} {E sz : Nat} {f : α → List Value} {σ σ' : Hp} {v : Value} {l : List α} {F : Nat → Prop} (h : RowsAt E sz f σ v l) (hs : Same F σ σ') (hF : ∀ k, blk v = some k → ¬ F k) : RowsAt E sz f σ' v l :=
  h.keep fun k hk => hs k (by
    rcases h with ⟨rfl, _⟩ | ⟨b, c, rfl, _, hb⟩
    · cases hk
    · cases hk; rw [hb]; simp) (hF k hk)
theorem RowsAt.notCells {α : Type} {E sz : Nat} {f : α → List Value} {σ : Hp} {v : Value} {l : List α} (h : RowsAt E sz f σ v l) {g : Nat} {cs : List Value} {t : TypeId} (hg : σ g = some (.cells cs t)) : blk v ≠ some g := fun e => by
  rcases h with ⟨rfl, _⟩ | ⟨b, c, rfl, _, hb⟩
  · cases e
  · cases e; rw [hg] at hb; cases hb
theorem Same.trans {F G : Nat → Prop} {σ σ1 σ2 : Hp} (h : Same F σ σ1) (k : Same G σ1 σ2) (hG : ∀ i, σ i ≠ none → G i → F i) : Same F σ σ2 := fun i hi hf => by
  rw [k i (by rw [h i hi hf]; exact hi) (fun g => hf (hG i hi g)), h i hi hf]
theorem RowsAt.slice {α : Type} {E sz : Nat} {f : α → List Value} {σ : Hp} {v : Value} {l : List α} (h : RowsAt E sz f σ v l) : ∃ a c, v = .slice a l.length c := by
  rcases h with ⟨rfl, rfl⟩ | ⟨b, c, rfl, _, _⟩
  · exact ⟨_, _, rfl⟩
  · exact ⟨_, _, rfl⟩
theorem RowsAt.fresh {α : Type} {E sz : Nat} {f : α → List Value} {σ : Hp} {v : Value} {l : List α} (h : RowsAt E sz f σ v l) {b : Nat} (hb : σ b = none) (o : Blk) : RowsAt E sz f (upd σ b o) v l :=
  h.keep fun k hk => upd_ne _ _ fun e => by
    subst e
    rcases h with ⟨rfl, _⟩ | ⟨b, c, rfl, _, hb'⟩
    · cases hk
    · cases hk; rw [hb] at hb'; cases hb'
/-- Made anew: nothing that was known has turned, and v lies in what is new. -/
def Made (σ : Hp) (σ' : Hp) (v : Value) : Prop := Same (fun _ => False) σ σ' ∧ ∀ k, blk v = some k → σ k = none
theorem Made.sub {σ σ' : Hp} {v : Value} (h : Made σ σ' v) : Sub σ σ' := fun k => by
  by_cases e : σ k = none
  · exact .inl e
  · exact .inr (h.1 k e fun x => x).symm
theorem Made.old {σ σ' : Hp} {v : Value} (h : Made σ σ' v) {b : Nat} (hb : σ' b = none) : σ b = none := by
  rcases h.sub b with e | e
  · exact e
  · rw [e]; exact hb
theorem Made.grow {σ σ' : Hp} {v : Value} (h : Made σ σ' v) {b : Nat} (hb : σ' b = none) (o : Blk) : Made σ (upd σ' b o) v := ⟨h.1.updNew (h.old hb), h.2⟩
theorem mrg_first {σ σ₁ : Hp} (h : Sub σ σ₁) : mrg σ σ₁ σ = σ₁ := by
  funext k
  unfold mrg
  rcases h k with e | e
  · rw [e]; cases σ₁ k <;> rfl
  · rw [← e]; cases σ k <;> rfl
/-- A call that makes, first in a region that draws. -/
theorem gcallF_first {P : Program} {f : FuncId} {args : List Value} {σ : Hp} {R K : Value → Hp → Prop} {δ : Dep K} (h : ACalls P f args.toArray σ R) (hs : ∀ v σ₁, R v σ₁ → Sub σ σ₁) (hk : ∀ v σ₁, R v σ₁ → K v σ₁) : gcallF P f args σ σ K δ :=
  ⟨R, h, fun v σ₁ hr _ => ⟨hs v σ₁ hr, fun _ => by rw [mrg_first (hs v σ₁ hr)]; exact hk v σ₁ hr⟩⟩
/-- A slice that is only read: each element's cells. -/
def RoRows {α : Type} (sz : Nat) (f : α → List Value) (σ : Hp) (v : Value) (l : List α) : Prop :=
  ∃ A c, v = .slice A l.length c ∧ ∀ i x, l[i]? = some x → ∃ b o, A = some ⟨b, o, none⟩ ∧ rdn σ b (o + i * sz) sz = some (f x)
theorem RoRows.sub {α : Type} {sz : Nat} {f : α → List Value} {σ σ' : Hp} {v : Value} {l : List α} (h : RoRows sz f σ v l) (hs : Sub σ σ') : RoRows sz f σ' v l := by
  obtain ⟨A, c, rfl, h⟩ := h
  exact ⟨A, c, rfl, fun i x hx => by obtain ⟨b, o, e, k⟩ := h i x hx; exact ⟨b, o, e, rdn_sub hs k⟩⟩
end Go.Sp
