/- Rows appended to, whatever the heap beside them. -/
import Derived.Test.YtpnghjmphbhkjaaSpL
namespace Go.Sp
set_option linter.unusedSimpArgs false
set_option linter.unusedVariables false
/-- From σ to σ' nothing that was known has turned but the block of v; the block of v' is that of v or new. -/
structure Grew (σ : Hp) (v : Value) (σ' : Hp) (v' : Value) : Prop where
  same : Same (fun k => blk v = some k) σ σ'
  new : ∀ k, blk v' = some k → blk v = some k ∨ σ k = none
theorem app_rowv {α : Type} {E size bytes : Nat} {f : α → List Value} (hf : ∀ x, (f x).length = size) {K : Value → Hp → Prop} {σ : Hp} {δ} {v : Value} {l : List α} (hv : RowsAt E size f σ v l) {b off m c : Nat} {ys : List α} (h1 : (ys.flatMap f).all one = true)
    (hy : rdn σ b off (m * size) = some (ys.flatMap f)) (hm : ys.length = m) (hm0 : 0 < m) (hb : (l.length + m) * bytes ≤ 140737488355328) (hl : l.length + m ≤ maxLen)
    (hk : ∀ v' σ', RowsAt E size f σ' v' (l ++ ys) → Grew σ v σ' v' → K v' σ') : appF E size bytes v (.slice (some ⟨b, off, none⟩) m c) K σ δ := by
  rcases hv with ⟨rfl, rfl⟩ | ⟨g, cap, rfl, hcap, hg⟩
  · refine app_n hy h1 hm0 (by simpa using hb) (by simpa using hl) fun b' c' hb' hc' => hk _ _ ?_ ⟨?_, ?_⟩
    · exact .inr ⟨b', c', by simp [hm], by simp [hm]; exact hc', by simp [upd_same]⟩
    · exact Same.updNew hb' (Same.refl _ _)
    · intro k hk; cases hk; exact .inr hb'
  · refine app_b hy h1 hg (flat_len hf _) hcap hb hl (fun c' hc' => hk _ _ ?_ ⟨?_, ?_⟩) (fun b' c' hb' hc' => hk _ _ ?_ ⟨?_, ?_⟩)
    · refine .inr ⟨g, c', by simp [hm], by simp [hm]; exact hc', ?_⟩
      show upd σ g _ g = _
      rw [upd_same, List.flatMap_append]
    · exact Same.updIn (F := fun k => blk (.slice (some ⟨g, 0, none⟩) l.length cap) = some k) rfl (Same.refl _ _)
    · intro k hk; cases hk; exact .inl rfl
    · refine .inr ⟨b', c', by simp [hm], by simp [hm]; exact hc', ?_⟩
      rw [upd_same, List.flatMap_append]
    · exact Same.updNew hb' (Same.updIn (F := fun k => blk (.slice (some ⟨g, 0, none⟩) l.length cap) = some k) rfl (Same.refl _ _))
    · intro k hk; cases hk; exact .inr hb'
theorem app_row {α : Type} {E size bytes : Nat} {f : α → List Value} (hf : ∀ x, (f x).length = size) (hone : ∀ x, (f x).all one = true) {K : Value → Hp → Prop} {σ : Hp} {δ} {v : Value} {l : List α} (hv : RowsAt E size f σ v l) {b off m c : Nat} {ys : List α}
    (hy : rdn σ b off (m * size) = some (ys.flatMap f)) (hm : ys.length = m) (hm0 : 0 < m) (hb : (l.length + m) * bytes ≤ 140737488355328) (hl : l.length + m ≤ maxLen)
    (hk : ∀ v' σ', RowsAt E size f σ' v' (l ++ ys) → Grew σ v σ' v' → K v' σ') : appF E size bytes v (.slice (some ⟨b, off, none⟩) m c) K σ δ := by
  refine app_rowv hf hv ?_ hy hm hm0 hb hl hk
  clear hy hm hk
  induction ys with
  | nil => rfl
  | cons y r ih => rw [List.flatMap_cons, List.all_append, ih, hone]; rfl
theorem Grew.refl (σ : Hp) (v : Value) : Grew σ v σ v := ⟨Same.refl _ _, fun _ h => .inl h⟩
/-- A slice that lies in what is new since σ0 stays so. -/
theorem Made.grew {σ0 σ σ' : Hp} {v v' : Value} (h : Made σ0 σ v) (k : Grew σ v σ' v') : Made σ0 σ' v' :=
  ⟨h.1.trans k.same fun i hi hb => absurd (h.2 i hb) hi, fun i hi => by
    rcases k.new i hi with e | e
    · exact h.2 i e
    · exact h.old e⟩
theorem Made.nil (σ : Hp) : Made σ σ (.slice none 0 0) := ⟨Same.refl _ _, fun k hk => by cases hk⟩
/-- A block that is made anew beside. -/
theorem Made.beside {σ0 σ : Hp} {v : Value} (h : Made σ0 σ v) {b : Nat} (hb : σ b = none) (o : Blk) : Made σ0 (upd σ b o) v := h.grow hb o
end Go.Sp
