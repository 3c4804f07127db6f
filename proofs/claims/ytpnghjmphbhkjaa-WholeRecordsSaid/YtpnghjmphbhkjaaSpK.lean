/- More words on slices that hold lists. -/
import Derived.Test.YtpnghjmphbhkjaaSpJ
namespace Go.Sp
theorem RowsAt.subK {α : Type} {E sz : Nat} {f : α → List Value} {σ σ' : Hp} {v : Value} {l : List α} (h : RowsAt E sz f σ v l) (hs : Sub σ σ') : RowsAt E sz f σ' v l := by
  rcases h with h | ⟨b, c, rfl, hc, hb⟩
  · exact .inl h
  · refine .inr ⟨b, c, rfl, hc, ?_⟩
    rcases hs b with e | e
    · rw [hb] at e; cases e
    · rw [← e]; exact hb
theorem RowsAt.known {α : Type} {E sz : Nat} {f : α → List Value} {σ : Hp} {v : Value} {l : List α} (h : RowsAt E sz f σ v l) {k : Nat} (hk : blk v = some k) : σ k ≠ none := by
  rcases h with ⟨rfl, _⟩ | ⟨b, c, rfl, _, hb⟩
  · cases hk
  · cases hk; rw [hb]; simp
theorem splice_nil (cs : List Value) (o : Nat) : splice cs o [] = cs := by simp [splice]
theorem splice_zero (c v : Value) (cs vs : List Value) : splice (c :: cs) 0 (v :: vs) = v :: splice cs 0 vs := by simp [splice, Nat.add_comm]
theorem splice_skip (c : Value) (cs vs : List Value) (o : Nat) : splice (c :: cs) (o + 1) vs = c :: splice cs o vs := by
  simp only [splice, List.take_succ_cons, List.cons_append]
  rw [show o + 1 + vs.length = (o + vs.length) + 1 by omega, List.drop_succ_cons]
theorem splice_flat {α : Type} {f : α → List Value} {sz : Nat} (hf : ∀ x, (f x).length = sz) {l : List α} {i : Nat} (hi : i < l.length) (y : α) : splice (l.flatMap f) (i * sz) (f y) = (l.set i y).flatMap f := by
  have e : l = l.take i ++ l[i] :: l.drop (i + 1) := by rw [← List.drop_eq_getElem_cons hi, List.take_append_drop]
  have hl : ((l.take i).flatMap f).length = i * sz := by rw [flat_len hf, List.length_take, Nat.min_eq_left (by omega)]
  have e2 : l.set i y = l.take i ++ y :: l.drop (i + 1) := by rw [List.set_eq_take_append_cons_drop, if_pos hi]
  rw [e2]
  conv => lhs; rw [e]
  rw [List.flatMap_append, List.flatMap_cons, List.flatMap_append, List.flatMap_cons]
  unfold splice
  rw [← hl, List.take_left, List.append_assoc, List.drop_append, List.drop_of_length_le (by omega), List.nil_append, Nat.add_sub_cancel_left, hf, ← hf l[i], List.drop_left]
theorem Sub.swap {σ τ : Hp} {b : Nat} {o : Blk} (h : Sub σ (upd τ b o)) (hb : σ b = none) (o' : Blk) : Sub σ (upd τ b o') := fun k => by
  by_cases e : k = b
  · subst e; exact .inl hb
  · have := h k
    rw [upd_ne _ _ e] at this ⊢
    exact this
end Go.Sp
