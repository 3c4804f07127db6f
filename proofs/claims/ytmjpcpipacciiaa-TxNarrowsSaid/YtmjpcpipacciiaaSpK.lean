/- More words on slices that hold lists. -/
import Derived.Test.YtmjpcpipacciiaaSpJ
namespace Go.Sp
theorem RowsAt.subK {α : Type} {E sz : Nat} {f : α → List Value} {σ σ' : Hp} {v : Value} {l : List α} (h : RowsAt E sz f σ v l) (hs : Sub σ σ') : RowsAt E sz f σ' v l := by
  rcases h with h | ⟨b, c, rfl, hc, hb⟩
  · exact .inl h
  · refine .inr ⟨b, c, rfl, hc, ?_⟩
    rcases hs b with e | e
    · rw [hb] at e; cases e
    · rw [← e]; exact hb
theorem RowsAt.known {α : Type} {E sz : Nat} {f : α → List Value} {σ : Hp} {v : Value} {l : List α} (h : RowsAt E sz f σ v l) {k : Nat} (hk : blk v = some k) : σ k ≠ none := by
  rcases h with ⟨rfl, _⟩ | ⟨b, c, rfl, _, hb⟩
  · cases hk
  · cases hk; rw [hb]; simp
end Go.Sp
