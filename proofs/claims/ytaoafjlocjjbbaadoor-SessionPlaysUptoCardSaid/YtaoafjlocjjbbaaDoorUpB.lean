/- What the second form's bound says of a slice's length. -/
import Derived.Test.YtaoafjlocjjbbaaDoorRows
import Derived.Test.YtaoafjlocjjbbaaDoorSpO
namespace Go.Proofs.YtaoafjlocjjbbaaDoor
theorem bulk_one {H : Type} (d : DataW H) : 1 ≤ Rows.uptoBulk d := by
  cases d with
  | lit l => cases l <;> simp [Rows.uptoBulk]
  | nil => simp [Rows.uptoBulk]
  | ptr d => simp [Rows.uptoBulk]
  | slice elems spare => simp [Rows.uptoBulk]
  | agg parts => simp [Rows.uptoBulk]
  | iface t d => simp [Rows.uptoBulk]
  | map entries => simp [Rows.uptoBulk]
  | held h => simp [Rows.uptoBulk]
theorem bulk_len {H : Type} : ∀ l : List (DataW H), l.length ≤ Rows.uptoBulkAll l
  | [] => by simp [Rows.uptoBulkAll]
  | x :: r => by have := bulk_one x; have := bulk_len r; simp only [Rows.uptoBulkAll, List.length_cons]; omega
theorem slice_bulk {H : Type} {enc : TypeId × Value → H} {P : Program} {w : World} {base : Nat} {sp : Nat → Bool} {held : Bool} {t e : TypeId} {A : Option Addr} {n c : Nat} {d : DataW H} {p : List MemPlace}
    (ht : P.underlying t = some (.slice e)) (h : DataW.Trod enc P w base sp held t (.slice A n c) d p) : n ≤ Rows.uptoBulk d := by
  obtain ⟨fuel, hf⟩ := h
  rcases DataW.trod_slice ht hf with ⟨h1, h2⟩ | ⟨a, len, cap, elems, rest, m, _, h1, h2, _, _, _, hl, _, _, _⟩
  · simp [Value.cells] at h1
    rw [h1.2.1]; exact Nat.zero_le _
  · simp [Value.cells] at h1
    obtain ⟨rfl, rfl, rfl⟩ := h1
    cases h2
    have := bulk_len (elems.map (·.1))
    rw [List.length_map, hl] at this
    simp only [Rows.uptoBulk]
    omega
end Go.Proofs.YtaoafjlocjjbbaaDoor
