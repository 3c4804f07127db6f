/- Slices of slices, opened. -/
import Derived.Test.YtpnghjmphbhkjaaX18
import Derived.Test.YtpnghjmphbhkjaaSpO
namespace Go.Proofs.Ytpnghjmphbhkjaa
open Go.Sp Go.Sp.Open
theorem list_of {P : Nat → Value → Prop} : ∀ (n : Nat), (∀ i, i < n → ∃ v, P i v) → ∃ vs : List Value, vs.length = n ∧ ∀ (i : Nat) v, vs[i]? = some v → P i v
  | 0, _ => ⟨[], rfl, fun i v h => by simp at h⟩
  | n + 1, h => by
    obtain ⟨vs, h1, h2⟩ := list_of n fun i hi => h i (by omega)
    obtain ⟨v, hv⟩ := h n (by omega)
    refine ⟨vs ++ [v], by simp [h1], fun i x hx => ?_⟩
    by_cases hi : i < n
    · rw [List.getElem?_append_left (by omega)] at hx; exact h2 i x hx
    · have := (List.getElem?_eq_some_iff.1 hx).1
      simp at this
      have e : i = n := by omega
      subst e
      rw [List.getElem?_append_right (by omega), h1] at hx
      simp at hx; subst hx; exact hv
theorem ro_lists_of {α : Type} {n : Nat} {f : α → List Value} {w : World} {A : Option Addr} {c : Nat} {L : List (List α)} (hn : 0 < n) (h : (Kd.slice (Kd.of n f)).C w A L) :
    ∀ (i : Nat) ws, L[i]? = some ws → ∃ b o x, A = some ⟨b, o, none⟩ ∧ rd (full w) b (o + i * 1) = some x ∧ RoRows n f (full w) x ws := by
  obtain ⟨vs, h1, h2⟩ := list_of (P := fun i v => ∃ ws, L[i]? = some ws ∧ (Kd.slice (Kd.of n f)).K w ws [v] ∧ ∃ a, A = some a ∧ w.cell? (a.add (i * 1 + 0)) = some v) L.length fun i hi => by
    obtain ⟨a, rfl, cs, hl, hk, hc⟩ := h i _ (List.getElem?_eq_getElem hi)
    obtain ⟨A', c', rfl, h3, h4⟩ := hk
    exact ⟨_, _, List.getElem?_eq_getElem hi, ⟨A', c', rfl, h3, h4⟩, a, rfl, hc 0 _ rfl⟩
  have hC : (Kd.of 1 vC).C w A vs := fun j x hx => by
    obtain ⟨ws, _, _, a, e, hc⟩ := h2 j x hx
    exact ⟨a, e, _, rfl, rfl, fun i u hu => by
      cases i with
      | zero => cases hu; exact hc
      | succ i => cases hu⟩
  have hro := ro_rows (c := 0) (by decide) hC
  intro i ws hws
  have hi : i < vs.length := by rw [h1]; exact (List.getElem?_eq_some_iff.1 hws).1
  obtain ⟨ws', e1, ⟨A', c', e2, h3, h4⟩, _⟩ := h2 i _ (List.getElem?_eq_getElem hi)
  rw [hws] at e1; cases e1
  obtain ⟨b, o, e3, h5⟩ := hro.get hi
  have e2 := (List.cons.inj e2).1
  rw [e2] at h5
  exact ⟨b, o, _, e3, rd_of_rdn h5, ro_rows hn h4⟩
theorem ro_lists {w : World} {A : Option Addr} {c : Nat} {L : List (List Wr)} (h : (Kd.slice (Kd.of 3 Wr.cells)).C w A L) (hs : ∀ ws ∈ L, ws.length * 40 ≤ 140737488351232) : ListsAt (full w) (.slice A L.length c) L :=
  ⟨A, c, rfl, fun i ws hws => by
    obtain ⟨b, o, x, h1, h2, h3⟩ := ro_lists_of (c := c) (by decide) h i ws hws
    have := hs ws (List.mem_of_getElem? hws)
    exact ⟨b, o, x, h1, h2, h3, by omega⟩⟩
end Go.Proofs.Ytpnghjmphbhkjaa
