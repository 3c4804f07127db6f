/- Pure: the marks of a history, the ring that holds the newest. -/
import Derived.Test.YtpnghjmphbhkjaaX27
namespace Go.Proofs.Ytpnghjmphbhkjaa
open Go.Sp
set_option linter.unusedSimpArgs false
set_option linter.unusedVariables false
def marksF : Nat → List (List ByteArray) → List Mk
  | _, [] => []
  | n, ks :: r => ks.map (fun k => ⟨n, k⟩) ++ marksF (n + 1) r
theorem marksF_append : ∀ (A B : List (List ByteArray)) (n : Nat), marksF n (A ++ B) = marksF n A ++ marksF (n + A.length) B
  | [], B, n => rfl
  | a :: A, B, n => by
    show _ ++ marksF (n + 1) (A ++ B) = _
    rw [marksF_append A B (n + 1), show n + (a :: A).length = n + 1 + A.length by simp; omega, ← List.append_assoc]; rfl
theorem mem_marksF {m : Mk} : ∀ {H : List (List ByteArray)} {n : Nat}, m ∈ marksF n H → n ≤ m.n ∧ m.n < n + H.length
  | [], _, h => by cases h
  | ks :: r, n, h => by
    rcases List.mem_append.1 h with h | h
    · obtain ⟨k, _, rfl⟩ := List.mem_map.1 h; simp
    · have := mem_marksF h; simp at *; omega
/-- What a ring of C places holds of a list: its end; since is the number of the last that it lost. -/
def RingOf (C : Nat) (all : List Mk) (S : List Mk × Nat) : Prop := ∃ D, all = D ++ S.1 ∧ ((D = [] ∧ S.2 = 0) ∨ ∃ d, D.getLast? = some d ∧ S.2 = d.n)
theorem ringOf_push {C : Nat} {all : List Mk} {S : List Mk × Nat} (m : Mk) (h : RingOf C all S) : RingOf C (all ++ [m]) (pushM C S.1 S.2 m) := by
  obtain ⟨M, since⟩ := S
  obtain ⟨D, e, h⟩ := h
  cases M with
  | nil =>
    unfold pushM
    by_cases hC : C = 0
    · rw [if_pos hC]
      exact ⟨all ++ [m], by simp, .inr ⟨m, by simp, rfl⟩⟩
    · rw [if_neg hC]
      exact ⟨D, by rw [e]; simp, h⟩
  | cons a r =>
    by_cases hC : r.length + 1 = C
    · rw [show pushM C (a :: r) since m = (r ++ [m], a.n) from if_pos hC]
      exact ⟨D ++ [a], by rw [e]; simp, .inr ⟨a, by simp, rfl⟩⟩
    · rw [show pushM C (a :: r) since m = (a :: r ++ [m], since) from if_neg hC]
      exact ⟨D, by rw [e]; simp, h⟩
theorem ringOf_note {C n : Nat} : ∀ (ks : List ByteArray) {all : List Mk} {S : List Mk × Nat}, RingOf C all S → RingOf C (all ++ ks.map (fun k => ⟨n, k⟩)) (noteM C n S ks)
  | [], all, S, h => by show RingOf C (all ++ []) S; rw [List.append_nil]; exact h
  | k :: r, all, S, h => by
    have := ringOf_note (n := n) r (ringOf_push ⟨n, k⟩ h)
    rw [List.append_assoc] at this
    exact this
def runF (C : Nat) : Nat → List Mk × Nat → List (List ByteArray) → List Mk × Nat
  | _, S, [] => S
  | n, S, ks :: r => runF C (n + 1) (noteM C n S ks) r
def runM (C : Nat) (H : List (List ByteArray)) : List Mk × Nat := runF C 1 ([], 0) H
theorem runF_append {C : Nat} (ks : List ByteArray) : ∀ (H : List (List ByteArray)) (n : Nat) (S : List Mk × Nat), runF C n S (H ++ [ks]) = noteM C (n + H.length) (runF C n S H) ks
  | [], n, S => rfl
  | a :: A, n, S => by
    show runF C (n + 1) _ (A ++ [ks]) = _
    rw [runF_append ks A (n + 1), show n + (a :: A).length = n + 1 + A.length by simp; omega]; rfl
theorem runM_next {C a : Nat} {H : List (List ByteArray)} {ks : List ByteArray} (h : H[a]? = some ks) : runM C (H.take (a + 1)) = noteM C (a + 1) (runM C (H.take a)) ks := by
  have hlt := (List.getElem?_eq_some_iff.1 h).1
  rw [List.take_add_one, h]
  show runF C 1 ([], 0) (H.take a ++ [ks]) = _
  rw [runF_append, List.length_take, Nat.min_eq_left (by omega), Nat.add_comm 1 a]; rfl
theorem ringOf_runF {C : Nat} : ∀ (H : List (List ByteArray)) (n : Nat) {all : List Mk} {S : List Mk × Nat}, RingOf C all S → RingOf C (all ++ marksF n H) (runF C n S H)
  | [], n, all, S, h => by show RingOf C (all ++ []) S; rw [List.append_nil]; exact h
  | ks :: r, n, all, S, h => by
    have := ringOf_runF r (n + 1) (ringOf_note (n := n) ks h)
    rw [List.append_assoc] at this
    exact this
theorem ringOf_run (C : Nat) (H : List (List ByteArray)) : RingOf C (marksF 1 H) (runM C H) := by
  have := ringOf_runF (C := C) H 1 (all := []) (S := ([], 0)) ⟨[], rfl, .inl ⟨rfl, rfl⟩⟩
  exact this
theorem sorted_marksF : ∀ (H : List (List ByteArray)) (n : Nat), (marksF n H).Pairwise (fun a b => a.n ≤ b.n)
  | [], _ => List.Pairwise.nil
  | ks :: r, n => by
    rw [show marksF n (ks :: r) = ks.map (fun k => (⟨n, k⟩ : Mk)) ++ marksF (n + 1) r from rfl, List.pairwise_append]
    refine ⟨?_, sorted_marksF r (n + 1), fun a ha b hb => ?_⟩
    · rw [List.pairwise_map]; exact List.Pairwise.imp (fun _ => Nat.le_refl _) (List.pairwise_of_forall (l := ks) (R := fun _ _ => True) fun _ _ => trivial)
    · obtain ⟨k, _, rfl⟩ := List.mem_map.1 ha
      have := mem_marksF hb
      show n ≤ b.n; omega
theorem find_ring {C : Nat} {H : List (List ByteArray)} {k : ByteArray} {a : Nat} (h : (runM C H).2 ≤ a) : firstM (runM C H).1 k a = firstM (marksF 1 H) k a := by
  obtain ⟨D, e, hD⟩ := ringOf_run C H
  have hs := sorted_marksF H 1
  rw [e] at hs
  have hD0 : ∀ x ∈ D, x.n ≤ a := fun x hx => by
    rcases hD with ⟨rfl, _⟩ | ⟨d, hd, e2⟩
    · cases hx
    · have h1 : D = D.dropLast ++ [d] := by
        have hne : D ≠ [] := by intro e; rw [e] at hd; cases hd
        rw [List.getLast?_eq_some_getLast hne] at hd
        have := List.dropLast_concat_getLast hne
        rw [Option.some.inj hd] at this; exact this.symm
      have h2 := (List.pairwise_append.1 hs).1
      rw [h1] at h2 hx
      rcases List.mem_append.1 hx with hx | hx
      · have := (List.pairwise_append.1 h2).2.2 x hx d (by simp)
        omega
      · rw [List.mem_singleton.1 hx]; omega
  have hn : D.find? (isM k a) = none := List.find?_eq_none.2 (fun x hx => by unfold isM; have := hD0 x hx; rw [show decide (a < x.n) = false by simp; omega]; simp)
  unfold firstM
  rw [e, List.find?_append, hn, Option.none_or]
theorem find_one {n a : Nat} {k : ByteArray} (h : a < n) : ∀ (ks : List ByteArray), (ks.map (fun x => (⟨n, x⟩ : Mk))).find? (isM k a) = if hasK ks k then some ⟨n, k⟩ else none
  | [] => rfl
  | x :: r => by
    rw [List.map_cons, List.find?_cons]
    unfold isM
    by_cases e : x = k
    · subst e
      simp [hasK, h]
    · have := find_one (k := k) h r
      unfold isM at this
      have e' : ¬ k = x := fun h => e h.symm
      rw [show hasK (x :: r) k = hasK r k by unfold hasK; rw [List.any_cons, decide_eq_false e', Bool.false_or]]
      simp [e, this]
theorem find_marks {a : Nat} {k : ByteArray} : ∀ (H : List (List ByteArray)) (n : Nat), a < n → (marksF n H).find? (isM k a) = (H.findIdx? (fun l => hasK l k)).map fun i => ⟨n + i, k⟩
  | [], _, _ => rfl
  | ks :: r, n, h => by
    rw [show marksF n (ks :: r) = ks.map (fun k => (⟨n, k⟩ : Mk)) ++ marksF (n + 1) r from rfl, List.find?_append, find_one h, find_marks r (n + 1) (by omega), List.findIdx?_cons]
    cases hasK ks k with
    | true => simp
    | false =>
      simp only [Bool.false_eq_true, if_false, Option.none_or, Option.map_map]
      congr 1
      funext i
      simp only [Function.comp_apply]; congr 1; omega
theorem first_law {C a c : Nat} {H : List (List ByteArray)} (k : ByteArray) (ha : a ≤ H.length) (h1 : (runM C (H.take a)).2 ≤ c) (h2 : c ≤ a) :
    if (firstV H k c).2 = true ∧ (a : Int) < (firstV H k c).1 then (firstM (runM C (H.take a)).1 k c).2 = false else firstM (runM C (H.take a)).1 k c = firstV H k c := by
  rw [find_ring h1]
  have e1 : H.take a = H.take c ++ (H.drop c).take (a - c) := by
    rw [← List.take_add, Nat.add_sub_cancel' h2]
  have hl : (H.take c).length = c := by rw [List.length_take, Nat.min_eq_left (by omega)]
  have e2 : (marksF 1 (H.take a)).find? (isM k c) = (((H.drop c).take (a - c)).findIdx? (fun l => hasK l k)).map fun i => ⟨1 + c + i, k⟩ := by
    rw [e1, marksF_append, List.find?_append, List.find?_eq_none.2, hl, find_marks _ _ (by omega)]
    · rfl
    · intro x hx
      have := mem_marksF hx
      rw [hl] at this
      unfold isM
      rw [show decide (c < x.n) = false by simp; omega]; simp
  have e3 : firstM (marksF 1 (H.take a)) k c = match ((H.drop c).take (a - c)).findIdx? (fun l => hasK l k) with | some i => (((1 + c + i : Nat) : Int), true) | none => (0, false) := by
    unfold firstM
    rw [e2]
    cases ((H.drop c).take (a - c)).findIdx? (fun l => hasK l k) <;> rfl
  rw [e3, List.findIdx?_take]
  unfold firstV posH
  cases hq : (H.drop c).findIdx? (fun l => hasK l k) with
  | none => simp
  | some i =>
    have h0 : ¬ (i : Int) < 0 := by omega
    show if (if (i : Int) < 0 then ((0 : Int), false) else ((c : Int) + i + 1, true)).2 = true ∧ (a : Int) < (if (i : Int) < 0 then ((0 : Int), false) else ((c : Int) + i + 1, true)).1 then _ else _ = (if (i : Int) < 0 then ((0 : Int), false) else ((c : Int) + i + 1, true))
    rw [if_neg h0]
    by_cases hi : i < a - c
    · rw [if_neg (by rintro ⟨_, h⟩; have h : (a : Int) < c + i + 1 := h; omega)]
      simp only [Option.bind_some, Option.guard, hi, decide_true, if_true]
      rw [show ((1 + c + i : Nat) : Int) = c + i + 1 by omega]
    · rw [if_pos ⟨rfl, by show (a : Int) < c + i + 1; omega⟩]
      simp [Option.guard, hi]
end Go.Proofs.Ytpnghjmphbhkjaa
