/- Tokens, as plain texts: what is parsed of a token is its floor. -/
import Derived.Test.YtaoafjlocjjbbaaDoorC15
namespace Go.Proofs.YtaoafjlocjjbbaaDoor
open Go.Sp
set_option linter.unusedSimpArgs false
set_option linter.unusedVariables false
theorem decDigits_step {u : Nat} (h : ¬ u < 10) : Lib.decDigits u = Lib.decDigits (u / 10) ++ [UInt8.ofNat (48 + u % 10)] := by
  conv => lhs; rw [Lib.decDigits, dif_neg h]
theorem digit_toNat {d : Nat} (h : d < 10) : (UInt8.ofNat (48 + d)).toNat = 48 + d := by
  rw [UInt8.toNat_ofNat']; omega
theorem parse_digits : ∀ (u : Nat) (r : List UInt8), u ≤ 1099511627776 → Lib.parseUintM (2 ^ 64 - 1) 0 (Lib.decDigits u ++ r) = Lib.parseUintM (2 ^ 64 - 1) u r := by
  intro u
  induction u using Nat.strongRecOn with
  | ind u ih =>
    intro r hu
    by_cases h : u < 10
    · rw [Lib.decDigits_one h, List.singleton_append, Lib.parseUintM, digit_toNat h, if_pos (by omega), if_neg (by omega), if_neg (by omega)]
      rw [show 0 * 10 + (48 + u - 48) = u by omega]
    · rw [decDigits_step h, List.append_assoc, ih (u / 10) (by omega) _ (by omega), List.singleton_append, Lib.parseUintM, digit_toNat (by omega), if_pos (by omega), if_neg (by omega), if_neg (by omega)]
      rw [show u / 10 * 10 + (48 + u % 10 - 48) = u by omega]
theorem digits_ne (u : Nat) : Lib.decDigits u ≠ [] := by
  intro h
  have := Lib.decDigits_length u
  rw [h] at this
  have := Lib.nDigits_pos u
  simp at *
  omega
theorem digits_head : ∀ (u : Nat) (c : UInt8) (r : List UInt8), Lib.decDigits u = c :: r → 48 ≤ c.toNat ∧ c.toNat ≤ 57 := by
  intro u
  induction u using Nat.strongRecOn with
  | ind u ih =>
    intro c r hc
    by_cases h : u < 10
    · rw [Lib.decDigits_one h] at hc
      cases hc
      rw [digit_toNat h]; omega
    · rw [decDigits_step h] at hc
      cases hd : Lib.decDigits (u / 10) with
      | nil => exact absurd hd (digits_ne _)
      | cons c' r' =>
        rw [hd] at hc
        cases hc
        exact ih (u / 10) (by omega) _ _ hd
theorem parseInt_digits {u : Nat} (hu : u ≤ 1099511627776) : Lib.parseIntB 64 (Lib.decDigits u) = .ok (u : Int) := by
  cases hd : Lib.decDigits u with
  | nil => exact absurd hd (digits_ne _)
  | cons c r =>
    obtain ⟨h1, h2⟩ := digits_head u c r hd
    have hp := parse_digits u [] hu
    rw [List.append_nil] at hp
    have hp2 : Lib.parseUintB 64 (Lib.decDigits u) = .ok u := by
      unfold Lib.parseUintB
      rw [if_neg (digits_ne u), hp]; rfl
    unfold Lib.parseIntB
    simp only
    rw [if_neg (by omega), ← hd, hp2]
    simp only
    rw [if_neg (by intro h; have := h.2; omega), if_neg (by intro h; omega), if_neg (by omega)]
/-- A valid floor's token, letter by letter. -/
theorem tokB_list {u : Nat} : (tokB (u : Int)).data.toList = 116 :: (Lib.decDigits u ++ [46, UInt8.ofNat (sufI u).toNat]) := by
  unfold tokB deci
  rw [Lib.itoa_nonneg]
  simp [ByteArray.data_append]
theorem tokBad_nat {u : Nat} : tokBad (u : Int) = false ↔ u ≤ 1099511627776 := by
  unfold tokBad; simp only [Bool.or_eq_false_iff, decide_eq_false_iff_not]; omega
theorem tokE_iff {n : Int} : tokE n = 0 ↔ tokBad n = false := by
  unfold tokE; cases tokBad n <;> simp
theorem size_list (s : ByteArray) : s.size = s.data.toList.length := by rw [Array.length_toList]; rfl
theorem list_ext {a b : ByteArray} (h : a.data.toList = b.data.toList) : a = b := by
  cases a; cases b; exact congrArg _ (Array.toList_inj.mp h)
theorem extract_list (s : ByteArray) (i j : Nat) : (s.extract i j).data.toList = (s.data.toList.take j).drop i := by
  rw [ByteArray.data_extract, Array.toList_extract]
  simp [List.extract_eq_take_drop, List.drop_take]
theorem parN_some {s : ByteArray} {n : Int} : parN s = some n ↔ tokE n = 0 ∧ tokV n = s := by
  constructor
  · intro h
    unfold parN at h
    split at h
    · split at h
      · split at h
        · cases h; assumption
        · cases h
      · cases h
    · cases h
  · rintro ⟨h1, h2⟩
    have hb := tokE_iff.1 h1
    have h0 : 0 ≤ n := by unfold tokBad at hb; simp only [Bool.or_eq_false_iff, decide_eq_false_iff_not] at hb; omega
    obtain ⟨u, rfl⟩ := Int.eq_ofNat_of_zero_le h0
    have hu := tokBad_nat.1 hb
    have hs : s = tokB u := by rw [← h2]; unfold tokV; rw [hb]; rfl
    have hl : s.data.toList = 116 :: (Lib.decDigits u ++ [46, UInt8.ofNat (sufI u).toNat]) := by rw [hs]; exact tokB_list
    have hlen : s.size = (Lib.decDigits u).length + 3 := by rw [size_list, hl]; simp
    have hpos : 0 < (Lib.decDigits u).length := List.length_pos_iff.2 (digits_ne u)
    have he : (s.extract 1 (s.size - 2)).data.toList = Lib.decDigits u := by
      rw [extract_list, hl, hlen, show (Lib.decDigits u).length + 3 - 2 = (Lib.decDigits u).length + 1 by omega]
      simp
    unfold parN
    rw [if_pos (by omega), he, parseInt_digits hu]
    simp only
    rw [if_pos ⟨h1, h2⟩]
/-- The reference's loop over the letters: k more at the most. -/
def rpl : Nat → List UInt8 → Int → Int
  | 0, _, n => n
  | _, [], n => n
  | k + 1, c :: r, n => if (48 ≤ c.toNat ∧ c.toNat ≤ 57) ∧ n ≤ 1099511627776 then rpl k r (10 * n + ((c.toNat : Int) - 48)) else n
theorem rpl_digits : ∀ (u : Nat) (k : Nat) (r : List UInt8), u ≤ 1099511627776 → (Lib.decDigits u).length ≤ k → rpl k (Lib.decDigits u ++ r) 0 = rpl (k - (Lib.decDigits u).length) r u := by
  intro u
  induction u using Nat.strongRecOn with
  | ind u ih =>
    intro k r hu hk
    by_cases h : u < 10
    · rw [Lib.decDigits_one h] at hk ⊢
      obtain ⟨k, rfl⟩ : ∃ j, k = j + 1 := ⟨k - 1, by simp at hk; omega⟩
      rw [List.singleton_append, rpl, digit_toNat h, if_pos (by omega)]
      simp
      congr 1; omega
    · have hl : (Lib.decDigits u).length = (Lib.decDigits (u / 10)).length + 1 := by rw [decDigits_step h]; simp
      rw [hl] at hk ⊢
      rw [decDigits_step h, List.append_assoc, ih (u / 10) (by omega) k _ (by omega) (by omega), List.singleton_append]
      obtain ⟨j, hj⟩ : ∃ j, k - (Lib.decDigits (u / 10)).length = j + 1 := ⟨k - (Lib.decDigits (u / 10)).length - 1, by omega⟩
      rw [hj, rpl, digit_toNat (by omega), if_pos (by omega), show k - ((Lib.decDigits (u / 10)).length + 1) = j by omega]
      congr 1; omega
theorem rpl_tok {s : ByteArray} {n : Int} (h : parN s = some n) : rpl 19 (s.data.toList.drop 1) 0 = n := by
  obtain ⟨h1, h2⟩ := parN_some.1 h
  have hb := tokE_iff.1 h1
  have h0 : 0 ≤ n := by unfold tokBad at hb; simp only [Bool.or_eq_false_iff, decide_eq_false_iff_not] at hb; omega
  obtain ⟨u, rfl⟩ := Int.eq_ofNat_of_zero_le h0
  have hu := tokBad_nat.1 hb
  have hs : s = tokB u := by rw [← h2]; unfold tokV; rw [hb]; rfl
  rw [hs, tokB_list]
  have hl : (Lib.decDigits u).length ≤ 13 := by rw [Lib.decDigits_length]; exact nDigits_le 13 u (by omega) (by omega)
  show rpl 19 (Lib.decDigits u ++ _) 0 = _
  rw [rpl_digits u 19 _ hu (by omega)]
  obtain ⟨j, hj⟩ : ∃ j, 19 - (Lib.decDigits u).length = j + 1 := ⟨18 - (Lib.decDigits u).length, by omega⟩
  rw [hj, rpl, if_neg (by intro h; have := h.1.1; simp at this)]
theorem rpl_par (s : ByteArray) : (if tokE (rpl 19 (s.data.toList.drop 1) 0) = 0 ∧ tokV (rpl 19 (s.data.toList.drop 1) 0) = s then some (rpl 19 (s.data.toList.drop 1) 0) else none) = parN s := by
  cases h : parN s with
  | some n =>
    rw [rpl_tok h, if_pos (parN_some.1 h)]
  | none =>
    split
    · rename_i hh; rw [parN_some.2 hh] at h; cases h
    · rfl
end Go.Proofs.YtaoafjlocjjbbaaDoor
