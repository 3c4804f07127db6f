/- Plain arithmetic of Hash: one step, the reference's step, the rest by division. No condition but the ranges that each lemma names. -/
import Derived.Laws.BitsAllLaws
import Derived.WalkKit
namespace Go.Proofs.Ythgfgbligkchiaa.Plain
open Go.RowKit

theorem or_eq_xor_add_and (n : Nat) : ∀ a b : Nat, a < 2 ^ n → b < 2 ^ n → a ||| b = (a ^^^ b) + (a &&& b) := by
  induction n with
  | zero =>
    intro a b ha hb
    obtain rfl : a = 0 := by omega
    obtain rfl : b = 0 := by omega
    rfl
  | succ n ih =>
    intro a b ha hb
    have h2 := ih (a / 2) (b / 2) (by omega) (by omega)
    rw [← Nat.or_div_two, ← Nat.xor_div_two, ← Nat.and_div_two] at h2
    have m1 := Nat.or_mod_two_eq_one (a := a) (b := b)
    have m2 := Nat.xor_mod_two_eq_one (a := a) (b := b)
    have m3 := Nat.and_mod_two_eq_one (a := a) (b := b)
    generalize a ||| b = x at *
    generalize a ^^^ b = y at *
    generalize a &&& b = z at *
    by_cases ea : a % 2 = 1 <;> by_cases eb : b % 2 = 1 <;> simp [ea, eb] at m1 m2 m3 <;> omega

/-- A byte more is one hstep more. -/
def hstep (h b : Int) : Int := IntKind.u64.wrap ((Go.bits .xor .u64 h (IntKind.u64.wrap b)) * 1099511628211)
theorem hstep_range (h b : Int) : 0 ≤ hstep h b ∧ hstep h b < 18446744073709551616 := by
  unfold hstep
  rw [IntKind.wrap_u64]
  omega
theorem hstep_ref (h b : Int) (h0 : 0 ≤ h) (h1 : h < 18446744073709551616) (b0 : 0 ≤ b) (b1 : b ≤ 255) :
    IntKind.u64.wrap ((IntKind.u64.wrap ((Go.bits .or .u64 h (IntKind.u64.wrap b)) - (Go.bits .and .u64 h (IntKind.u64.wrap b)))) * 1099511628211) = hstep h b := by
  have eb : IntKind.u64.wrap b = b := by rw [IntKind.wrap_u64]; omega
  unfold hstep
  rw [eb, u64_or h b h0 h1 b0 (by omega), u64_and h b h0 h1 b0 (by omega), u64_xor h b h0 h1 b0 (by omega)]
  have e := or_eq_xor_add_and 64 h.toNat b.toNat (by omega) (by omega)
  have l : (h.toNat ^^^ b.toNat) < 2 ^ 64 := Nat.xor_lt_two_pow (by omega) (by omega)
  rw [e]
  simp only [IntKind.wrap_u64]
  generalize (h.toNat ^^^ b.toNat) = x at *
  generalize (h.toNat &&& b.toNat) = y at *
  omega
theorem rest_ref (t m : Int) (h0 : 0 ≤ t) (h1 : t < 18446744073709551616) (m0 : 1 ≤ m) (m1 : m ≤ 8) :
    wrap64 (IntKind.u64.wrap (t - (IntKind.u64.wrap ((IntKind.u64.wrap (Int.tdiv t (IntKind.u64.wrap m))) * (IntKind.u64.wrap m))))) = wrap64 (Int.tmod t (IntKind.u64.wrap m)) := by
  have em : IntKind.u64.wrap m = m := by rw [IntKind.wrap_u64]; omega
  rw [em, Int.tdiv_eq_ediv_of_nonneg h0, Int.tmod_eq_emod_of_nonneg h0]
  have d0 : 0 ≤ t / m := Int.ediv_nonneg h0 (by omega)
  have d1 : t / m ≤ t := Int.ediv_le_self _ h0
  have e := Int.emod_add_mul_ediv t m
  have r0 := Int.emod_nonneg t (show m ≠ 0 by omega)
  simp only [IntKind.wrap_u64]
  rw [Int.emod_eq_of_lt d0 (by omega)]
  have d2 : 0 ≤ m * (t / m) := Int.mul_nonneg (by omega) d0
  have e2 : t / m * m = t - t % m := by rw [Int.mul_comm]; omega
  rw [e2]
  congr 1
  omega
theorem rest_range (t m : Int) (h0 : 0 ≤ t) (m0 : 1 ≤ m) (m1 : m ≤ 8) : 0 ≤ wrap64 (Int.tmod t (IntKind.u64.wrap m)) ∧ wrap64 (Int.tmod t (IntKind.u64.wrap m)) < m := by
  have em : IntKind.u64.wrap m = m := by rw [IntKind.wrap_u64]; omega
  rw [em, Int.tmod_eq_emod_of_nonneg h0]
  have r0 := Int.emod_nonneg t (show m ≠ 0 by omega)
  have r1 := Int.emod_lt_of_pos t (show 0 < m by omega)
  have : wrap64 (t % m) = t % m := by unfold wrap64; omega
  omega
end Go.Proofs.Ythgfgbligkchiaa.Plain
