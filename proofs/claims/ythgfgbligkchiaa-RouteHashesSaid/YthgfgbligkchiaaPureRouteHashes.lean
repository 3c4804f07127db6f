/- Hash and To of the program and of the reference answer alike, for every key and every number of nodes. No condition but the form's own: the key takes at most 2^47 - 4096 bytes. -/
import Derived.Test.YthgfgbligkchiaaPRouteHashesx1
import Derived.Test.YthgfgbligkchiaaHashPlain
namespace Go.Proofs.Ythgfgbligkchiaa.Pure
open Go.RowKit Go.Proofs.Ythgfgbligkchiaa.PRouteHashes Go.Proofs.Ythgfgbligkchiaa.Plain Go.Proofs.YthgfgbligkchiaaW.PrintWords Go.Proofs.YthgfgbligkchiaaW.PrintLast
set_option linter.unusedVariables false

theorem fixed20 : vouchlaw14_fixed.f 20 = some true := by kernel_rfl
theorem fixed_at (k : Nat) (hk : 20 ≤ k) : vouchlaw14_fixed.f k = some true := at_rounds (fun j => vouchlaw14_fixed.mono j) hk fixed20

/-- The number of the bytes from i on, begun with h. -/
def hashOn (s : ByteArray) (h : Int) : Nat → Int → Int
  | 0, _ => h
  | d + 1, i => hashOn s (hstep h (bt s i)) d (i + 1)
def hashOf (s : ByteArray) : Int := hashOn s 14695981039346656037 s.size 0
theorem hashOn_range (s : ByteArray) (d : Nat) : ∀ (h i : Int), 0 ≤ h → h < 18446744073709551616 → 0 ≤ hashOn s h d i ∧ hashOn s h d i < 18446744073709551616 := by
  induction d with
  | zero => intro h i h0 h1; exact ⟨h0, h1⟩
  | succ d ih =>
    intro h i _ _
    exact ih _ _ (hstep_range h (bt s i)).1 (hstep_range h (bt s i)).2
theorem hashOf_range (s : ByteArray) : 0 ≤ hashOf s ∧ hashOf s < 18446744073709551616 := by
  unfold hashOf
  exact hashOn_range s _ _ _ (by decide) (by decide)
theorem wrap_head {i : Int} {n : Nat} (h0 : 0 ≤ i) (h : i < (n : Int)) (hn : n ≤ 9223372036854775807) : wrap64 (i + 1) = i + 1 := by
  unfold wrap64
  omega
theorem hash_l0 (s : ByteArray) (hn : s.size ≤ 9223372036854775807) (d : Nat) : ∀ (k : Nat) (h i : Int), 0 ≤ i → (s.size : Int) - i = d → d < k → route_Hash.l0 k s h (s.size : Int) i = some (hashOn s h d i) := by
  induction d with
  | zero =>
    intro k h i h0 hd hk
    obtain ⟨k, rfl⟩ : ∃ m, k = m + 1 := ⟨k - 1, by omega⟩
    simp only [route_Hash.l0]
    rw [if_neg (by omega)]
    rfl
  | succ d ih =>
    intro k h i h0 hd hk
    obtain ⟨k, rfl⟩ : ∃ m, k = m + 1 := ⟨k - 1, by omega⟩
    have hlt : i < (s.size : Int) := by omega
    simp only [route_Hash.l0]
    rw [if_pos hlt, if_pos h0, if_pos hlt, wrap_head h0 hlt hn]
    exact ih k (hstep h (bt s i)) (i + 1) (by omega) (by omega) (by omega)
theorem hash_f (s : ByteArray) (hn : s.size ≤ 9223372036854775807) (k : Nat) (hk : s.size < k) : route_Hash.f k s = some (hashOf s) := by
  unfold route_Hash.f hashOf
  exact hash_l0 s hn s.size k _ 0 (by decide) (by omega) hk
theorem to_f (s : ByteArray) (hn : s.size ≤ 9223372036854775807) (k : Nat) (hk : s.size < k) (n : Int) : route_To.f k s n = some (if n < 1 then -1 else if n > 8 then -1 else wrap64 (Int.tmod (hashOf s) (IntKind.u64.wrap n))) := by
  unfold route_To.f
  by_cases c1 : n < 1
  · rw [if_pos c1, if_pos c1]
  · rw [if_neg c1, if_neg c1]
    by_cases c2 : n > 8
    · rw [if_pos c2, if_pos c2]
    · rw [if_neg c2, if_neg c2, hash_f s hn k hk]
      simp only [Option.bind_some]
      rw [if_neg (by rw [IntKind.wrap_u64]; omega)]
theorem refHash_l0 (s : ByteArray) (hn : s.size ≤ 9223372036854775807) (d : Nat) : ∀ (k : Nat) (h i : Int), 0 ≤ h → h < 18446744073709551616 → 0 ≤ i → (s.size : Int) - i = d → d < k → vouchref14_Hash.l0 k s h i = some (hashOn s h d i) := by
  induction d with
  | zero =>
    intro k h i _ _ h0 hd hk
    obtain ⟨k, rfl⟩ : ∃ m, k = m + 1 := ⟨k - 1, by omega⟩
    simp only [vouchref14_Hash.l0]
    rw [if_neg (by omega)]
    rfl
  | succ d ih =>
    intro k h i g0 g1 h0 hd hk
    obtain ⟨k, rfl⟩ : ∃ m, k = m + 1 := ⟨k - 1, by omega⟩
    have hlt : i < (s.size : Int) := by omega
    simp only [vouchref14_Hash.l0]
    rw [if_pos hlt, if_pos h0, wrap_head h0 hlt hn, hstep_ref h _ g0 g1 (bt_range s i).1 (bt_range s i).2]
    exact ih k (hstep h (bt s i)) (i + 1) (hstep_range h _).1 (hstep_range h _).2 (by omega) (by omega) (by omega)
theorem refHash_f (s : ByteArray) (hn : s.size ≤ 9223372036854775807) (k : Nat) (hk : s.size < k) : vouchref14_Hash.f k s = some (hashOf s) := by
  unfold vouchref14_Hash.f hashOf
  exact refHash_l0 s hn s.size k _ 0 (by decide) (by decide) (by decide) (by omega) hk
theorem refTo_f (s : ByteArray) (hn : s.size ≤ 9223372036854775807) (k : Nat) (hk : s.size < k) (n : Int) : vouchref14_To.f k s n = some (if n < 1 then -1 else if n > 8 then -1 else wrap64 (Int.tmod (hashOf s) (IntKind.u64.wrap n))) := by
  unfold vouchref14_To.f
  by_cases c1 : n < 1
  · rw [if_pos c1, if_pos c1]
  · rw [if_neg c1, if_neg c1]
    by_cases c2 : n > 8
    · rw [if_pos c2, if_pos c2]
    · rw [if_neg c2, if_neg c2, refHash_f s hn k hk]
      simp only [Option.bind_some]
      rw [if_neg (by rw [IntKind.wrap_u64]; omega), rest_ref _ _ (hashOf_range s).1 (hashOf_range s).2 (by omega) (by omega)]
theorem RouteHashes : vouchlaw14_RouteHashes.Pure := by
  intro s n hn _
  refine ⟨s.size + 21, ?_⟩
  unfold vouchlaw14_RouteHashes.f
  rw [fixed_at _ (by omega), hash_f s (by omega) _ (by omega), refHash_f s (by omega) _ (by omega), to_f s (by omega) _ (by omega), refTo_f s (by omega) _ (by omega)]
  simp

end Go.Proofs.Ythgfgbligkchiaa.Pure
