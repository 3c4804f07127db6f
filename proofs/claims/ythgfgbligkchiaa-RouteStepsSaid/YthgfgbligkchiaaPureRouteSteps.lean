/- A byte more is one step of Hash more. No condition but the form's own: the key takes at most 2^47 - 4096 bytes. -/
import Derived.Test.YthgfgbligkchiaaPRouteStepsx1
import Derived.Test.YthgfgbligkchiaaHashPlain
namespace Go.Proofs.Ythgfgbligkchiaa.Pure
open Go.RowKit Go.Proofs.Ythgfgbligkchiaa.PRouteSteps Go.Proofs.Ythgfgbligkchiaa.Plain Go.Proofs.YthgfgbligkchiaaW.PrintWords Go.Proofs.YthgfgbligkchiaaW.PrintLast
set_option linter.unusedVariables false

theorem fixed20 : vouchlaw14_fixed.f 20 = some true := by kernel_rfl
theorem fixed_at (k : Nat) (hk : 20 ≤ k) : vouchlaw14_fixed.f k = some true := at_rounds (fun j => vouchlaw14_fixed.mono j) hk fixed20

/-- The number of the bytes from i on, begun with h. -/
def hashOn (s : ByteArray) (h : Int) : Nat → Int → Int
  | 0, _ => h
  | d + 1, i => hashOn s (hstep h (bt s i)) d (i + 1)
def hashOf (s : ByteArray) : Int := hashOn s 14695981039346656037 s.size 0
theorem hashOn_range (s : ByteArray) (d : Nat) : ∀ (h i : Int), 0 ≤ h → h < 18446744073709551616 → 0 ≤ hashOn s h d i ∧ hashOn s h d i < 18446744073709551616 := by
  induction d with
  | zero => intro h i h0 h1; exact ⟨h0, h1⟩
  | succ d ih =>
    intro h i _ _
    exact ih _ _ (hstep_range h (bt s i)).1 (hstep_range h (bt s i)).2
theorem hashOf_range (s : ByteArray) : 0 ≤ hashOf s ∧ hashOf s < 18446744073709551616 := by
  unfold hashOf
  exact hashOn_range s _ _ _ (by decide) (by decide)
theorem wrap_head {i : Int} {n : Nat} (h0 : 0 ≤ i) (h : i < (n : Int)) (hn : n ≤ 9223372036854775807) : wrap64 (i + 1) = i + 1 := by
  unfold wrap64
  omega
theorem hash_l0 (s : ByteArray) (hn : s.size ≤ 9223372036854775807) (d : Nat) : ∀ (k : Nat) (h i : Int), 0 ≤ i → (s.size : Int) - i = d → d < k → route_Hash.l0 k s h (s.size : Int) i = some (hashOn s h d i) := by
  induction d with
  | zero =>
    intro k h i h0 hd hk
    obtain ⟨k, rfl⟩ : ∃ m, k = m + 1 := ⟨k - 1, by omega⟩
    simp only [route_Hash.l0]
    rw [if_neg (by omega)]
    rfl
  | succ d ih =>
    intro k h i h0 hd hk
    obtain ⟨k, rfl⟩ : ∃ m, k = m + 1 := ⟨k - 1, by omega⟩
    have hlt : i < (s.size : Int) := by omega
    simp only [route_Hash.l0]
    rw [if_pos hlt, if_pos h0, if_pos hlt, wrap_head h0 hlt hn]
    exact ih k (hstep h (bt s i)) (i + 1) (by omega) (by omega) (by omega)
theorem hash_f (s : ByteArray) (hn : s.size ≤ 9223372036854775807) (k : Nat) (hk : s.size < k) : route_Hash.f k s = some (hashOf s) := by
  unfold route_Hash.f hashOf
  exact hash_l0 s hn s.size k _ 0 (by decide) (by omega) hk
theorem to_f (s : ByteArray) (hn : s.size ≤ 9223372036854775807) (k : Nat) (hk : s.size < k) (n : Int) : route_To.f k s n = some (if n < 1 then -1 else if n > 8 then -1 else wrap64 (Int.tmod (hashOf s) (IntKind.u64.wrap n))) := by
  unfold route_To.f
  by_cases c1 : n < 1
  · rw [if_pos c1, if_pos c1]
  · rw [if_neg c1, if_neg c1]
    by_cases c2 : n > 8
    · rw [if_pos c2, if_pos c2]
    · rw [if_neg c2, if_neg c2, hash_f s hn k hk]
      simp only [Option.bind_some]
      rw [if_neg (by rw [IntKind.wrap_u64]; omega)]
theorem strOfNums_one (b : Int) (h0 : 0 ≤ b) (h1 : b ≤ 255) : strOfNums [b] = ⟨#[UInt8.ofNat b.toNat]⟩ := by
  simp [strOfNums]
theorem bt_append_left (s t : ByteArray) (i : Int) (h0 : 0 ≤ i) (h : i < s.size) : bt (s ++ t) i = bt s i := by
  have h1 : i.toNat < s.size := by omega
  have h2 : i.toNat < (s ++ t).size := by rw [ByteArray.size_append]; omega
  simp only [bt, dif_pos h1, dif_pos h2]
  rw [ByteArray.getElem_append_left h1]
theorem hashOn_append (s t : ByteArray) (d : Nat) : ∀ (h i : Int), 0 ≤ i → i + d ≤ s.size → hashOn (s ++ t) h d i = hashOn s h d i := by
  induction d with
  | zero => intro h i _ _; rfl
  | succ d ih =>
    intro h i h0 hi
    simp only [hashOn]
    rw [bt_append_left s t i h0 (by omega), ih _ _ (by omega) (by omega)]
theorem hashOn_snoc (s : ByteArray) (d : Nat) : ∀ (h i : Int), hashOn s h (d + 1) i = hstep (hashOn s h d i) (bt s (i + d)) := by
  induction d with
  | zero => intro h i; simp [hashOn]
  | succ d ih =>
    intro h i
    rw [hashOn, ih]
    simp only [hashOn]
    congr 2
    omega
theorem RouteSteps : vouchlaw14_RouteSteps.Pure := by
  intro s b hn hb
  have hb2 : 0 ≤ b ∧ b ≤ 255 := by simpa [Lit.wf, IntKind.min, IntKind.max, IntKind.signed, IntKind.bits] using hb
  have e1 := strOfNums_one b hb2.1 hb2.2
  have z1 : (strOfNums [b]).size = 1 := by rw [e1]; rfl
  have z2 : (s ++ strOfNums [b]).size = s.size + 1 := by rw [ByteArray.size_append, z1]
  refine ⟨s.size + 22, ?_⟩
  unfold vouchlaw14_RouteSteps.f
  rw [fixed_at _ (by omega)]
  simp only [Option.bind_some, if_true]
  rw [if_pos (by omega), hash_f s (by omega) _ (by omega), hash_f (s ++ strOfNums [b]) (by omega) _ (by omega)]
  have e2 : hashOf (s ++ strOfNums [b]) = hstep (hashOf s) b := by
    unfold hashOf
    rw [z2, hashOn_snoc, hashOn_append s _ s.size _ 0 (by omega) (by omega)]
    congr 1
    have h2 : ((0 : Int) + (s.size : Int)).toNat < (s ++ strOfNums [b]).size := by omega
    simp only [bt, dif_pos h2]
    rw [ByteArray.getElem_append_right (by omega)]
    simp only [e1]
    have e3 : ∀ j : Nat, (hj : j < 1) → (({ data := #[UInt8.ofNat b.toNat] } : ByteArray)[j]'(show j < 1 from hj)).toNat = b.toNat := by
      intro j hj
      obtain rfl : j = 0 := by omega
      show (UInt8.ofNat b.toNat).toNat = _
      rw [UInt8.toNat_ofNat']
      omega
    rw [e3 _ (by omega)]
    omega
  rw [e2]
  simp [hstep]

end Go.Proofs.Ythgfgbligkchiaa.Pure
