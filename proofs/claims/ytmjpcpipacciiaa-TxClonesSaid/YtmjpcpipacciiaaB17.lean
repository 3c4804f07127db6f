/- What narrows: the pin of a transaction, whatever it hears. -/
import Derived.Test.YtmjpcpipacciiaaB16
namespace Go.Proofs.Ytmjpcpipacciiaa
open Go.Sp
set_option linter.unusedSimpArgs false
set_option linter.unusedVariables false
structure PinS where
  lo : Int
  hi : Int
def PinS.cells (p : PinS) : List Value := [.int .i64 p.lo, .int .i64 p.hi]
theorem PinS.cells_len (p : PinS) : p.cells.length = 2 := rfl
structure Nar (T : TxS) (fl : Int) (took : List PinS) (n : Nat) : Prop where
  inv : Inv T n
  st3 : T.st ≠ 3
  er : T.st = 4 → T.er ≠ 0
  ord : T.lo < T.hi
  low : fl ≤ T.lo
  top : T.hi ≤ 4611686018427387904
  len : took.length = T.reads.length
  all : ∀ p ∈ took, p.lo ≤ T.lo ∧ T.hi ≤ p.hi
/-- From one to the next: narrower, and one read more at most. -/
structure Less (T T' : TxS) : Prop where
  lo : T.lo ≤ T'.lo
  hi : T'.hi ≤ T.hi
  reads : T'.reads = T.reads ∨ ∃ x, T'.reads = T.reads ++ [x]
theorem fits_facts {T : TxS} {a b : Int} (hl : 0 ≤ T.lo) (ho : T.lo < T.hi) (hf : T.fits a b = true) : T.lo ≤ (T.pinT a b).1 ∧ (T.pinT a b).2 ≤ T.hi ∧ (T.pinT a b).1 < (T.pinT a b).2 ∧ a ≤ (T.pinT a b).1 ∧ (T.pinT a b).2 ≤ b := by
  unfold TxS.fits at hf
  simp only [Bool.not_eq_true', decide_eq_false_iff_not] at hf
  unfold TxS.pinT nar ofS mxI mnI at *
  (repeat' split at hf) <;> (repeat' split) <;> simp_all <;> omega
theorem hear_cases (T : TxS) (m : Msg) : (T.hear m).1 = T ∨ (T.hear m).1 = T.asks 2 T.key ∨ ((T.hear m).1 = T.rests 4 m.err ∧ m.err ≠ 0) ∨ (T.fits m.lo m.hi = true ∧ (T.hear m).1 = (T.took m.has m.data m.lo m.hi).rests 0 0) := by
  unfold TxS.hear TxS.takes
  cases (T.busy && decide (m.tx = T.id) && decide (m.seq = T.seq)) <;> cases (decide (m.kind = 4) && decide (T.st = 1)) <;> cases (decide (m.kind = 6) && decide (T.st = 2)) <;> cases hf : T.fits m.lo m.hi <;> cases m.hit <;> by_cases he : m.err = 0 <;> simp [he]
theorem Nar.again {T : TxS} {fl : Int} {took : List PinS} {n : Nat} (h : Nar T fl took n) (r : Int) : Nar (T.again r).1 fl took n ∧ Less T (T.again r).1 := by
  have hi := h.inv.again r
  have hr := reads_again T r
  revert hi hr
  unfold TxS.again
  cases T.busy <;> cases decide (T.tr < r) <;> cases decide (T.st = 1) <;> intro hi hr
  all_goals first
    | exact ⟨⟨hi, h.st3, h.er, h.ord, h.low, h.top, h.len, h.all⟩, Int.le_refl _, Int.le_refl _, .inl rfl⟩
    | exact ⟨⟨hi, (by show (2 : Int) ≠ 3; decide), fun e => absurd (show (2 : Int) = 4 from e) (by decide), h.ord, h.low, h.top, h.len, h.all⟩, Int.le_refl _, Int.le_refl _, .inl rfl⟩
    | exact ⟨⟨hi, (by show (4 : Int) ≠ 3; decide), fun _ => (by show (41 : Int) ≠ 0; decide), h.ord, h.low, h.top, h.len, h.all⟩, Int.le_refl _, Int.le_refl _, .inl rfl⟩
theorem Nar.read {T : TxS} {fl : Int} {took : List PinS} {n : Nat} (h : Nar T fl took n) (key : ByteArray) (hk : key.size ≤ 140737488351232) : Nar (T.read key).1 fl took n ∧ Less T (T.read key).1 := by
  have hi := h.inv.read key hk
  revert hi
  unfold TxS.read
  have a : ∀ hi : Inv T n, Nar T fl took n ∧ Less T T := fun hi => ⟨⟨hi, h.st3, h.er, h.ord, h.low, h.top, h.len, h.all⟩, Int.le_refl _, Int.le_refl _, .inl rfl⟩
  have b : ∀ hi : Inv (T.asks 1 key) n, Nar (T.asks 1 key) fl took n ∧ Less T (T.asks 1 key) := fun hi => ⟨⟨hi, (by show (1 : Int) ≠ 3; decide), fun e => absurd (show (1 : Int) = 4 from e) (by decide), h.ord, h.low, h.top, h.len, h.all⟩, Int.le_refl _, Int.le_refl _, .inl rfl⟩
  cases decide (T.st ≥ 3) <;> cases T.busy <;> cases goodK key <;> first | exact a | (cases T.find key <;> first | exact a | exact b)
theorem Nar.up {T : TxS} {fl : Int} {took : List PinS} {n : Nat} (h : Nar T fl took n) : Nar T fl took (n + 1) := ⟨h.inv.up, h.st3, h.er, h.ord, h.low, h.top, h.len, h.all⟩
/-- What is heard: nothing is taken, or one span. -/
theorem Nar.hear {T : TxS} {fl : Int} {took : List PinS} {n : Nat} (h : Nar T fl took n) (hf : 0 ≤ fl) (m : Msg) :
    Less T (T.hear m).1 ∧ (((T.hear m).1.reads.length = T.reads.length ∧ Nar (T.hear m).1 fl took (n + 1)) ∨ ((T.hear m).1.reads.length = T.reads.length + 1 ∧ Nar (T.hear m).1 fl (took ++ [⟨m.lo, m.hi⟩]) (n + 1))) := by
  have hi := h.inv.hear m
  rcases hear_cases T m with e | e | ⟨e, he⟩ | ⟨hfit, e⟩ <;> rw [e] at hi ⊢
  · exact ⟨⟨Int.le_refl _, Int.le_refl _, .inl rfl⟩, .inl ⟨rfl, h.up⟩⟩
  · exact ⟨⟨Int.le_refl _, Int.le_refl _, .inl rfl⟩, .inl ⟨rfl, hi, (by show (2 : Int) ≠ 3; decide), fun e => absurd (show (2 : Int) = 4 from e) (by decide), h.ord, h.low, h.top, h.len, h.all⟩⟩
  · exact ⟨⟨Int.le_refl _, Int.le_refl _, .inl rfl⟩, .inl ⟨rfl, hi, (by show (4 : Int) ≠ 3; decide), fun _ => he, h.ord, h.low, h.top, h.len, h.all⟩⟩
  · obtain ⟨f1, f2, f3, f4, f5⟩ := fits_facts (by have := h.low; omega) h.ord hfit
    refine ⟨⟨f1, f2, .inr ⟨_, rfl⟩⟩, .inr ⟨by show (T.reads ++ [_]).length = _; rw [List.length_append]; rfl, hi, (by show (0 : Int) ≠ 3; decide), fun e => absurd (show (0 : Int) = 4 from e) (by decide), f3, Int.le_trans h.low f1, Int.le_trans f2 h.top, ?_, ?_⟩⟩
    · show (took ++ [_]).length = (T.reads ++ [_]).length
      rw [List.length_append, List.length_append, h.len]; rfl
    · intro p hp
      rcases List.mem_append.1 hp with hp | hp
      · exact ⟨Int.le_trans (h.all p hp).1 f1, Int.le_trans f2 (h.all p hp).2⟩
      · simp only [List.mem_singleton] at hp
        subst hp
        exact ⟨f4, f5⟩
end Go.Proofs.Ytmjpcpipacciiaa
