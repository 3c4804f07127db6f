/- A gap: what waits, and what is given out. -/
import Derived.Test.YtpnghjmphbhkjaaX20
namespace Go.Proofs.Ytpnghjmphbhkjaa
open Go.Sp
set_option linter.unusedSimpArgs false
set_option linter.unusedVariables false
theorem mget_mem {κ : Type} [DecidableEq κ] {k : κ} {v : Value} : ∀ {l : List (κ × Value)}, mget l k = some v → (k, v) ∈ l
  | [], h => by cases h
  | p :: r, h => by
    unfold mget at h
    by_cases e : k = p.1
    · rw [if_pos e] at h; cases h; rw [e]; exact List.mem_cons_self
    · rw [if_neg e] at h; exact List.mem_cons_of_mem _ (mget_mem h)
theorem mget_none {κ : Type} [DecidableEq κ] {k : κ} : ∀ {l : List (κ × Value)}, mget l k = none → k ∉ l.map (·.1)
  | [], _ => by simp
  | p :: r, h => by
    unfold mget at h
    by_cases e : k = p.1
    · rw [if_pos e] at h; cases h
    · rw [if_neg e] at h
      simp only [List.map_cons, List.mem_cons, not_or]
      exact ⟨e, mget_none h⟩
theorem mput_new {κ : Type} [DecidableEq κ] {k : κ} (v : Value) : ∀ {l : List (κ × Value)}, mget l k = none → mput l k v = l ++ [(k, v)]
  | [], _ => rfl
  | p :: r, h => by
    unfold mget at h
    by_cases e : k = p.1
    · rw [if_pos e] at h; cases h
    · rw [if_neg e] at h
      unfold mput
      rw [if_neg e, mput_new v h]; rfl
theorem mdel_sub {κ : Type} [DecidableEq κ] (k : κ) : ∀ (l : List (κ × Value)), List.Sublist (mdel l k) l
  | [] => List.Sublist.slnil
  | p :: r => by
    unfold mdel
    by_cases e : k = p.1
    · rw [if_pos e]; exact List.sublist_cons_self _ _
    · rw [if_neg e]; exact (mdel_sub k r).cons_cons p
theorem mdel_not {κ : Type} [DecidableEq κ] {k : κ} : ∀ {l : List (κ × Value)}, (l.map (·.1)).Nodup → k ∉ (mdel l k).map (·.1)
  | [], _ => by simp [mdel]
  | p :: r, h => by
    obtain ⟨h1, h2⟩ := List.nodup_cons.1 h
    unfold mdel
    by_cases e : k = p.1
    · rw [if_pos e, e]; exact h1
    · rw [if_neg e]
      simp only [List.map_cons, List.mem_cons, not_or]
      exact ⟨e, mdel_not h2⟩
theorem nodup_bound : ∀ (N : Nat) (l : List Int), l.Nodup → (∀ x ∈ l, 1 ≤ x ∧ x ≤ (N : Int)) → l.length ≤ N
  | 0, l, _, h => by
    cases l with
    | nil => exact Nat.le_refl _
    | cons x r => have := h x List.mem_cons_self; omega
  | N + 1, l, hn, h => by
    have h1 : (l.filter (fun x => decide (x ≠ ((N + 1 : Nat) : Int)))).length ≤ N := nodup_bound N _ (hn.sublist List.filter_sublist) fun x hx => by
      obtain ⟨h2, h3⟩ := List.mem_filter.1 hx
      have := h x h2
      have := of_decide_eq_true h3
      omega
    have h2 : ∀ (l : List Int), l.Nodup → ∀ a : Int, l.length ≤ (l.filter (fun x => decide (x ≠ a))).length + 1 := by
      intro l
      induction l with
      | nil => intro _ a; simp
      | cons y r ih =>
        intro hn a
        obtain ⟨h1, h2⟩ := List.nodup_cons.1 hn
        by_cases e : y = a
        · have e2 : (y :: r).filter (fun x => decide (x ≠ a)) = r.filter (fun x => decide (x ≠ a)) := List.filter_cons_of_neg (by simp [e])
          have e3 : r.filter (fun x => decide (x ≠ a)) = r := by
            rw [List.filter_eq_self]
            intro x hx
            simp only [ne_eq, decide_not, Bool.not_eq_true', decide_eq_false_iff_not]
            intro e4; exact h1 (by rw [e, ← e4]; exact hx)
          rw [e2, e3]; exact Nat.le_refl _
        · have e2 : (y :: r).filter (fun x => decide (x ≠ a)) = y :: r.filter (fun x => decide (x ≠ a)) := List.filter_cons_of_pos (by simp [e])
          rw [e2]
          have := ih h2 a
          simp only [List.length_cons]; omega
    have := h2 l hn ((N + 1 : Nat) : Int)
    omega
/-- A record, as a wait or an answer holds it: its keys lie in a row of their own. -/
def rc (p : Nat × Value) : List Value := [.int .i64 p.1, p.2]
theorem rc_len (p : Nat × Value) : (rc p).length = 2 := rfl
def RecRep (σ : Hp) (H : List (List ByteArray)) (n : Nat) (kv : Value) : Prop := ∃ ks, 1 ≤ n ∧ H[n - 1]? = some ks ∧ RowsAt 9 1 sC σ kv ks ∧ ks.length ≤ 8
theorem RecRep.ks {σ σ' : Hp} {H : List (List ByteArray)} {n : Nat} {kv : Value} {p : Blk → Prop} (h : RecRep σ H n kv) (hs : KSame p σ σ') (hp : ∀ cs r, ¬ p (.row cs r 9)) : RecRep σ' H n kv := by
  obtain ⟨ks, a, b, c, d⟩ := h
  exact ⟨ks, a, b, c.ks hs hp, d⟩
/-- What waits: numbers above a. -/
structure WaitsAt (σ : Hp) (m : Nat) (H : List (List ByteArray)) (a : Nat) (l : List (Int × Value)) : Prop where
  map : σ m = some (.im l)
  once : (l.map (·.1)).Nodup
  each : ∀ p ∈ l, ∃ (j : Nat) (kv : Value), p.1 = (j : Int) ∧ a < j ∧ j ≤ H.length ∧ p.2 = .agg #[.int .i64 (j : Nat), kv] ∧ RecRep σ H j kv
structure GapAt (σ : Hp) (g m : Nat) (H : List (List ByteArray)) (a : Nat) : Prop where
  cell : σ g = some (.cells [.int .i64 (a : Nat), .int .i64 256, .map (some m)] 121)
  waits : ∃ l, WaitsAt σ m H (a + 1) l
  le : a ≤ H.length
/-- What a gap turns. -/
def pGap (o : Blk) : Prop := isCells 121 o ∨ isIm o ∨ isRow 51 o
theorem pGap_9 (cs : List Value) (r : Nat) : ¬ pGap (.row cs r 9) := by
  rintro (h | h | h)
  · exact h.elim
  · exact h.elim
  · exact absurd (show (9 : Nat) = 51 from h) (by decide)
theorem WaitsAt.len {σ : Hp} {m : Nat} {H : List (List ByteArray)} {a : Nat} {l : List (Int × Value)} (h : WaitsAt σ m H a l) : l.length ≤ H.length := by
  have := nodup_bound H.length (l.map (·.1)) h.once fun x hx => by
    obtain ⟨p, hp, rfl⟩ := List.mem_map.1 hx
    obtain ⟨j, kv, e, h1, h2, _⟩ := h.each p hp
    rw [e]; omega
  simpa using this
theorem WaitsAt.ks {σ σ' : Hp} {m : Nat} {H : List (List ByteArray)} {a : Nat} {l : List (Int × Value)} {p : Blk → Prop} (h : WaitsAt σ m H a l) (hs : KSame p σ σ') (h1 : ∀ l, ¬ p (.im l)) (h2 : ∀ cs r, ¬ p (.row cs r 9)) : WaitsAt σ' m H a l :=
  ⟨hs _ _ h.map (h1 _), h.once, fun q hq => by
    obtain ⟨j, kv, a, b, c, d, e⟩ := h.each q hq
    exact ⟨j, kv, a, b, c, d, e.ks hs h2⟩⟩
theorem GapAt.ks {σ σ' : Hp} {g m : Nat} {H : List (List ByteArray)} {a : Nat} {p : Blk → Prop} (h : GapAt σ g m H a) (hs : KSame p σ σ') (h0 : ∀ cs, ¬ p (.cells cs 121)) (h1 : ∀ l, ¬ p (.im l)) (h2 : ∀ cs r, ¬ p (.row cs r 9)) : GapAt σ' g m H a := by
  obtain ⟨l, hl⟩ := h.waits
  exact ⟨hs _ _ h.cell (h0 _), ⟨l, hl.ks hs h1 h2⟩, h.le⟩
/-- A list of records given out: those behind a0, one by one. -/
structure OutAt (σ : Hp) (v : Value) (H : List (List ByteArray)) (a0 n : Nat) : Prop where
  out : ∃ L, RowsAt 51 2 rc σ v L ∧ L.length = n ∧ ∀ (i : Nat) p, L[i]? = some p → p.1 = a0 + 1 + i ∧ RecRep σ H p.1 p.2
theorem OutAt.ks {σ σ' : Hp} {v : Value} {H : List (List ByteArray)} {a0 n : Nat} {p : Blk → Prop} (h : OutAt σ v H a0 n) (hs : KSame p σ σ') (h1 : ∀ cs r, ¬ p (.row cs r 51)) (h2 : ∀ cs r, ¬ p (.row cs r 9)) : OutAt σ' v H a0 n := by
  obtain ⟨L, a, b, c⟩ := h.out
  exact ⟨L, a.ks hs h1, b, fun i q hq => ⟨(c i q hq).1, (c i q hq).2.ks hs h2⟩⟩
end Go.Proofs.Ytpnghjmphbhkjaa
