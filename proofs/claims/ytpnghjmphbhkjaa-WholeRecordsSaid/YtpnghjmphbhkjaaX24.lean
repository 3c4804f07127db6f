/- A ring of marks: a mark is laid behind all others. -/
import Derived.Test.YtpnghjmphbhkjaaX23
namespace Go.Proofs.Ytpnghjmphbhkjaa
open Go.Sp
set_option linter.unusedSimpArgs false
set_option linter.unusedVariables false
structure Mk where
  n : Nat
  key : ByteArray
def Mk.cells (m : Mk) : List Value := [.int .i64 m.n, .string m.key]
theorem Mk.cells_len (m : Mk) : m.cells.length = 2 := rfl
/-- A ring of C places over a heap: the marks that it holds, the oldest first. -/
structure RecAt (σ : Hp) (g b C : Nat) (M : List Mk) (since last : Nat) : Prop where
  st : ∃ (R : List Mk) (f : Nat), σ g = some (.cells [.slice (some ⟨b, 0, none⟩) C C, .int .i64 (f : Nat), .int .i64 (M.length : Nat), .int .i64 (since : Nat), .int .i64 (last : Nat)] 125) ∧ σ b = some (.row (R.flatMap Mk.cells) (C * 2) 130) ∧
    R.length = C ∧ (f < C ∨ f = 0) ∧ M.length ≤ C ∧ ∀ (i : Nat) m, M[i]? = some m → R[(f + i) % C]? = some m
def pRec (o : Blk) : Prop := isCells 125 o ∨ isRow 130 o
theorem RecAt.ks {σ σ' : Hp} {g b C : Nat} {M : List Mk} {since last : Nat} {p : Blk → Prop} (h : RecAt σ g b C M since last) (hs : KSame p σ σ') (h1 : ∀ cs, ¬ p (.cells cs 125)) (h2 : ∀ cs r, ¬ p (.row cs r 130)) : RecAt σ' g b C M since last := by
  obtain ⟨R, f, a, b', c⟩ := h.st
  exact ⟨R, f, hs _ _ a (h1 _), hs _ _ b' (h2 _ _), c⟩
def pushM (C : Nat) (M : List Mk) (since : Nat) (m : Mk) : List Mk × Nat := match M with
  | [] => if C = 0 then ([], m.n) else ([m], since)
  | a :: r => if r.length + 1 = C then (r ++ [m], a.n) else (a :: r ++ [m], since)
theorem ring_drop {C f : Nat} {R : List Mk} {a : Mk} {r : List Mk} (hC : 0 < C) (h : ∀ (i : Nat) m, (a :: r)[i]? = some m → R[(f + i) % C]? = some m) : ∀ (i : Nat) m, r[i]? = some m → R[((f + 1) % C + i) % C]? = some m := fun i m hi => by
  have := h (i + 1) m (by simpa using hi)
  rw [show (((f + 1) % C + i) % C) = (f + (i + 1)) % C by rw [Nat.mod_add_mod]; congr 1; omega]
  exact this
theorem ring_push {C f : Nat} {R : List Mk} {M : List Mk} {m : Mk} (hR : R.length = C) (hM : M.length < C) (h : ∀ (i : Nat) m, M[i]? = some m → R[(f + i) % C]? = some m) : ∀ (i : Nat) x, (M ++ [m])[i]? = some x → (R.set ((f + M.length) % C) m)[(f + i) % C]? = some x := fun i x hi => by
  have hC : 0 < C := by omega
  rw [List.getElem?_set]
  by_cases hlt : i < M.length
  · rw [List.getElem?_append_left hlt] at hi
    rw [if_neg]
    · exact h i x hi
    · intro e
      have e1 := Nat.div_add_mod (f + M.length) C
      have e2 := Nat.div_add_mod (f + i) C
      rw [e] at e1
      have h3 : (f + M.length) - (f + i) = C * ((f + M.length) / C) - C * ((f + i) / C) := by omega
      rw [← Nat.mul_sub] at h3
      have h4 : 0 < (f + M.length) / C - (f + i) / C := by
        rcases Nat.eq_zero_or_pos ((f + M.length) / C - (f + i) / C) with h5 | h5
        · rw [h5] at h3; omega
        · exact h5
      have h5 : C * 1 ≤ C * ((f + M.length) / C - (f + i) / C) := Nat.mul_le_mul_left _ h4
      omega
  · have hlt2 := (List.getElem?_eq_some_iff.1 hi).1
    simp at hlt2
    have e : i = M.length := by omega
    subst e
    rw [List.getElem?_append_right (Nat.le_refl _), Nat.sub_self] at hi
    cases hi
    rw [if_pos rfl, if_pos (by rw [hR]; exact Nat.mod_lt _ hC)]
theorem cells_zero : ∀ (n : Nat), (List.replicate n [Value.int .i64 0, Value.string ⟨#[]⟩]).flatten = (List.replicate n (⟨0, ⟨#[]⟩⟩ : Mk)).flatMap Mk.cells
  | 0 => rfl
  | n + 1 => by rw [List.replicate_succ, List.flatten_cons, List.replicate_succ, List.flatMap_cons, cells_zero n]; rfl
theorem new16 (n : Nat) (hn : n ≤ 255) (σ : Hp) : ACalls Try.prog 16 #[.int .i64 (n : Nat), .int .i64 0] σ fun u σ' => ∃ g b, ¬ g = b ∧ σ g = none ∧ σ b = none ∧ u = .pointer (some ⟨g, 0, none⟩) ∧ σ' = upd (upd σ b (.row ((List.replicate n (⟨0, ⟨#[]⟩⟩ : Mk)).flatMap Mk.cells) (n * 2) 130)) g (.cells [.slice (some ⟨b, 0, none⟩) n n, .int .i64 0, .int .i64 0, .int .i64 0, .int .i64 0] 125) := by
  have e1 : mnI (mxI (n : Int) 0) 1024 = n := by unfold mnI mxI; split <;> split <;> omega
  have e2 : mnI (mxI 0 0) 1099511627776 = 0 := by decide
  have e3 : (0 : Int) ≤ (n : Int) ∧ (n : Int) * 24 ≤ 140737488355328 ∧ (n : Int) ≤ 140737488355328 := by omega
  (refine acalls_F ok16 (by simp) ?_; unfold c16 r16)
  (repeat' (first | (simp +contextual -dsimp only [*, Mk.cells, ↓reduceIte, ↓evP, evQ, splice_nil, splice_zero, splice_skip, Nat.reduceAdd, Nat.reduceEqDiff, Nat.reduceLeDiff, Nat.reduceMul, reduceCtorEq, Int.reduceLT, Int.reduceLE, Int.reduceGT, Int.reduceGE, Int.reduceEq, Int.reduceNeg]) | (refine condF_split (fun hc => ?_) (fun hc => ?_) <;> (try simp only [Bool.not_eq_true', Bool.not_eq_false', Bool.and_eq_true, Bool.or_eq_false_iff] at hc)) | (intro _; intros) | (refine And.intro ?_ ?_; focus (first | omega | ((repeat (first | exact Sub.refl _ | (refine Sub.drop ?_ ?_; focus (simp only [evN, *]; done)) | refine Sub.both ?_)); done) | (simp_all; done) | (simp_all; omega)))))
  rename_i b hb g h1 h2 hg
  exact endF_at ⟨g, b, h1, hg, hb, rfl, by rw [cells_zero]⟩
end Go.Proofs.Ytpnghjmphbhkjaa
