/- A ring of marks: what is put, what is read. -/
import Derived.Test.YtpnghjmphbhkjaaX24
namespace Go.Proofs.Ytpnghjmphbhkjaa
open Go.Sp
set_option linter.unusedSimpArgs false
set_option linter.unusedVariables false
theorem mk_n {R : List Mk} {i : Nat} {m : Mk} (h : R[i]? = some m) : (R.flatMap Mk.cells)[i * 2]? = some (.int .i64 (m.n : Nat)) := by
  obtain ⟨A, B, e, hA⟩ := flat_split Mk.cells_len h
  rw [e, List.append_assoc, List.getElem?_append_right (by omega), hA, Nat.sub_self]; rfl
theorem mk_two {R : List Mk} {i : Nat} {m : Mk} (h : R[i]? = some m) : ((R.flatMap Mk.cells).drop (i * 2)).take 2 = [.int .i64 (m.n : Nat), .string m.key] := by
  obtain ⟨A, B, e, hA⟩ := flat_split Mk.cells_len h
  rw [e, List.append_assoc, ← hA, List.drop_left]; rfl
theorem tmod_nat (a b : Nat) : ((a : Nat) : Int).tmod (b : Nat) = ((a % b : Nat) : Int) := by rw [Int.tmod_eq_emod_of_nonneg (by omega)]; rfl
set_option maxRecDepth 8000 in
set_option maxHeartbeats 1000000 in
theorem put54 {σ : Hp} {g b C : Nat} {M : List Mk} {since last : Nat} (h : RecAt σ g b C M since last) (n : Nat) (key : ByteArray) (hC : C ≤ 255) : ACalls Try.prog 54 #[.pointer (some ⟨g, 0, none⟩), .agg #[.int .i64 (n : Nat), .string key]] σ fun u σ' => u = .tuple #[] ∧ RecAt σ' g b C (pushM C M since ⟨n, key⟩).1 (pushM C M since ⟨n, key⟩).2 last ∧ KSame pRec σ σ' := by
  obtain ⟨R, f, h1, h2, h3, h4, h5, h6⟩ := h.st
  clear h
  have hgb : ¬ g = b := fun e => by rw [← e, h1] at h2; cases h2
  have hbg : ¬ b = g := fun e => hgb e.symm
  obtain ⟨τ, rfl⟩ := open_2 h1 h2 hgb
  clear h1 h2
  rcases Nat.eq_zero_or_pos C with rfl | hp
  · have h00 : decide (((0 : Nat) : Int) = 0) = true := by decide
    (refine acalls_F ok54 (by simp) ?_; unfold c54 r54)
    (repeat' (first | (simp +contextual -dsimp only [*, ↓reduceIte, ↓evP, evQ, splice_nil, splice_zero, splice_skip, Nat.reduceAdd, Nat.reduceEqDiff, Nat.reduceLeDiff, Nat.reduceMul, reduceCtorEq, Int.reduceLT, Int.reduceLE, Int.reduceGT, Int.reduceGE, Int.reduceEq, Int.reduceNeg]) | (refine condF_split (fun hc => ?_) (fun hc => ?_) <;> (try simp only [Bool.not_eq_true', Bool.not_eq_false', Bool.and_eq_true, Bool.or_eq_false_iff] at hc)) | (intro _; intros) | (refine And.intro ?_ ?_; focus (first | omega | ((repeat (first | exact Sub.refl _ | (refine Sub.drop ?_ ?_; focus (simp only [evN, *]; done)) | refine Sub.both ?_)); done) | (simp_all; done) | (simp_all; omega)))))
    obtain rfl : M = [] := List.eq_nil_of_length_eq_zero (by omega)
    refine endF_sub (τ := upd (upd τ b (.row (R.flatMap Mk.cells) (0 * 2) 130)) g (.cells [.slice (some ⟨b, 0, none⟩) 0 0, .int .i64 (f : Nat), .int .i64 (0 : Nat), .int .i64 (n : Nat), .int .i64 (last : Nat)] 125)) (by (repeat (first | exact Sub.refl _ | (refine Sub.drop ?_ ?_; focus (simp only [evN, *]; done)) | refine Sub.both ?_)); done) ⟨rfl, ⟨R, f, upd_same _ _ _, by rw [upd_ne _ _ hbg, upd_same], h3, h4, Nat.le_refl _, fun i m h => by cases h⟩, (KSame.refl _ _).both (.inl rfl) _⟩
  · have h00 : decide ((C : Int) = 0) = false := by simp; omega
    have hn0 : ¬ (C : Int) = 0 := by omega
    have hlen : (R.flatMap Mk.cells).length = C * 2 := by rw [flat_len Mk.cells_len, h3]
    have w1 : IntKind.i64.wrap ((f : Int) + 1) = ((f + 1 : Nat) : Int) := by rw [wi64 (by omega)]; rfl
    by_cases hf : M.length = C
    · obtain ⟨m0, r, rfl⟩ : ∃ m0 r, M = m0 :: r := by cases M with | nil => simp at hf; omega | cons a r => exact ⟨a, r, rfl⟩
      have hfC : f < C := by omega
      have hr : r.length + 1 = C := hf
      have g0 := h6 0 m0 rfl
      rw [Nat.add_zero, Nat.mod_eq_of_lt hfC] at g0
      have g1 := mk_n g0
      have t1 := tmod_nat (f + 1) C
      obtain ⟨L, hL⟩ : ∃ L, L = r.length := ⟨_, rfl⟩
      have eL : ((m0 :: r).length : Nat) = L + 1 := by rw [hL]; rfl
      rw [eL]
      have hfull : decide (((L + 1 : Nat) : Int) = (C : Int)) = true := by simp; omega
      have w0 : IntKind.i64.wrap (((L + 1 : Nat) : Int) - 1) = (L : Int) := by rw [wi64 (by omega)]; omega
      have w2 : IntKind.i64.wrap ((((f + 1) % C : Nat) : Int) + (L : Int)) = (((f + 1) % C + L : Nat) : Int) := by have := Nat.mod_lt (f + 1) hp; rw [wi64 (by omega)]; rfl
      have t2 := tmod_nat ((f + 1) % C + L) C
      have hi := Nat.mod_lt ((f + 1) % C + L) hp
      have hfit : ((f + 1) % C + L) % C * 2 + 2 ≤ C * 2 := by omega
      have hsp : splice (R.flatMap Mk.cells) (((f + 1) % C + L) % C * 2) [.int .i64 (n : Nat), .string key] = (R.set (((f + 1) % C + L) % C) ⟨n, key⟩).flatMap Mk.cells := splice_flat Mk.cells_len (l := R) (by omega) ⟨n, key⟩
      have w3 : IntKind.i64.wrap ((L : Int) + 1) = ((L + 1 : Nat) : Int) := by rw [wi64 (by omega)]; rfl
      have hring := Hid.mk (ring_push (m := ⟨n, key⟩) h3 (M := r) (by omega) (ring_drop hp h6))
      rw [← hL] at hring
      have hpu : pushM C (m0 :: r) since ⟨n, key⟩ = (r ++ [⟨n, key⟩], m0.n) := if_pos hr
      have H := Hid.mk (And.intro hL (And.intro hr (And.intro hf (And.intro h6 (And.intro h5 g0)))))
      clear hL hr hf h6 h5 g0 eL
      (refine acalls_F ok54 (by simp) ?_; unfold c54 r54)
      (repeat' (first | (simp +contextual -dsimp only [*, ↓reduceIte, ↓evP, evQ, splice_nil, splice_zero, splice_skip, Nat.reduceAdd, Nat.reduceEqDiff, Nat.reduceLeDiff, Nat.reduceMul, reduceCtorEq, Int.reduceLT, Int.reduceLE, Int.reduceGT, Int.reduceGE, Int.reduceEq, Int.reduceNeg]) | (refine condF_split (fun hc => ?_) (fun hc => ?_) <;> (try simp only [Bool.not_eq_true', Bool.not_eq_false', Bool.and_eq_true, Bool.or_eq_false_iff] at hc)) | (intro _; intros) | (refine And.intro ?_ ?_; focus (first | omega | ((repeat (first | exact Sub.refl _ | (refine Sub.drop ?_ ?_; focus (simp only [evN, *]; done)) | refine Sub.both ?_)); done) | (simp_all; done) | (simp_all; omega)))))
      rw [hpu]
      refine endF_sub (τ := upd (upd τ b (.row ((R.set (((f + 1) % C + L) % C) ⟨n, key⟩).flatMap Mk.cells) (C * 2) 130)) g (.cells [.slice (some ⟨b, 0, none⟩) C C, .int .i64 ((f + 1) % C : Nat), .int .i64 (L + 1 : Nat), .int .i64 (m0.n : Nat), .int .i64 (last : Nat)] 125)) (by (repeat (first | exact Sub.refl _ | (refine Sub.drop ?_ ?_; focus (simp only [evN, *]; done)) | refine Sub.both ?_)); done) ⟨rfl, ⟨R.set (((f + 1) % C + L) % C) ⟨n, key⟩, (f + 1) % C, ?_, by rw [upd_ne _ _ hbg, upd_same], by rw [List.length_set]; exact h3, .inl (Nat.mod_lt _ hp), ?_, ?_⟩, ((KSame.refl _ _).both (.inr rfl) _).both (.inl rfl) _⟩
      · obtain ⟨hL, hr, _⟩ := H.out
        rw [upd_same, List.length_append, ← hL]; rfl
      · obtain ⟨hL, hr, _⟩ := H.out
        rw [List.length_append]; show r.length + 1 ≤ C; omega
      · exact hring.out
    · have hfull : decide ((M.length : Int) = (C : Int)) = false := by simp; omega
      have w2 : IntKind.i64.wrap ((f : Int) + (M.length : Int)) = ((f + M.length : Nat) : Int) := by rw [wi64 (by omega)]; rfl
      have t2 := tmod_nat (f + M.length) C
      have hi := Nat.mod_lt (f + M.length) hp
      have hfit : (f + M.length) % C * 2 + 2 ≤ C * 2 := by omega
      have hsp : splice (R.flatMap Mk.cells) ((f + M.length) % C * 2) [.int .i64 (n : Nat), .string key] = (R.set ((f + M.length) % C) ⟨n, key⟩).flatMap Mk.cells := splice_flat Mk.cells_len (l := R) (by omega) ⟨n, key⟩
      have w3 : IntKind.i64.wrap ((M.length : Int) + 1) = ((M.length + 1 : Nat) : Int) := by rw [wi64 (by omega)]; rfl
      have hring := Hid.mk (ring_push (m := ⟨n, key⟩) h3 (by omega) h6)
      have hpu : pushM C M since ⟨n, key⟩ = (M ++ [⟨n, key⟩], since) := by
        unfold pushM
        cases M with
        | nil => simp; omega
        | cons a r => exact if_neg hf
      (refine acalls_F ok54 (by simp) ?_; unfold c54 r54)
      (repeat' (first | (simp +contextual -dsimp only [*, ↓reduceIte, ↓evP, evQ, splice_nil, splice_zero, splice_skip, Nat.reduceAdd, Nat.reduceEqDiff, Nat.reduceLeDiff, Nat.reduceMul, reduceCtorEq, Int.reduceLT, Int.reduceLE, Int.reduceGT, Int.reduceGE, Int.reduceEq, Int.reduceNeg]) | (refine condF_split (fun hc => ?_) (fun hc => ?_) <;> (try simp only [Bool.not_eq_true', Bool.not_eq_false', Bool.and_eq_true, Bool.or_eq_false_iff] at hc)) | (intro _; intros) | (refine And.intro ?_ ?_; focus (first | omega | ((repeat (first | exact Sub.refl _ | (refine Sub.drop ?_ ?_; focus (simp only [evN, *]; done)) | refine Sub.both ?_)); done) | (simp_all; done) | (simp_all; omega)))))
      rw [hpu]
      exact endF_sub (τ := upd (upd τ b (.row ((R.set ((f + M.length) % C) ⟨n, key⟩).flatMap Mk.cells) (C * 2) 130)) g (.cells [.slice (some ⟨b, 0, none⟩) C C, .int .i64 (f : Nat), .int .i64 (M.length + 1 : Nat), .int .i64 (since : Nat), .int .i64 (last : Nat)] 125)) (by (repeat (first | exact Sub.refl _ | (refine Sub.drop ?_ ?_; focus (simp only [evN, *]; done)) | refine Sub.both ?_)); done) ⟨rfl, ⟨R.set ((f + M.length) % C) ⟨n, key⟩, f, by rw [upd_same, List.length_append]; rfl, by rw [upd_ne _ _ hbg, upd_same], by rw [List.length_set]; exact h3, h4, by rw [List.length_append]; simp; omega, hring.out⟩, ((KSame.refl _ _).both (.inr rfl) _).both (.inl rfl) _⟩
end Go.Proofs.Ytpnghjmphbhkjaa
