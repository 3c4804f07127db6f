/- The stream: what may be appended. -/
import Derived.Test.YtpnghjmphbhkjaaX5
import Derived.Test.YtpnghjmphbhkjaaX4
namespace Go.Proofs.Ytpnghjmphbhkjaa
open Go.Sp
set_option linter.unusedSimpArgs false
set_option linter.unusedVariables false
def goodS (k : ByteArray) : Bool := !decide (k = ⟨#[]⟩) && !decide ((k.size : Int) > 32)
/-- What is wrong with keys: if they are good, nothing; else something or nothing. -/
structure ChkS (ks : List ByteArray) (e : Int) : Prop where
  good : ks.length ≠ 0 → ks.length ≤ 8 → (∀ k ∈ ks, goodS k = true) → ks.Nodup → e = 0
  few : e = 0 → ks.length ≠ 0 ∧ ks.length ≤ 8 ∧ ∀ k ∈ ks, goodS k = true
set_option maxHeartbeats 1000000 in
theorem check43 {σ : Hp} {v : Value} {ks : List ByteArray} (hv : RoRows 1 sC σ v ks) (hn : ks.length ≤ 140737488355328) : ACalls Try.prog 43 #[v] σ fun u σ' => (∃ e, u = .int .i64 e ∧ ChkS ks e) ∧ σ' = σ := by
  have HV := Hid.mk hv
  obtain ⟨A, c, rfl, hrow⟩ := hv
  have H := Hid.mk hrow
  clear hrow
  (refine acalls_F ok43 (by simp) ?_; unfold c43 r43)
  (repeat' (first | (simp +contextual -dsimp only [*, ↓reduceIte, ↓evP, evQ, splice, Nat.reduceAdd, Nat.reduceEqDiff, Nat.reduceLeDiff, Nat.reduceMul, reduceCtorEq, Int.reduceLT, Int.reduceLE, Int.reduceGT, Int.reduceGE, Int.reduceEq, Int.reduceNeg]) | (refine condF_split (fun hc => ?_) (fun hc => ?_) <;> (try simp only [Bool.not_eq_true', Bool.not_eq_false', Bool.and_eq_true, Bool.or_eq_false_iff] at hc)) | refine vcallF_mk (by kernel_rfl) ?_ | refine vccallF_mk (by kernel_rfl) ?_ | (intro _; intros) | (refine And.intro ?_ ?_; focus (first | omega | ((repeat (first | exact Sub.refl _ | (refine Sub.drop ?_ ?_; focus (simp only [evN, *]; done)) | refine Sub.both ?_)); done) | (simp_all; done) | (simp_all; omega)))))
  · refine endF_at ⟨⟨1, rfl, ⟨fun h => ?_, fun h => absurd h (by decide)⟩⟩, rfl⟩
    have := of_decide_eq_true hc; omega
  · refine endF_at ⟨⟨1, rfl, ⟨fun _ h => ?_, fun h => absurd h (by decide)⟩⟩, rfl⟩
    have := of_decide_eq_true hc; omega
  have hlen : ks.length ≠ 0 ∧ ks.length ≤ 8 := by
    have h1 := of_decide_eq_false hc
    have h2 : ¬ ((ks.length : Int) = 0) := of_decide_eq_false (by assumption)
    omega
  clear hc
  refine loopF_of (fun k s σ' => ∃ i : Nat, i ≤ ks.length ∧ k = ks.length - i ∧ s 16 = .int .i64 i ∧ s 15 = .int .i64 ks.length ∧ s 14 = .slice A ks.length c ∧ s 0 = .slice A ks.length c ∧ σ' = σ ∧ ∀ j x, j < i → ks[j]? = some x → goodS x = true) ks.length (Sub.refl _)
    ⟨0, by omega, rfl, (by first | rfl | (simp only [↓putO_get, ↓putO_no, init_zero, init_succ, Nat.reduceEqDiff, ↓reduceIte, *]; done) | (simp only [↓putO_get, ↓putO_no, init_zero, init_succ, Nat.reduceEqDiff, ↓reduceIte, *]; rfl)), (by first | rfl | (simp only [↓putO_get, ↓putO_no, init_zero, init_succ, Nat.reduceEqDiff, ↓reduceIte, *]; done) | (simp only [↓putO_get, ↓putO_no, init_zero, init_succ, Nat.reduceEqDiff, ↓reduceIte, *]; rfl)), (by first | rfl | (simp only [↓putO_get, ↓putO_no, init_zero, init_succ, Nat.reduceEqDiff, ↓reduceIte, *]; done) | (simp only [↓putO_get, ↓putO_no, init_zero, init_succ, Nat.reduceEqDiff, ↓reduceIte, *]; rfl)), (by first | rfl | (simp only [↓putO_get, ↓putO_no, init_zero, init_succ, Nat.reduceEqDiff, ↓reduceIte, *]; done) | (simp only [↓putO_get, ↓putO_no, init_zero, init_succ, Nat.reduceEqDiff, ↓reduceIte, *]; rfl)), rfl, fun j x h => by omega⟩ ?_
  rintro k s τ ⟨i, hi, hk, h16, h15, h14, h0, hτ, hgood⟩
  subst hτ
  rcases Nat.lt_or_ge i ks.length with hlt | hge
  · obtain ⟨x, hx⟩ : ∃ x, ks[i]? = some x := ⟨_, List.getElem?_eq_getElem hlt⟩
    obtain ⟨b, off, rfl, hrd⟩ := H.out i x hx
    have hrd := rd_of_rdn hrd
    have hd : decide ((i : Int) < (ks.length : Int)) = true := by simp; omega
    have e1 : IntKind.i64.wrap ((i : Int) + 1) = ((i + 1 : Nat) : Int) := by rw [wi64 (by omega)]; rfl
    have HX := Hid.mk (And.intro hx hgood)
    have HL := Hid.mk hlen
    clear hx hgood hlen
    (repeat' (first | (simp +contextual -dsimp only [*, ↓reduceIte, ↓evP, evQ, splice, Nat.reduceAdd, Nat.reduceEqDiff, Nat.reduceLeDiff, Nat.reduceMul, reduceCtorEq, Int.reduceLT, Int.reduceLE, Int.reduceGT, Int.reduceGE, Int.reduceEq, Int.reduceNeg]) | (refine condF_split (fun hc => ?_) (fun hc => ?_) <;> (try simp only [Bool.not_eq_true', Bool.not_eq_false', Bool.and_eq_true, Bool.or_eq_false_iff] at hc)) | refine vcallF_mk (by kernel_rfl) ?_ | refine vccallF_mk (by kernel_rfl) ?_ | (intro _; intros) | (refine And.intro ?_ ?_; focus (first | omega | ((repeat (first | exact Sub.refl _ | (refine Sub.drop ?_ ?_; focus (simp only [evN, *]; done)) | refine Sub.both ?_)); done) | (simp_all; done) | (simp_all; omega)))))
    · refine endF_at ⟨⟨1, rfl, ⟨fun _ _ h => ?_, fun h => absurd h (by decide)⟩⟩, rfl⟩
      have := h x (List.mem_of_getElem? HX.out.1)
      unfold goodS at this; rw [hc] at this; cases this
    · refine endF_at ⟨⟨1, rfl, ⟨fun _ _ h => ?_, fun h => absurd h (by decide)⟩⟩, rfl⟩
      have := h x (List.mem_of_getElem? HX.out.1)
      unfold goodS at this; rw [hc, Bool.and_comm] at this; cases this
    · refine nextF_of (ks.length - (i + 1)) (by omega) (Sub.refl _) ⟨i + 1, by omega, rfl, (by first | rfl | (simp only [↓putO_get, ↓putO_no, init_zero, init_succ, Nat.reduceEqDiff, ↓reduceIte, *]; done) | (simp only [↓putO_get, ↓putO_no, init_zero, init_succ, Nat.reduceEqDiff, ↓reduceIte, *]; rfl)), (by first | rfl | (simp only [↓putO_get, ↓putO_no, init_zero, init_succ, Nat.reduceEqDiff, ↓reduceIte, *]; done) | (simp only [↓putO_get, ↓putO_no, init_zero, init_succ, Nat.reduceEqDiff, ↓reduceIte, *]; rfl)), (by first | rfl | (simp only [↓putO_get, ↓putO_no, init_zero, init_succ, Nat.reduceEqDiff, ↓reduceIte, *]; done) | (simp only [↓putO_get, ↓putO_no, init_zero, init_succ, Nat.reduceEqDiff, ↓reduceIte, *]; rfl)), (by first | rfl | (simp only [↓putO_get, ↓putO_no, init_zero, init_succ, Nat.reduceEqDiff, ↓reduceIte, *]; done) | (simp only [↓putO_get, ↓putO_no, init_zero, init_succ, Nat.reduceEqDiff, ↓reduceIte, *]; rfl)), rfl, fun j y hj hy => ?_⟩
      rcases Nat.lt_or_ge j i with h | h
      · exact HX.out.2 j y h hy
      · obtain rfl : j = i := by omega
        rw [HX.out.1] at hy; cases hy
        unfold goodS; rw [hc, (show decide (x = ⟨#[]⟩) = false by assumption)]; rfl
  · have hd : decide ((i : Int) < (ks.length : Int)) = false := by simp; omega
    have HX := Hid.mk hgood
    have HL := Hid.mk hlen
    clear hgood hlen
    simp +contextual -dsimp only [*, ↓reduceIte, ↓evP, evQ, splice, Nat.reduceAdd, Nat.reduceEqDiff, Nat.reduceLeDiff, Nat.reduceMul, reduceCtorEq, Int.reduceLT, Int.reduceLE, Int.reduceGT, Int.reduceGE, Int.reduceEq, Int.reduceNeg]
    refine callF_of (values75 _ rfl _) ?_
    rintro u σ' ⟨B, hB, rfl, rfl⟩
    simp +contextual -dsimp only [*, ↓reduceIte, ↓evP, evQ, splice, Nat.reduceAdd, Nat.reduceEqDiff, Nat.reduceLeDiff, Nat.reduceMul, reduceCtorEq, Int.reduceLT, Int.reduceLE, Int.reduceGT, Int.reduceGE, Int.reduceEq, Int.reduceNeg]
    have hB' : ∀ y, τ y = none → y ≠ B → upd τ B (.cells (cl (.slice A ks.length c)) 36) y = none := fun y hy e => by rw [upd_ne _ _ e]; exact hy
    have h1 := HL.out
    refine callF_of (sorted69a (upd_same _ _ _) (HV.out.sub (Sub.drop hB (Sub.refl _))) (fun e => h1.1 (by rw [e]; rfl)) (by omega)) ?_
    rintro u σ'' ⟨b2, c2, hb2, hc2, rfl, rfl⟩
    (repeat' (first | (simp +contextual -dsimp only [*, ↓reduceIte, ↓evP, evQ, splice, Nat.reduceAdd, Nat.reduceEqDiff, Nat.reduceLeDiff, Nat.reduceMul, reduceCtorEq, Int.reduceLT, Int.reduceLE, Int.reduceGT, Int.reduceGE, Int.reduceEq, Int.reduceNeg]) | (refine condF_split (fun hc => ?_) (fun hc => ?_) <;> (try simp only [Bool.not_eq_true', Bool.not_eq_false', Bool.and_eq_true, Bool.or_eq_false_iff] at hc)) | refine callF_v (compact76 (sortedK_len ks) hc2 (by omega)) ?_ | refine ccallF_of (compact76 (sortedK_len ks) hc2 (by omega)) ?_ | refine gcallF_of (compact76 (sortedK_len ks) hc2 (by omega)) ?_ | refine vcallF_mk (by kernel_rfl) ?_ | refine vccallF_mk (by kernel_rfl) ?_ | (intro _; intros) | (refine And.intro ?_ ?_; focus (first | omega | ((repeat (first | exact Sub.refl _ | (refine Sub.drop ?_ ?_; focus (simp only [evN, *]; done)) | refine Sub.both ?_)); done) | (simp_all; done) | (simp_all; omega)))))
    · refine endF_sub (Sub.drop ((none_upd _ _ _ _).1 hb2).2 (Sub.drop hB (Sub.refl _))) ⟨⟨22, rfl, ⟨fun _ _ _ hnd => ?_, fun h => absurd h (by decide)⟩⟩, rfl⟩
      have := of_decide_eq_true hc
      rw [compact_nodup (sorted_nodup hnd), sortedK_len] at this
      omega
    · refine endF_sub (Sub.drop ((none_upd _ _ _ _).1 hb2).2 (Sub.drop hB (Sub.refl _))) ⟨⟨0, rfl, ⟨fun _ _ _ _ => rfl, fun _ => ⟨h1.1, h1.2, fun k hk => ?_⟩⟩⟩, rfl⟩
      obtain ⟨j, hj⟩ := List.getElem?_of_mem hk
      exact HX.out j k (by have := (List.getElem?_eq_some_iff.1 hj).1; omega) hj
end Go.Proofs.Ytpnghjmphbhkjaa
