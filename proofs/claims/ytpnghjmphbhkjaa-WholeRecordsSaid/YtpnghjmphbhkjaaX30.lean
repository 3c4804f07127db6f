/- WholeRecords: one record is got and put. -/
import Derived.Test.YtpnghjmphbhkjaaX29
namespace Go.Proofs.Ytpnghjmphbhkjaa
open Go.Sp
set_option linter.unusedSimpArgs false
set_option linter.unusedVariables false
set_option maxHeartbeats 4000000 in
set_option maxRecDepth 10000 in
theorem rest4 {Q : Exit → Sl → Hp → Prop} {σ0 σ : Hp} {gl g m gr b C : Nat} {v : Value} {H : List (List ByteArray)} {a j : Nat} (hW : WR σ0 σ gl g m gr b C v H a a) (hC : C ≤ 255) (hH : H.length ≤ 255) (hj : j < H.length) {s : Sl} {v0 v1 v2 v3 v4 v17 : Value}
    (s0 : s 0 = v0) (s1 : s 1 = v1) (s3 : s 3 = v3) (s4 : s 4 = v4) (s17 : s 17 = v17) (s18 : s 18 = .int .i64 (j + 1 : Nat)) (s11 : s 11 = .pointer (some ⟨gl, 0, none⟩)) (s12 : s 12 = .pointer (some ⟨g, 0, none⟩)) (s13 : s 13 = .pointer (some ⟨gr, 0, none⟩))
    (hk : ∀ s' σ' a', a ≤ a' → (j = a → a < a') → WR σ0 σ' gl g m gr b C v H a' a' → s' 0 = v0 → s' 1 = v1 → s' 3 = v3 → s' 4 = v4 → s' 17 = v17 → s' 11 = .pointer (some ⟨gl, 0, none⟩) → s' 12 = .pointer (some ⟨g, 0, none⟩) → s' 13 = .pointer (some ⟨gr, 0, none⟩) → Q .normal s' σ') :
    codeF Try.prog c4_sr93 Q s σ ⟨⟩ := by
  have HK := Hid.mk hk
  obtain ⟨ks, hks⟩ : ∃ ks, H[j]? = some ks := ⟨_, List.getElem?_eq_getElem hj⟩
  have h8 : ks.length ≤ 8 := by obtain ⟨_, _, _, _, _, _, _, h⟩ := hW.log.get hks; exact h
  have q2 := get17 hW.log j hks (by omega)
  have HA := Hid.mk (And.intro hW (And.intro hks h8))
  clear hk hW hks h8
  unfold c4_sr93 c4_br93 c4_tr93
  simp +contextual -dsimp only [*, bne_self_eq_false, Bool.not_true, Bool.not_false, beq_self_eq_true, ↓reduceIte, ↓evP, evQ, splice, Nat.reduceAdd, Nat.reduceEqDiff, Nat.reduceLeDiff, Nat.reduceMul, reduceCtorEq, Int.reduceLT, Int.reduceLE, Int.reduceGT, Int.reduceGE, Int.reduceEq, Int.reduceNeg]
  refine callF_of q2 ?_
  rintro u σ' ⟨y, cy, hy, hcy, rfl, rfl⟩
  clear q2
  (repeat' (first | (simp +contextual -dsimp only [*, bne_self_eq_false, Bool.not_true, Bool.not_false, beq_self_eq_true, ↓reduceIte, ↓evP, evQ, splice, Nat.reduceAdd, Nat.reduceEqDiff, Nat.reduceLeDiff, Nat.reduceMul, reduceCtorEq, Int.reduceLT, Int.reduceLE, Int.reduceGT, Int.reduceGE, Int.reduceEq, Int.reduceNeg]) | (refine condF_split (fun hc => ?_) (fun hc => ?_) <;> (try simp only [Bool.not_eq_true', Bool.not_eq_false', Bool.and_eq_true, Bool.or_eq_false_iff] at hc)) | (intro _; intros) | (refine And.intro ?_ ?_; focus (first | omega | ((repeat (first | exact Sub.refl _ | (refine Sub.drop ?_ ?_; focus (simp only [evN, *]; done)) | refine Sub.both ?_)); done) | (simp_all; done) | (simp_all; omega)))))
  rename_i z hz1 hz2 hz
  obtain ⟨hW, hks, h8⟩ := HA.out
  have hzz : upd σ y (.row (ks.flatMap sC) (cy * 1) 9) z = none := (by simp only [evN, *]; done)
  have hW2 := (hW.fresh hy (.row (ks.flatMap sC) (cy * 1) 9)).fresh hzz (.cells [.int .i64 (j + 1 : Nat), .slice (some ⟨y, 0, none⟩) ks.length cy] 51)
  have hr : RecRep (upd (upd σ y (.row (ks.flatMap sC) (cy * 1) 9)) z (.cells [.int .i64 (j + 1 : Nat), .slice (some ⟨y, 0, none⟩) ks.length cy] 51)) H (j + 1) (.slice (some ⟨y, 0, none⟩) ks.length cy) :=
    ⟨ks, by omega, by rw [Nat.add_sub_cancel]; exact hks, .inr ⟨y, cy, rfl, hcy, by rw [upd_ne _ _ hz2, upd_same]⟩, h8⟩
  clear hW
  refine callF_of (put18 hW2.gap (j + 1) (by omega) hr hH) ?_
  rintro u σ' ⟨w, a', rfl, h1, h2, h3, h4, h5⟩
  have hW3 := hW2.toGap h3 h5
  have HB := Hid.mk (And.intro hW3 h4)
  clear hW2 hr h3 h4 h5 hW3 hz hz1 hz2 hzz hy
  (repeat' (first | (simp +contextual -dsimp only [*, bne_self_eq_false, Bool.not_true, Bool.not_false, beq_self_eq_true, ↓reduceIte, ↓evP, evQ, splice, Nat.reduceAdd, Nat.reduceEqDiff, Nat.reduceLeDiff, Nat.reduceMul, reduceCtorEq, Int.reduceLT, Int.reduceLE, Int.reduceGT, Int.reduceGE, Int.reduceEq, Int.reduceNeg]) | (refine condF_split (fun hc => ?_) (fun hc => ?_) <;> (try simp only [Bool.not_eq_true', Bool.not_eq_false', Bool.and_eq_true, Bool.or_eq_false_iff] at hc)) | (intro _; intros) | (refine And.intro ?_ ?_; focus (first | omega | ((repeat (first | exact Sub.refl _ | (refine Sub.drop ?_ ?_; focus (simp only [evN, *]; done)) | refine Sub.both ?_)); done) | (simp_all; done) | (simp_all; omega)))))
  exact inner4 (v0 := v0) (v1 := v1) (v2 := v2) (v3 := v3) (v4 := v4) (v17 := v17) HB.out.1 hC hH h1 HB.out.2 (by first | rfl | (simp only [↓putO_get, ↓putO_no, init_zero, init_succ, Nat.reduceEqDiff, ↓reduceIte, *]; done) | (simp only [↓putO_get, ↓putO_no, init_zero, init_succ, Nat.reduceEqDiff, ↓reduceIte, *]; rfl)) (by first | rfl | (simp only [↓putO_get, ↓putO_no, init_zero, init_succ, Nat.reduceEqDiff, ↓reduceIte, *]; done) | (simp only [↓putO_get, ↓putO_no, init_zero, init_succ, Nat.reduceEqDiff, ↓reduceIte, *]; rfl)) (by first | rfl | (simp only [↓putO_get, ↓putO_no, init_zero, init_succ, Nat.reduceEqDiff, ↓reduceIte, *]; done) | (simp only [↓putO_get, ↓putO_no, init_zero, init_succ, Nat.reduceEqDiff, ↓reduceIte, *]; rfl)) (by first | rfl | (simp only [↓putO_get, ↓putO_no, init_zero, init_succ, Nat.reduceEqDiff, ↓reduceIte, *]; done) | (simp only [↓putO_get, ↓putO_no, init_zero, init_succ, Nat.reduceEqDiff, ↓reduceIte, *]; rfl)) (by first | rfl | (simp only [↓putO_get, ↓putO_no, init_zero, init_succ, Nat.reduceEqDiff, ↓reduceIte, *]; done) | (simp only [↓putO_get, ↓putO_no, init_zero, init_succ, Nat.reduceEqDiff, ↓reduceIte, *]; rfl)) (by first | rfl | (simp only [↓putO_get, ↓putO_no, init_zero, init_succ, Nat.reduceEqDiff, ↓reduceIte, *]; done) | (simp only [↓putO_get, ↓putO_no, init_zero, init_succ, Nat.reduceEqDiff, ↓reduceIte, *]; rfl)) (by first | rfl | (simp only [↓putO_get, ↓putO_no, init_zero, init_succ, Nat.reduceEqDiff, ↓reduceIte, *]; done) | (simp only [↓putO_get, ↓putO_no, init_zero, init_succ, Nat.reduceEqDiff, ↓reduceIte, *]; rfl)) (by first | rfl | (simp only [↓putO_get, ↓putO_no, init_zero, init_succ, Nat.reduceEqDiff, ↓reduceIte, *]; done) | (simp only [↓putO_get, ↓putO_no, init_zero, init_succ, Nat.reduceEqDiff, ↓reduceIte, *]; rfl)) (by first | rfl | (simp only [↓putO_get, ↓putO_no, init_zero, init_succ, Nat.reduceEqDiff, ↓reduceIte, *]; done) | (simp only [↓putO_get, ↓putO_no, init_zero, init_succ, Nat.reduceEqDiff, ↓reduceIte, *]; rfl)) fun s' σ' hW t0 t1 t3 t4 t17 t11 t12 t13 => HK.out s' σ' a' h1 (fun e => h2 (by rw [e])) hW t0 t1 t3 t4 t17 t11 t12 t13
end Go.Proofs.Ytpnghjmphbhkjaa
