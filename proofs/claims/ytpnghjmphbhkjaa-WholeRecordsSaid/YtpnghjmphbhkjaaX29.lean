/- WholeRecords: what came is noted. -/
import Derived.Test.YtpnghjmphbhkjaaX28
namespace Go.Proofs.Ytpnghjmphbhkjaa
open Go.Sp
set_option linter.unusedSimpArgs false
set_option linter.unusedVariables false
theorem pRec_51 (cs : List Value) (r : Nat) : ¬ pRec (.row cs r 51) := by
  rintro (h | h)
  · exact h.elim
  · exact absurd (show (51 : Nat) = 130 from h) (by decide)
theorem RecRep.slice {σ : Hp} {H : List (List ByteArray)} {n : Nat} {kv : Value} (h : RecRep σ H n kv) : ∃ ks A c, H[n - 1]? = some ks ∧ kv = .slice A ks.length c ∧ RowsAt 9 1 sC σ kv ks ∧ ks.length ≤ 8 := by
  obtain ⟨ks, _, e, h, h8⟩ := h
  obtain ⟨A, c, e2⟩ := h.slice
  exact ⟨ks, A, c, e, e2, h, h8⟩
set_option maxHeartbeats 4000000 in
set_option maxRecDepth 10000 in
theorem inner4 {Q : Exit → Sl → Hp → Prop} {σ0 σ : Hp} {gl g m gr b C : Nat} {v : Value} {H : List (List ByteArray)} {a0 a : Nat} (hW : WR σ0 σ gl g m gr b C v H a a0) (hC : C ≤ 255) (hH : H.length ≤ 255) (ha : a0 ≤ a) {out : Value} (hO : OutAt σ out H a0 (a - a0)) {s : Sl} {v0 v1 v2 v3 v4 v17 : Value}
    (s0 : s 0 = v0) (s1 : s 1 = v1) (s3 : s 3 = v3) (s4 : s 4 = v4) (s17 : s 17 = v17) (s11 : s 11 = .pointer (some ⟨gl, 0, none⟩)) (s12 : s 12 = .pointer (some ⟨g, 0, none⟩)) (s13 : s 13 = .pointer (some ⟨gr, 0, none⟩)) (s21 : s 21 = out)
    (hk : ∀ s' σ', WR σ0 σ' gl g m gr b C v H a a → s' 0 = v0 → s' 1 = v1 → s' 3 = v3 → s' 4 = v4 → s' 17 = v17 → s' 11 = .pointer (some ⟨gl, 0, none⟩) → s' 12 = .pointer (some ⟨g, 0, none⟩) → s' 13 = .pointer (some ⟨gr, 0, none⟩) → Q .normal s' σ') :
    codeF Try.prog c4_sr23 Q s σ ⟨⟩ := by
  have HK := Hid.mk hk
  have hO0 := Hid.mk hO
  have hle := hW.gap.le
  obtain ⟨A, cap, hout⟩ : ∃ A c, out = .slice A (a - a0) c := by obtain ⟨L, h1, h2, _⟩ := hO.out; rw [← h2]; exact h1.slice
  subst hout
  have hW := Hid.mk hW
  clear hk hO
  unfold c4_sr23 c4_br23 c4_tr23
  simp +contextual -dsimp only [*, bne_self_eq_false, Bool.not_true, Bool.not_false, beq_self_eq_true, ↓reduceIte, ↓evP, evQ, splice, Nat.reduceAdd, Nat.reduceEqDiff, Nat.reduceLeDiff, Nat.reduceMul, reduceCtorEq, Int.reduceLT, Int.reduceLE, Int.reduceGT, Int.reduceGE, Int.reduceEq, Int.reduceNeg]
  refine loopF_of (fun n s σ' => ∃ (k : Nat), k ≤ a - a0 ∧ n = a - a0 - k ∧ WR σ0 σ' gl g m gr b C v H a (a0 + k) ∧ OutAt σ' (.slice A (a - a0) cap) H a0 (a - a0) ∧ s 23 = .int .i64 k ∧ s 21 = .slice A (a - a0) cap ∧ s 0 = v0 ∧ s 1 = v1 ∧ s 3 = v3 ∧ s 4 = v4 ∧ s 17 = v17 ∧ s 11 = .pointer (some ⟨gl, 0, none⟩) ∧ s 12 = .pointer (some ⟨g, 0, none⟩) ∧ s 13 = .pointer (some ⟨gr, 0, none⟩)) (a - a0) (Sub.refl _)
    ⟨0, by omega, rfl, hW.out, hO0.out, (by first | rfl | (simp only [↓putO_get, ↓putO_no, init_zero, init_succ, Nat.reduceEqDiff, ↓reduceIte, *]; done) | (simp only [↓putO_get, ↓putO_no, init_zero, init_succ, Nat.reduceEqDiff, ↓reduceIte, *]; rfl)), (by first | rfl | (simp only [↓putO_get, ↓putO_no, init_zero, init_succ, Nat.reduceEqDiff, ↓reduceIte, *]; done) | (simp only [↓putO_get, ↓putO_no, init_zero, init_succ, Nat.reduceEqDiff, ↓reduceIte, *]; rfl)), (by first | rfl | (simp only [↓putO_get, ↓putO_no, init_zero, init_succ, Nat.reduceEqDiff, ↓reduceIte, *]; done) | (simp only [↓putO_get, ↓putO_no, init_zero, init_succ, Nat.reduceEqDiff, ↓reduceIte, *]; rfl)), (by first | rfl | (simp only [↓putO_get, ↓putO_no, init_zero, init_succ, Nat.reduceEqDiff, ↓reduceIte, *]; done) | (simp only [↓putO_get, ↓putO_no, init_zero, init_succ, Nat.reduceEqDiff, ↓reduceIte, *]; rfl)), (by first | rfl | (simp only [↓putO_get, ↓putO_no, init_zero, init_succ, Nat.reduceEqDiff, ↓reduceIte, *]; done) | (simp only [↓putO_get, ↓putO_no, init_zero, init_succ, Nat.reduceEqDiff, ↓reduceIte, *]; rfl)), (by first | rfl | (simp only [↓putO_get, ↓putO_no, init_zero, init_succ, Nat.reduceEqDiff, ↓reduceIte, *]; done) | (simp only [↓putO_get, ↓putO_no, init_zero, init_succ, Nat.reduceEqDiff, ↓reduceIte, *]; rfl)), (by first | rfl | (simp only [↓putO_get, ↓putO_no, init_zero, init_succ, Nat.reduceEqDiff, ↓reduceIte, *]; done) | (simp only [↓putO_get, ↓putO_no, init_zero, init_succ, Nat.reduceEqDiff, ↓reduceIte, *]; rfl)), (by first | rfl | (simp only [↓putO_get, ↓putO_no, init_zero, init_succ, Nat.reduceEqDiff, ↓reduceIte, *]; done) | (simp only [↓putO_get, ↓putO_no, init_zero, init_succ, Nat.reduceEqDiff, ↓reduceIte, *]; rfl)), (by first | rfl | (simp only [↓putO_get, ↓putO_no, init_zero, init_succ, Nat.reduceEqDiff, ↓reduceIte, *]; done) | (simp only [↓putO_get, ↓putO_no, init_zero, init_succ, Nat.reduceEqDiff, ↓reduceIte, *]; rfl)), (by first | rfl | (simp only [↓putO_get, ↓putO_no, init_zero, init_succ, Nat.reduceEqDiff, ↓reduceIte, *]; done) | (simp only [↓putO_get, ↓putO_no, init_zero, init_succ, Nat.reduceEqDiff, ↓reduceIte, *]; rfl))⟩ ?_
  clear hW hO0
  rintro n s τ ⟨k, hk, hn, hW, hO, s23, s21, s0, s1, s3, s4, s17, s11, s12, s13⟩
  rcases Nat.lt_or_ge k (a - a0) with hlt | hge
  · have hd : decide ((k : Int) < ((a - a0 : Nat) : Int)) = true := by simp; omega
    have hlt' : (k : Int) < ((a - a0 : Nat) : Int) := by omega
    have e1 : IntKind.i64.wrap ((k : Int) + 1) = ((k + 1 : Nat) : Int) := by rw [wi64 (by omega)]; rfl
    have e2 : IntKind.i64.wrap (((a0 + k : Nat) : Int) + 1) = ((a0 + k + 1 : Nat) : Int) := by rw [wi64 (by omega)]; rfl
    obtain ⟨L, hL, hLl, hLe⟩ := hO.out
    obtain ⟨p, hp⟩ : ∃ p, L[k]? = some p := ⟨_, List.getElem?_eq_getElem (by omega)⟩
    obtain ⟨hp1, hp2⟩ := hLe k p hp
    obtain ⟨pn, kv⟩ := p
    have hp1 : pn = a0 + k + 1 := by rw [show pn = a0 + 1 + k from hp1]; omega
    subst hp1
    have hp2 : RecRep τ H (a0 + k + 1) kv := hp2
    obtain ⟨ks, A2, c2, hks, rfl, hrow, hks8⟩ := hp2.slice
    rw [Nat.add_sub_cancel] at hks
    obtain ⟨bo, off, e, hrd⟩ := (hL.ro rc_len).get (List.getElem?_eq_some_iff.1 hp).1
    rw [show L[k]'((List.getElem?_eq_some_iff.1 hp).1) = (a0 + k + 1, .slice A2 ks.length c2) from (List.getElem?_eq_some_iff.1 hp).2] at hrd
    have hrd1 := rd_part hrd 0 (v := .int .i64 (a0 + k + 1 : Nat)) rfl
    have hrd2 := rd_part hrd 1 (v := .slice A2 ks.length c2) rfl
    rw [Nat.add_zero] at hrd1
    have hnn : ∀ y, τ y = none → ¬ bo = y := fun y hy e => by unfold rd at hrd1; rw [e, hy] at hrd1; cases hrd1
    have q1 := last19 hW.ring
    have q2 := get17 hW.log (a0 + k) hks (by omega)
    have HA := Hid.mk (And.intro hW (And.intro hO (And.intro hks (And.intro hrow hks8))))
    subst e
    clear hW hO hL hLl hLe hp hp2 hks hrow hks8 hrd hle
    simp +contextual -dsimp only [*, bne_self_eq_false, Bool.not_true, Bool.not_false, beq_self_eq_true, ↓reduceIte, ↓evP, evQ, splice, Nat.reduceAdd, Nat.reduceEqDiff, Nat.reduceLeDiff, Nat.reduceMul, reduceCtorEq, Int.reduceLT, Int.reduceLE, Int.reduceGT, Int.reduceGE, Int.reduceEq, Int.reduceNeg]
    refine callF_v q1 ?_
    simp +contextual -dsimp only [*, bne_self_eq_false, Bool.not_true, Bool.not_false, beq_self_eq_true, ↓reduceIte, ↓evP, evQ, splice, Nat.reduceAdd, Nat.reduceEqDiff, Nat.reduceLeDiff, Nat.reduceMul, reduceCtorEq, Int.reduceLT, Int.reduceLE, Int.reduceGT, Int.reduceGE, Int.reduceEq, Int.reduceNeg]
    refine callF_of q2 ?_
    rintro u σ' ⟨y, cy, hy, hcy, rfl, rfl⟩
    have hby := hnn y hy
    clear q1 q2
    (repeat' (first | (simp +contextual -dsimp only [*, bne_self_eq_false, Bool.not_true, Bool.not_false, beq_self_eq_true, ↓reduceIte, ↓evP, evQ, splice, Nat.reduceAdd, Nat.reduceEqDiff, Nat.reduceLeDiff, Nat.reduceMul, reduceCtorEq, Int.reduceLT, Int.reduceLE, Int.reduceGT, Int.reduceGE, Int.reduceEq, Int.reduceNeg]) | (refine condF_split (fun hc => ?_) (fun hc => ?_) <;> (try simp only [Bool.not_eq_true', Bool.not_eq_false', Bool.and_eq_true, Bool.or_eq_false_iff] at hc)) | (intro _; intros) | (refine And.intro ?_ ?_; focus (first | omega | ((repeat (first | exact Sub.refl _ | (refine Sub.drop ?_ ?_; focus (simp only [evN, *]; done)) | refine Sub.both ?_)); done) | (simp_all; done) | (simp_all; omega)))))
    rename_i z hz1 hz2 hz
    obtain ⟨hW, hO, hks, hrow, hks8⟩ := HA.out
    have hzz : upd τ y (.row (ks.flatMap sC) (cy * 1) 9) z = none := (by simp only [evN, *]; done)
    have hs := ((KSame.refl (fun _ => False) τ).new hy (.row (ks.flatMap sC) (cy * 1) 9)).trans ((KSame.refl (fun _ => False) _).new hzz (.cells [.int .i64 (a0 + k + 1 : Nat), .slice (some ⟨y, 0, none⟩) ks.length cy] 51))
    have hW2 := (hW.fresh hy (.row (ks.flatMap sC) (cy * 1) 9)).fresh hzz (.cells [.int .i64 (a0 + k + 1 : Nat), .slice (some ⟨y, 0, none⟩) ks.length cy] 51)
    have hO2 := hO.ks hs (fun _ _ x => x) (fun _ _ x => x)
    have hrow2 := hrow.ks hs (fun _ _ x => x)
    clear hW hO hrow hs hzz
    refine callF_of (note20 hW2.ring (a0 + k + 1) hrow2 hks8 hC (by omega) (by have := (List.getElem?_eq_some_iff.1 hks).1; omega)) ?_
    rintro u σ' ⟨rfl, hR, hS⟩
    rw [← show runM C (H.take (a0 + k + 1)) = noteM C (a0 + k + 1) ((runM C (H.take (a0 + k))).1, (runM C (H.take (a0 + k))).2) ks from runM_next hks] at hR
    have hW3 := hW2.toRing hR hS
    have hO3 := hO2.ks hS pRec_51 pRec_9
    have HB := Hid.mk (And.intro hW3 hO3)
    clear hW2 hO2 hrow2 hR hS hW3 hO3 hz hz1 hz2 hby hy
    (repeat' (first | (simp +contextual -dsimp only [*, bne_self_eq_false, Bool.not_true, Bool.not_false, beq_self_eq_true, ↓reduceIte, ↓evP, evQ, splice, Nat.reduceAdd, Nat.reduceEqDiff, Nat.reduceLeDiff, Nat.reduceMul, reduceCtorEq, Int.reduceLT, Int.reduceLE, Int.reduceGT, Int.reduceGE, Int.reduceEq, Int.reduceNeg]) | (refine condF_split (fun hc => ?_) (fun hc => ?_) <;> (try simp only [Bool.not_eq_true', Bool.not_eq_false', Bool.and_eq_true, Bool.or_eq_false_iff] at hc)) | (intro _; intros) | (refine And.intro ?_ ?_; focus (first | omega | ((repeat (first | exact Sub.refl _ | (refine Sub.drop ?_ ?_; focus (simp only [evN, *]; done)) | refine Sub.both ?_)); done) | (simp_all; done) | (simp_all; omega)))))
    exact nextF_of (a - a0 - (k + 1)) (by omega) (Sub.refl _) ⟨k + 1, by omega, rfl, HB.out.1, HB.out.2, (by first | rfl | (simp only [↓putO_get, ↓putO_no, init_zero, init_succ, Nat.reduceEqDiff, ↓reduceIte, *]; done) | (simp only [↓putO_get, ↓putO_no, init_zero, init_succ, Nat.reduceEqDiff, ↓reduceIte, *]; rfl)), (by first | rfl | (simp only [↓putO_get, ↓putO_no, init_zero, init_succ, Nat.reduceEqDiff, ↓reduceIte, *]; done) | (simp only [↓putO_get, ↓putO_no, init_zero, init_succ, Nat.reduceEqDiff, ↓reduceIte, *]; rfl)), (by first | rfl | (simp only [↓putO_get, ↓putO_no, init_zero, init_succ, Nat.reduceEqDiff, ↓reduceIte, *]; done) | (simp only [↓putO_get, ↓putO_no, init_zero, init_succ, Nat.reduceEqDiff, ↓reduceIte, *]; rfl)), (by first | rfl | (simp only [↓putO_get, ↓putO_no, init_zero, init_succ, Nat.reduceEqDiff, ↓reduceIte, *]; done) | (simp only [↓putO_get, ↓putO_no, init_zero, init_succ, Nat.reduceEqDiff, ↓reduceIte, *]; rfl)), (by first | rfl | (simp only [↓putO_get, ↓putO_no, init_zero, init_succ, Nat.reduceEqDiff, ↓reduceIte, *]; done) | (simp only [↓putO_get, ↓putO_no, init_zero, init_succ, Nat.reduceEqDiff, ↓reduceIte, *]; rfl)), (by first | rfl | (simp only [↓putO_get, ↓putO_no, init_zero, init_succ, Nat.reduceEqDiff, ↓reduceIte, *]; done) | (simp only [↓putO_get, ↓putO_no, init_zero, init_succ, Nat.reduceEqDiff, ↓reduceIte, *]; rfl)), (by first | rfl | (simp only [↓putO_get, ↓putO_no, init_zero, init_succ, Nat.reduceEqDiff, ↓reduceIte, *]; done) | (simp only [↓putO_get, ↓putO_no, init_zero, init_succ, Nat.reduceEqDiff, ↓reduceIte, *]; rfl)), (by first | rfl | (simp only [↓putO_get, ↓putO_no, init_zero, init_succ, Nat.reduceEqDiff, ↓reduceIte, *]; done) | (simp only [↓putO_get, ↓putO_no, init_zero, init_succ, Nat.reduceEqDiff, ↓reduceIte, *]; rfl)), (by first | rfl | (simp only [↓putO_get, ↓putO_no, init_zero, init_succ, Nat.reduceEqDiff, ↓reduceIte, *]; done) | (simp only [↓putO_get, ↓putO_no, init_zero, init_succ, Nat.reduceEqDiff, ↓reduceIte, *]; rfl)), (by first | rfl | (simp only [↓putO_get, ↓putO_no, init_zero, init_succ, Nat.reduceEqDiff, ↓reduceIte, *]; done) | (simp only [↓putO_get, ↓putO_no, init_zero, init_succ, Nat.reduceEqDiff, ↓reduceIte, *]; rfl))⟩
  · have hd : decide ((k : Int) < ((a - a0 : Nat) : Int)) = false := by simp; omega
    have HA := Hid.mk (And.intro hW hO)
    clear hW hO
    (repeat' (first | (simp +contextual -dsimp only [*, bne_self_eq_false, Bool.not_true, Bool.not_false, beq_self_eq_true, ↓reduceIte, ↓evP, evQ, splice, Nat.reduceAdd, Nat.reduceEqDiff, Nat.reduceLeDiff, Nat.reduceMul, reduceCtorEq, Int.reduceLT, Int.reduceLE, Int.reduceGT, Int.reduceGE, Int.reduceEq, Int.reduceNeg]) | (refine condF_split (fun hc => ?_) (fun hc => ?_) <;> (try simp only [Bool.not_eq_true', Bool.not_eq_false', Bool.and_eq_true, Bool.or_eq_false_iff] at hc)) | (intro _; intros) | (refine And.intro ?_ ?_; focus (first | omega | ((repeat (first | exact Sub.refl _ | (refine Sub.drop ?_ ?_; focus (simp only [evN, *]; done)) | refine Sub.both ?_)); done) | (simp_all; done) | (simp_all; omega)))))
    have := HA.out.1
    rw [show a0 + k = a by omega] at this
    exact HK.out _ _ this (by first | rfl | (simp only [↓putO_get, ↓putO_no, init_zero, init_succ, Nat.reduceEqDiff, ↓reduceIte, *]; done) | (simp only [↓putO_get, ↓putO_no, init_zero, init_succ, Nat.reduceEqDiff, ↓reduceIte, *]; rfl)) (by first | rfl | (simp only [↓putO_get, ↓putO_no, init_zero, init_succ, Nat.reduceEqDiff, ↓reduceIte, *]; done) | (simp only [↓putO_get, ↓putO_no, init_zero, init_succ, Nat.reduceEqDiff, ↓reduceIte, *]; rfl)) (by first | rfl | (simp only [↓putO_get, ↓putO_no, init_zero, init_succ, Nat.reduceEqDiff, ↓reduceIte, *]; done) | (simp only [↓putO_get, ↓putO_no, init_zero, init_succ, Nat.reduceEqDiff, ↓reduceIte, *]; rfl)) (by first | rfl | (simp only [↓putO_get, ↓putO_no, init_zero, init_succ, Nat.reduceEqDiff, ↓reduceIte, *]; done) | (simp only [↓putO_get, ↓putO_no, init_zero, init_succ, Nat.reduceEqDiff, ↓reduceIte, *]; rfl)) (by first | rfl | (simp only [↓putO_get, ↓putO_no, init_zero, init_succ, Nat.reduceEqDiff, ↓reduceIte, *]; done) | (simp only [↓putO_get, ↓putO_no, init_zero, init_succ, Nat.reduceEqDiff, ↓reduceIte, *]; rfl)) (by first | rfl | (simp only [↓putO_get, ↓putO_no, init_zero, init_succ, Nat.reduceEqDiff, ↓reduceIte, *]; done) | (simp only [↓putO_get, ↓putO_no, init_zero, init_succ, Nat.reduceEqDiff, ↓reduceIte, *]; rfl)) (by first | rfl | (simp only [↓putO_get, ↓putO_no, init_zero, init_succ, Nat.reduceEqDiff, ↓reduceIte, *]; done) | (simp only [↓putO_get, ↓putO_no, init_zero, init_succ, Nat.reduceEqDiff, ↓reduceIte, *]; rfl)) (by first | rfl | (simp only [↓putO_get, ↓putO_no, init_zero, init_succ, Nat.reduceEqDiff, ↓reduceIte, *]; done) | (simp only [↓putO_get, ↓putO_no, init_zero, init_succ, Nat.reduceEqDiff, ↓reduceIte, *]; rfl))
end Go.Proofs.Ytpnghjmphbhkjaa
