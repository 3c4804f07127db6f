/- WholeLogs: behind the last commit. -/
import Derived.Test.YtpnghjmphbhkjaaX16
namespace Go.Proofs.Ytpnghjmphbhkjaa
open Go.Sp
set_option linter.unusedSimpArgs false
set_option linter.unusedVariables false
set_option maxHeartbeats 4000000 in
set_option maxRecDepth 100000 in
theorem tail3 {σ0 σ : Hp} {g m gl : Nat} {v : Value} {H : List (List Wr)} (hW : WL σ0 σ g m gl v H H) (hH : H.length ≤ 61) (k : ByteArray) (c : Nat) (hc : c ≤ 255) {s : Sl} (s1 : s 1 = .string k) (s2 : s 2 = .int .u8 c) (s7 : s 7 = .pointer (some ⟨g, 0, none⟩)) (s8 : s 8 = .pointer (some ⟨gl, 0, none⟩)) :
    codeF Try.prog c3_t0 (fin r3 fun u σ' => u = .bool true ∧ σ' = σ0) s σ ⟨⟩ := by
  have hcw : IntKind.i64.wrap (c : Int) = c := wi64 (by omega)
  have hR := read12 hW.store k (c : Int) (rowOk_run (by omega) k)
  have hlen : (H.map keysOf).length = H.length := List.length_map _
  obtain ⟨A, cap, hv⟩ : ∃ A c, v = .slice A (H.map keysOf).length c := by obtain ⟨vs, h, e, _⟩ := hW.log.rows; rw [← e]; exact h.slice
  have hn : ∀ y, σ y = none → ¬ gl = y := fun y hy e => by have := hW.log.cell; rw [e, hy] at this; cases this
  have hlast : ∀ b o, σ b = none → ACalls Try.prog 13 #[.pointer (some ⟨gl, 0, none⟩)] (upd σ b o) fun u σ' => u = .int .i64 (H.length : Nat) ∧ σ' = upd σ b o := fun b o hb => by
    have := last13 (σ := upd σ b o) (g := gl) (n := (H.map keysOf).length) (c := cap) (a := A) (by rw [rd_ne _ _ _ (hn b hb)]; unfold rd; rw [hW.log.cell, hv]; rfl)
    rwa [hlen] at this
  have hfirst : ∀ b o a, σ b = none → ACalls Try.prog 14 #[.pointer (some ⟨gl, 0, none⟩), .string k, .int .i64 (a : Nat)] (upd σ b o) fun u σ' => u = .tuple #[.int .i64 (firstV (H.map keysOf) k a).1, .bool (firstV (H.map keysOf) k a).2] ∧ σ' = upd σ b o := fun b o a hb =>
    first14 (hW.log.same (F := fun _ => False) (Same.updNew hb (Same.refl _ _)) (fun x => x) (fun _ _ _ _ x => x.elim)) k a (by omega)
  have hold : (St.run 64 H).oldest k = 0 := by unfold St.oldest; rw [run_row (by omega)]; rfl
  have hrow : ((St.run 64 H).row k).list = vers H k := by rw [run_row (by omega)]
  have HW := Hid.mk (And.intro hW hv)
  clear hW hn hv
  unfold c3_t0 r3
  cases hk : goodK k with
  | false =>
    rw [read_bad (by rw [hk]; rfl)] at hR
    have hkk : (decide ((k.size : Int) < 1) || decide ((k.size : Int) > 32)) = true := by
      unfold goodK at hk
      simp only [Bool.and_eq_false_iff, decide_eq_false_iff_not, Bool.or_eq_true, decide_eq_true_eq] at hk ⊢
      omega
    have hkk := Hid.mk hkk
    (repeat' (first | (simp +contextual -dsimp only [*, Fct.cells, noF, bne_self_eq_false, Bool.not_true, Bool.not_false, ↓reduceIte, ↓evP, evQ, splice, Nat.reduceAdd, Nat.reduceEqDiff, Nat.reduceLeDiff, Nat.reduceMul, reduceCtorEq, Int.reduceLT, Int.reduceLE, Int.reduceGT, Int.reduceGE, Int.reduceEq, Int.reduceNeg]) | (refine condF_split (fun hc => ?_) (fun hc => ?_) <;> (try simp only [Bool.not_eq_true', Bool.not_eq_false', Bool.and_eq_true, Bool.or_eq_false_iff] at hc)) | refine callF_v (hR) ?_ | refine ccallF_of (hR) ?_ | refine gcallF_of (hR) ?_ | (intro _; intros) | (refine And.intro ?_ ?_; focus (first | omega | ((repeat (first | exact Sub.refl _ | (refine Sub.drop ?_ ?_; focus (simp only [evN, *]; done)) | refine Sub.both ?_)); done) | (simp_all; done) | (simp_all; omega)))))
    · exact endF_det rfl (Sub.drop (HW.out.1.sub.noneAt (by assumption)) HW.out.1.sub)
    · exact endF_det rfl (Sub.drop (HW.out.1.sub.noneAt (by assumption)) HW.out.1.sub)
    · exfalso
      have := hkk.out
      rw [show decide ((k.size : Int) < 1) = false by assumption, show decide ((k.size : Int) > 32) = false by assumption] at this
      cases this
  | true =>
    have hk1 : decide ((k.size : Int) < 1) = false := by
      unfold goodK at hk; simp only [Bool.and_eq_true, decide_eq_true_eq] at hk; simp; omega
    have hk2 : decide ((k.size : Int) > 32) = false := by
      unfold goodK at hk; simp only [Bool.and_eq_true, decide_eq_true_eq] at hk; simp; omega
    have h0 : (!goodK k || decide ((c : Int) < 0)) = false := by rw [hk]; simp
    rcases Nat.lt_or_ge H.length c with hlt | hge
    · have hd : decide ((c : Int) > (H.length : Int)) = true := by simp; omega
      rw [read_ahead h0 hd] at hR
      clear h0 hk
      (repeat' (first | (simp +contextual -dsimp only [*, Fct.cells, noF, bne_self_eq_false, Bool.not_true, Bool.not_false, ↓reduceIte, ↓evP, evQ, splice, Nat.reduceAdd, Nat.reduceEqDiff, Nat.reduceLeDiff, Nat.reduceMul, reduceCtorEq, Int.reduceLT, Int.reduceLE, Int.reduceGT, Int.reduceGE, Int.reduceEq, Int.reduceNeg]) | (refine condF_split (fun hc => ?_) (fun hc => ?_) <;> (try simp only [Bool.not_eq_true', Bool.not_eq_false', Bool.and_eq_true, Bool.or_eq_false_iff] at hc)) | refine callF_v (hR) ?_ | refine callF_v (hlast _ _ (by assumption)) ?_ | refine ccallF_of (hR) ?_ | refine ccallF_of (hlast _ _ (by assumption)) ?_ | refine gcallF_of (hR) ?_ | refine gcallF_of (hlast _ _ (by assumption)) ?_ | (intro _; intros) | (refine And.intro ?_ ?_; focus (first | omega | ((repeat (first | exact Sub.refl _ | (refine Sub.drop ?_ ?_; focus (simp only [evN, *]; done)) | refine Sub.both ?_)); done) | (simp_all; done) | (simp_all; omega)))))
      exact endF_det rfl (Sub.drop (HW.out.1.sub.noneAt (by assumption)) HW.out.1.sub)
    · have hd : decide ((c : Int) > ((St.run 64 H).last : Int)) = false := by show decide ((c : Int) > (H.length : Int)) = false; simp; omega
      have hd2 : decide ((c : Int) < ((St.run 64 H).oldest k : Int)) = false := by rw [hold]; simp
      rw [read_ok h0 hd hd2, hrow] at hR
      obtain ⟨i, hi⟩ : ∃ i, i = place (vers H k) c := ⟨_, rfl⟩
      have hfi := place_find (vers H k) c
      rw [← hi] at hR hfi
      have hsort : (vers H k).Pairwise (fun a b => a.n < b.n) := versF_sorted k H 1
      have hbig : ∀ u ∈ vers H k, 1 ≤ u.n ∧ u.n ≤ 61 := fun u hu => by have := versF_ge hu; omega
      have hA : (∃ v1 : Ver, behindV (vers H k) i = v1.n ∧ decide ((v1.n : Int) = 4611686018427387904) = false ∧ firstV (H.map keysOf) k c = ((v1.n : Int), true)) ∨ (behindV (vers H k) i = 4611686018427387904 ∧ firstV (H.map keysOf) k c = (0, false)) := by
        cases hq : (vers H k).find? (fun v => decide (c < v.n)) with
        | some v1 =>
          have := hbig v1 (List.mem_of_find?_eq_some hq)
          refine .inl ⟨v1, ?_, by simp; omega, first_some hq⟩
          unfold behindV; rw [hfi, hq]
        | none =>
          refine .inr ⟨?_, first_none hq⟩
          unfold behindV; rw [hfi, hq]
      have hB : (before (vers H k) i = noVer ∧ ((firstV (H.map keysOf) k 0 = (0, false)) ∨ ∃ v0 : Ver, firstV (H.map keysOf) k 0 = ((v0.n : Int), true) ∧ decide ((v0.n : Int) > (c : Int)) = true)) ∨
          ∃ v0 : Ver, before (vers H k) i = v0 ∧ decide ((v0.n : Int) = 0) = false ∧ IntKind.i64.wrap ((v0.n : Int) - 1) = ((v0.n - 1 : Nat) : Int) ∧ firstV (H.map keysOf) k (v0.n - 1) = ((v0.n : Int), true) := by
        rcases Nat.eq_zero_or_pos i with h | h
        · refine .inl ⟨by rw [h]; rfl, ?_⟩
          cases hq : (vers H k).find? (fun v => decide (0 < v.n)) with
          | none => exact .inl (first_none hq)
          | some v0 =>
            refine .inr ⟨v0, first_some hq, ?_⟩
            obtain ⟨j, hj⟩ := List.getElem?_of_mem (List.mem_of_find?_eq_some hq)
            rw [place_iff hsort hj, ← hi, h]; simp
        · obtain ⟨v0, hv0⟩ : ∃ v, (vers H k)[i - 1]? = some v := ⟨_, List.getElem?_eq_getElem (by have := place_le (vers H k) c; omega)⟩
          obtain ⟨f1, f2⟩ := first_here hv0
          have := hbig v0 (List.mem_of_getElem? hv0)
          exact .inr ⟨v0, before_pos h hv0, by simp; omega, by rw [wi64 (by omega)]; omega, f2⟩
      unfold factOf at hR
      have hsub := Hid.mk (fun b o (hb : σ b = none) => Sub.drop (o := o) (HW.out.1.sub.noneAt hb) HW.out.1.sub)
      clear h0 hk hd hd2 hold hrow hi hfi hsort hbig hge
      have hf0 := hfirst
      obtain ⟨hv, hA⟩ : ∃ hv, behindV (vers H k) i = hv ∧ ((∃ v1 : Ver, hv = v1.n ∧ decide ((v1.n : Int) = 4611686018427387904) = false ∧ firstV (H.map keysOf) k c = ((v1.n : Int), true)) ∨ (hv = 4611686018427387904 ∧ firstV (H.map keysOf) k c = (0, false))) := ⟨_, rfl, hA⟩
      rw [hA.1] at hR
      obtain ⟨bv, hB⟩ : ∃ bv, before (vers H k) i = bv ∧ ((bv = noVer ∧ ((firstV (H.map keysOf) k 0 = (0, false)) ∨ ∃ v0 : Ver, firstV (H.map keysOf) k 0 = ((v0.n : Int), true) ∧ decide ((v0.n : Int) > (c : Int)) = true)) ∨
          ∃ v0 : Ver, bv = v0 ∧ decide ((v0.n : Int) = 0) = false ∧ IntKind.i64.wrap ((v0.n : Int) - 1) = ((v0.n - 1 : Nat) : Int) ∧ firstV (H.map keysOf) k (v0.n - 1) = ((v0.n : Int), true)) := ⟨_, rfl, hB⟩
      rw [hB.1] at hR
      obtain ⟨-, hA⟩ := hA
      obtain ⟨-, hB⟩ := hB
      have q1 : ∀ b o, σ b = none → ACalls Try.prog 14 #[.pointer (some ⟨gl, 0, none⟩), .string k, .int .i64 (c : Int)] (upd σ b o) fun u σ' => u = .tuple #[.int .i64 (firstV (H.map keysOf) k c).1, .bool (firstV (H.map keysOf) k c).2] ∧ σ' = upd σ b o := fun b o hb => hfirst b o c hb
      have q2 : ∀ b o, σ b = none → ACalls Try.prog 14 #[.pointer (some ⟨gl, 0, none⟩), .string k, .int .i64 0] (upd σ b o) fun u σ' => u = .tuple #[.int .i64 (firstV (H.map keysOf) k 0).1, .bool (firstV (H.map keysOf) k 0).2] ∧ σ' = upd σ b o := fun b o hb => hfirst b o 0 hb
      rcases hA with ⟨v1, rfl, hne, hF⟩ | ⟨rfl, hF⟩
      all_goals rw [hF] at q1
      · rcases hB with ⟨rfl, hG | ⟨v0, hG, hgt⟩⟩ | ⟨v0, rfl, hz, hw, hG⟩
        · rw [hG] at q2
          have hR : ACalls Try.prog 12 #[.pointer (some ⟨g, 0, none⟩), .string k, .int .i64 (c : Int)] σ fun u σ' => u = .tuple #[.agg (⟨k, false, ⟨#[]⟩, 0, (v1.n : Int)⟩ : Fct).cells.toArray, .int .i64 0] ∧ σ' = σ := hR
          clear hfirst hlast hF hG
          simp +contextual -dsimp only [*, Fct.cells, noF, bne_self_eq_false, Bool.not_true, Bool.not_false, ↓reduceIte, ↓evP, evQ, splice, Nat.reduceAdd, Nat.reduceEqDiff, Nat.reduceLeDiff, Nat.reduceMul, reduceCtorEq, Int.reduceLT, Int.reduceLE, Int.reduceGT, Int.reduceGE, Int.reduceEq, Int.reduceNeg]
          refine callF_v hR ?_
          (repeat' (first | (simp +contextual -dsimp only [*, Fct.cells, noF, bne_self_eq_false, Bool.not_true, Bool.not_false, ↓reduceIte, ↓evP, evQ, splice, Nat.reduceAdd, Nat.reduceEqDiff, Nat.reduceLeDiff, Nat.reduceMul, reduceCtorEq, Int.reduceLT, Int.reduceLE, Int.reduceGT, Int.reduceGE, Int.reduceEq, Int.reduceNeg]) | (refine condF_split (fun hc => ?_) (fun hc => ?_) <;> (try simp only [Bool.not_eq_true', Bool.not_eq_false', Bool.and_eq_true, Bool.or_eq_false_iff] at hc)) | (intro _; intros) | (refine And.intro ?_ ?_; focus (first | omega | ((repeat (first | exact Sub.refl _ | (refine Sub.drop ?_ ?_; focus (simp only [evN, *]; done)) | refine Sub.both ?_)); done) | (simp_all; done) | (simp_all; omega)))))
          rename_i b hb
          refine callF_v (q1 _ _ hb) ?_
          (repeat' (first | (simp +contextual -dsimp only [*, Fct.cells, noF, bne_self_eq_false, Bool.not_true, Bool.not_false, ↓reduceIte, ↓evP, evQ, splice, Nat.reduceAdd, Nat.reduceEqDiff, Nat.reduceLeDiff, Nat.reduceMul, reduceCtorEq, Int.reduceLT, Int.reduceLE, Int.reduceGT, Int.reduceGE, Int.reduceEq, Int.reduceNeg]) | (refine condF_split (fun hc => ?_) (fun hc => ?_) <;> (try simp only [Bool.not_eq_true', Bool.not_eq_false', Bool.and_eq_true, Bool.or_eq_false_iff] at hc)) | (intro _; intros) | (refine And.intro ?_ ?_; focus (first | omega | ((repeat (first | exact Sub.refl _ | (refine Sub.drop ?_ ?_; focus (simp only [evN, *]; done)) | refine Sub.both ?_)); done) | (simp_all; done) | (simp_all; omega)))))
          refine callF_v (q2 _ _ hb) ?_
          (repeat' (first | (simp +contextual -dsimp only [*, Fct.cells, noF, bne_self_eq_false, Bool.not_true, Bool.not_false, ↓reduceIte, ↓evP, evQ, splice, Nat.reduceAdd, Nat.reduceEqDiff, Nat.reduceLeDiff, Nat.reduceMul, reduceCtorEq, Int.reduceLT, Int.reduceLE, Int.reduceGT, Int.reduceGE, Int.reduceEq, Int.reduceNeg]) | (refine condF_split (fun hc => ?_) (fun hc => ?_) <;> (try simp only [Bool.not_eq_true', Bool.not_eq_false', Bool.and_eq_true, Bool.or_eq_false_iff] at hc)) | (intro _; intros) | (refine And.intro ?_ ?_; focus (first | omega | ((repeat (first | exact Sub.refl _ | (refine Sub.drop ?_ ?_; focus (simp only [evN, *]; done)) | refine Sub.both ?_)); done) | (simp_all; done) | (simp_all; omega)))))
          exact endF_det rfl (hsub.out _ _ hb)
        · rw [hG] at q2
          have hR : ACalls Try.prog 12 #[.pointer (some ⟨g, 0, none⟩), .string k, .int .i64 (c : Int)] σ fun u σ' => u = .tuple #[.agg (⟨k, false, ⟨#[]⟩, 0, (v1.n : Int)⟩ : Fct).cells.toArray, .int .i64 0] ∧ σ' = σ := hR
          clear hfirst hlast hF hG
          simp +contextual -dsimp only [*, Fct.cells, noF, bne_self_eq_false, Bool.not_true, Bool.not_false, ↓reduceIte, ↓evP, evQ, splice, Nat.reduceAdd, Nat.reduceEqDiff, Nat.reduceLeDiff, Nat.reduceMul, reduceCtorEq, Int.reduceLT, Int.reduceLE, Int.reduceGT, Int.reduceGE, Int.reduceEq, Int.reduceNeg]
          refine callF_v hR ?_
          (repeat' (first | (simp +contextual -dsimp only [*, Fct.cells, noF, bne_self_eq_false, Bool.not_true, Bool.not_false, ↓reduceIte, ↓evP, evQ, splice, Nat.reduceAdd, Nat.reduceEqDiff, Nat.reduceLeDiff, Nat.reduceMul, reduceCtorEq, Int.reduceLT, Int.reduceLE, Int.reduceGT, Int.reduceGE, Int.reduceEq, Int.reduceNeg]) | (refine condF_split (fun hc => ?_) (fun hc => ?_) <;> (try simp only [Bool.not_eq_true', Bool.not_eq_false', Bool.and_eq_true, Bool.or_eq_false_iff] at hc)) | (intro _; intros) | (refine And.intro ?_ ?_; focus (first | omega | ((repeat (first | exact Sub.refl _ | (refine Sub.drop ?_ ?_; focus (simp only [evN, *]; done)) | refine Sub.both ?_)); done) | (simp_all; done) | (simp_all; omega)))))
          rename_i b hb
          refine callF_v (q1 _ _ hb) ?_
          (repeat' (first | (simp +contextual -dsimp only [*, Fct.cells, noF, bne_self_eq_false, Bool.not_true, Bool.not_false, ↓reduceIte, ↓evP, evQ, splice, Nat.reduceAdd, Nat.reduceEqDiff, Nat.reduceLeDiff, Nat.reduceMul, reduceCtorEq, Int.reduceLT, Int.reduceLE, Int.reduceGT, Int.reduceGE, Int.reduceEq, Int.reduceNeg]) | (refine condF_split (fun hc => ?_) (fun hc => ?_) <;> (try simp only [Bool.not_eq_true', Bool.not_eq_false', Bool.and_eq_true, Bool.or_eq_false_iff] at hc)) | (intro _; intros) | (refine And.intro ?_ ?_; focus (first | omega | ((repeat (first | exact Sub.refl _ | (refine Sub.drop ?_ ?_; focus (simp only [evN, *]; done)) | refine Sub.both ?_)); done) | (simp_all; done) | (simp_all; omega)))))
          refine callF_v (q2 _ _ hb) ?_
          (repeat' (first | (simp +contextual -dsimp only [*, Fct.cells, noF, bne_self_eq_false, Bool.not_true, Bool.not_false, ↓reduceIte, ↓evP, evQ, splice, Nat.reduceAdd, Nat.reduceEqDiff, Nat.reduceLeDiff, Nat.reduceMul, reduceCtorEq, Int.reduceLT, Int.reduceLE, Int.reduceGT, Int.reduceGE, Int.reduceEq, Int.reduceNeg]) | (refine condF_split (fun hc => ?_) (fun hc => ?_) <;> (try simp only [Bool.not_eq_true', Bool.not_eq_false', Bool.and_eq_true, Bool.or_eq_false_iff] at hc)) | (intro _; intros) | (refine And.intro ?_ ?_; focus (first | omega | ((repeat (first | exact Sub.refl _ | (refine Sub.drop ?_ ?_; focus (simp only [evN, *]; done)) | refine Sub.both ?_)); done) | (simp_all; done) | (simp_all; omega)))))
          exact endF_det rfl (hsub.out _ _ hb)
        · have q3 := fun b o (hb : σ b = none) => hfirst b o (bv.n - 1) hb
          rw [hG] at q3
          have hR : ACalls Try.prog 12 #[.pointer (some ⟨g, 0, none⟩), .string k, .int .i64 (c : Int)] σ fun u σ' => u = .tuple #[.agg (⟨k, bv.has, bv.data, bv.n, (v1.n : Int)⟩ : Fct).cells.toArray, .int .i64 0] ∧ σ' = σ := hR
          clear hfirst hlast hF hG q2
          simp +contextual -dsimp only [*, Fct.cells, noF, bne_self_eq_false, Bool.not_true, Bool.not_false, ↓reduceIte, ↓evP, evQ, splice, Nat.reduceAdd, Nat.reduceEqDiff, Nat.reduceLeDiff, Nat.reduceMul, reduceCtorEq, Int.reduceLT, Int.reduceLE, Int.reduceGT, Int.reduceGE, Int.reduceEq, Int.reduceNeg]
          refine callF_v hR ?_
          (repeat' (first | (simp +contextual -dsimp only [*, Fct.cells, noF, bne_self_eq_false, Bool.not_true, Bool.not_false, ↓reduceIte, ↓evP, evQ, splice, Nat.reduceAdd, Nat.reduceEqDiff, Nat.reduceLeDiff, Nat.reduceMul, reduceCtorEq, Int.reduceLT, Int.reduceLE, Int.reduceGT, Int.reduceGE, Int.reduceEq, Int.reduceNeg]) | (refine condF_split (fun hc => ?_) (fun hc => ?_) <;> (try simp only [Bool.not_eq_true', Bool.not_eq_false', Bool.and_eq_true, Bool.or_eq_false_iff] at hc)) | (intro _; intros) | (refine And.intro ?_ ?_; focus (first | omega | ((repeat (first | exact Sub.refl _ | (refine Sub.drop ?_ ?_; focus (simp only [evN, *]; done)) | refine Sub.both ?_)); done) | (simp_all; done) | (simp_all; omega)))))
          rename_i b hb
          refine callF_v (q1 _ _ hb) ?_
          (repeat' (first | (simp +contextual -dsimp only [*, Fct.cells, noF, bne_self_eq_false, Bool.not_true, Bool.not_false, ↓reduceIte, ↓evP, evQ, splice, Nat.reduceAdd, Nat.reduceEqDiff, Nat.reduceLeDiff, Nat.reduceMul, reduceCtorEq, Int.reduceLT, Int.reduceLE, Int.reduceGT, Int.reduceGE, Int.reduceEq, Int.reduceNeg]) | (refine condF_split (fun hc => ?_) (fun hc => ?_) <;> (try simp only [Bool.not_eq_true', Bool.not_eq_false', Bool.and_eq_true, Bool.or_eq_false_iff] at hc)) | (intro _; intros) | (refine And.intro ?_ ?_; focus (first | omega | ((repeat (first | exact Sub.refl _ | (refine Sub.drop ?_ ?_; focus (simp only [evN, *]; done)) | refine Sub.both ?_)); done) | (simp_all; done) | (simp_all; omega)))))
          refine callF_v (q3 _ _ hb) ?_
          (repeat' (first | (simp +contextual -dsimp only [*, Fct.cells, noF, bne_self_eq_false, Bool.not_true, Bool.not_false, ↓reduceIte, ↓evP, evQ, splice, Nat.reduceAdd, Nat.reduceEqDiff, Nat.reduceLeDiff, Nat.reduceMul, reduceCtorEq, Int.reduceLT, Int.reduceLE, Int.reduceGT, Int.reduceGE, Int.reduceEq, Int.reduceNeg]) | (refine condF_split (fun hc => ?_) (fun hc => ?_) <;> (try simp only [Bool.not_eq_true', Bool.not_eq_false', Bool.and_eq_true, Bool.or_eq_false_iff] at hc)) | (intro _; intros) | (refine And.intro ?_ ?_; focus (first | omega | ((repeat (first | exact Sub.refl _ | (refine Sub.drop ?_ ?_; focus (simp only [evN, *]; done)) | refine Sub.both ?_)); done) | (simp_all; done) | (simp_all; omega)))))
          exact endF_det rfl (hsub.out _ _ hb)
      · rcases hB with ⟨rfl, hG | ⟨v0, hG, hgt⟩⟩ | ⟨v0, rfl, hz, hw, hG⟩
        · rw [hG] at q2
          have hR : ACalls Try.prog 12 #[.pointer (some ⟨g, 0, none⟩), .string k, .int .i64 (c : Int)] σ fun u σ' => u = .tuple #[.agg (⟨k, false, ⟨#[]⟩, 0, 4611686018427387904⟩ : Fct).cells.toArray, .int .i64 0] ∧ σ' = σ := hR
          clear hfirst hlast hF hG
          simp +contextual -dsimp only [*, Fct.cells, noF, bne_self_eq_false, Bool.not_true, Bool.not_false, ↓reduceIte, ↓evP, evQ, splice, Nat.reduceAdd, Nat.reduceEqDiff, Nat.reduceLeDiff, Nat.reduceMul, reduceCtorEq, Int.reduceLT, Int.reduceLE, Int.reduceGT, Int.reduceGE, Int.reduceEq, Int.reduceNeg]
          refine callF_v hR ?_
          (repeat' (first | (simp +contextual -dsimp only [*, Fct.cells, noF, bne_self_eq_false, Bool.not_true, Bool.not_false, ↓reduceIte, ↓evP, evQ, splice, Nat.reduceAdd, Nat.reduceEqDiff, Nat.reduceLeDiff, Nat.reduceMul, reduceCtorEq, Int.reduceLT, Int.reduceLE, Int.reduceGT, Int.reduceGE, Int.reduceEq, Int.reduceNeg]) | (refine condF_split (fun hc => ?_) (fun hc => ?_) <;> (try simp only [Bool.not_eq_true', Bool.not_eq_false', Bool.and_eq_true, Bool.or_eq_false_iff] at hc)) | (intro _; intros) | (refine And.intro ?_ ?_; focus (first | omega | ((repeat (first | exact Sub.refl _ | (refine Sub.drop ?_ ?_; focus (simp only [evN, *]; done)) | refine Sub.both ?_)); done) | (simp_all; done) | (simp_all; omega)))))
          rename_i b hb
          refine callF_v (q1 _ _ hb) ?_
          (repeat' (first | (simp +contextual -dsimp only [*, Fct.cells, noF, bne_self_eq_false, Bool.not_true, Bool.not_false, ↓reduceIte, ↓evP, evQ, splice, Nat.reduceAdd, Nat.reduceEqDiff, Nat.reduceLeDiff, Nat.reduceMul, reduceCtorEq, Int.reduceLT, Int.reduceLE, Int.reduceGT, Int.reduceGE, Int.reduceEq, Int.reduceNeg]) | (refine condF_split (fun hc => ?_) (fun hc => ?_) <;> (try simp only [Bool.not_eq_true', Bool.not_eq_false', Bool.and_eq_true, Bool.or_eq_false_iff] at hc)) | (intro _; intros) | (refine And.intro ?_ ?_; focus (first | omega | ((repeat (first | exact Sub.refl _ | (refine Sub.drop ?_ ?_; focus (simp only [evN, *]; done)) | refine Sub.both ?_)); done) | (simp_all; done) | (simp_all; omega)))))
          refine callF_v (q2 _ _ hb) ?_
          (repeat' (first | (simp +contextual -dsimp only [*, Fct.cells, noF, bne_self_eq_false, Bool.not_true, Bool.not_false, ↓reduceIte, ↓evP, evQ, splice, Nat.reduceAdd, Nat.reduceEqDiff, Nat.reduceLeDiff, Nat.reduceMul, reduceCtorEq, Int.reduceLT, Int.reduceLE, Int.reduceGT, Int.reduceGE, Int.reduceEq, Int.reduceNeg]) | (refine condF_split (fun hc => ?_) (fun hc => ?_) <;> (try simp only [Bool.not_eq_true', Bool.not_eq_false', Bool.and_eq_true, Bool.or_eq_false_iff] at hc)) | (intro _; intros) | (refine And.intro ?_ ?_; focus (first | omega | ((repeat (first | exact Sub.refl _ | (refine Sub.drop ?_ ?_; focus (simp only [evN, *]; done)) | refine Sub.both ?_)); done) | (simp_all; done) | (simp_all; omega)))))
          exact endF_det rfl (hsub.out _ _ hb)
        · rw [hG] at q2
          have hR : ACalls Try.prog 12 #[.pointer (some ⟨g, 0, none⟩), .string k, .int .i64 (c : Int)] σ fun u σ' => u = .tuple #[.agg (⟨k, false, ⟨#[]⟩, 0, 4611686018427387904⟩ : Fct).cells.toArray, .int .i64 0] ∧ σ' = σ := hR
          clear hfirst hlast hF hG
          simp +contextual -dsimp only [*, Fct.cells, noF, bne_self_eq_false, Bool.not_true, Bool.not_false, ↓reduceIte, ↓evP, evQ, splice, Nat.reduceAdd, Nat.reduceEqDiff, Nat.reduceLeDiff, Nat.reduceMul, reduceCtorEq, Int.reduceLT, Int.reduceLE, Int.reduceGT, Int.reduceGE, Int.reduceEq, Int.reduceNeg]
          refine callF_v hR ?_
          (repeat' (first | (simp +contextual -dsimp only [*, Fct.cells, noF, bne_self_eq_false, Bool.not_true, Bool.not_false, ↓reduceIte, ↓evP, evQ, splice, Nat.reduceAdd, Nat.reduceEqDiff, Nat.reduceLeDiff, Nat.reduceMul, reduceCtorEq, Int.reduceLT, Int.reduceLE, Int.reduceGT, Int.reduceGE, Int.reduceEq, Int.reduceNeg]) | (refine condF_split (fun hc => ?_) (fun hc => ?_) <;> (try simp only [Bool.not_eq_true', Bool.not_eq_false', Bool.and_eq_true, Bool.or_eq_false_iff] at hc)) | (intro _; intros) | (refine And.intro ?_ ?_; focus (first | omega | ((repeat (first | exact Sub.refl _ | (refine Sub.drop ?_ ?_; focus (simp only [evN, *]; done)) | refine Sub.both ?_)); done) | (simp_all; done) | (simp_all; omega)))))
          rename_i b hb
          refine callF_v (q1 _ _ hb) ?_
          (repeat' (first | (simp +contextual -dsimp only [*, Fct.cells, noF, bne_self_eq_false, Bool.not_true, Bool.not_false, ↓reduceIte, ↓evP, evQ, splice, Nat.reduceAdd, Nat.reduceEqDiff, Nat.reduceLeDiff, Nat.reduceMul, reduceCtorEq, Int.reduceLT, Int.reduceLE, Int.reduceGT, Int.reduceGE, Int.reduceEq, Int.reduceNeg]) | (refine condF_split (fun hc => ?_) (fun hc => ?_) <;> (try simp only [Bool.not_eq_true', Bool.not_eq_false', Bool.and_eq_true, Bool.or_eq_false_iff] at hc)) | (intro _; intros) | (refine And.intro ?_ ?_; focus (first | omega | ((repeat (first | exact Sub.refl _ | (refine Sub.drop ?_ ?_; focus (simp only [evN, *]; done)) | refine Sub.both ?_)); done) | (simp_all; done) | (simp_all; omega)))))
          refine callF_v (q2 _ _ hb) ?_
          (repeat' (first | (simp +contextual -dsimp only [*, Fct.cells, noF, bne_self_eq_false, Bool.not_true, Bool.not_false, ↓reduceIte, ↓evP, evQ, splice, Nat.reduceAdd, Nat.reduceEqDiff, Nat.reduceLeDiff, Nat.reduceMul, reduceCtorEq, Int.reduceLT, Int.reduceLE, Int.reduceGT, Int.reduceGE, Int.reduceEq, Int.reduceNeg]) | (refine condF_split (fun hc => ?_) (fun hc => ?_) <;> (try simp only [Bool.not_eq_true', Bool.not_eq_false', Bool.and_eq_true, Bool.or_eq_false_iff] at hc)) | (intro _; intros) | (refine And.intro ?_ ?_; focus (first | omega | ((repeat (first | exact Sub.refl _ | (refine Sub.drop ?_ ?_; focus (simp only [evN, *]; done)) | refine Sub.both ?_)); done) | (simp_all; done) | (simp_all; omega)))))
          exact endF_det rfl (hsub.out _ _ hb)
        · have q3 := fun b o (hb : σ b = none) => hfirst b o (bv.n - 1) hb
          rw [hG] at q3
          have hR : ACalls Try.prog 12 #[.pointer (some ⟨g, 0, none⟩), .string k, .int .i64 (c : Int)] σ fun u σ' => u = .tuple #[.agg (⟨k, bv.has, bv.data, bv.n, 4611686018427387904⟩ : Fct).cells.toArray, .int .i64 0] ∧ σ' = σ := hR
          clear hfirst hlast hF hG q2
          simp +contextual -dsimp only [*, Fct.cells, noF, bne_self_eq_false, Bool.not_true, Bool.not_false, ↓reduceIte, ↓evP, evQ, splice, Nat.reduceAdd, Nat.reduceEqDiff, Nat.reduceLeDiff, Nat.reduceMul, reduceCtorEq, Int.reduceLT, Int.reduceLE, Int.reduceGT, Int.reduceGE, Int.reduceEq, Int.reduceNeg]
          refine callF_v hR ?_
          (repeat' (first | (simp +contextual -dsimp only [*, Fct.cells, noF, bne_self_eq_false, Bool.not_true, Bool.not_false, ↓reduceIte, ↓evP, evQ, splice, Nat.reduceAdd, Nat.reduceEqDiff, Nat.reduceLeDiff, Nat.reduceMul, reduceCtorEq, Int.reduceLT, Int.reduceLE, Int.reduceGT, Int.reduceGE, Int.reduceEq, Int.reduceNeg]) | (refine condF_split (fun hc => ?_) (fun hc => ?_) <;> (try simp only [Bool.not_eq_true', Bool.not_eq_false', Bool.and_eq_true, Bool.or_eq_false_iff] at hc)) | (intro _; intros) | (refine And.intro ?_ ?_; focus (first | omega | ((repeat (first | exact Sub.refl _ | (refine Sub.drop ?_ ?_; focus (simp only [evN, *]; done)) | refine Sub.both ?_)); done) | (simp_all; done) | (simp_all; omega)))))
          rename_i b hb
          refine callF_v (q1 _ _ hb) ?_
          (repeat' (first | (simp +contextual -dsimp only [*, Fct.cells, noF, bne_self_eq_false, Bool.not_true, Bool.not_false, ↓reduceIte, ↓evP, evQ, splice, Nat.reduceAdd, Nat.reduceEqDiff, Nat.reduceLeDiff, Nat.reduceMul, reduceCtorEq, Int.reduceLT, Int.reduceLE, Int.reduceGT, Int.reduceGE, Int.reduceEq, Int.reduceNeg]) | (refine condF_split (fun hc => ?_) (fun hc => ?_) <;> (try simp only [Bool.not_eq_true', Bool.not_eq_false', Bool.and_eq_true, Bool.or_eq_false_iff] at hc)) | (intro _; intros) | (refine And.intro ?_ ?_; focus (first | omega | ((repeat (first | exact Sub.refl _ | (refine Sub.drop ?_ ?_; focus (simp only [evN, *]; done)) | refine Sub.both ?_)); done) | (simp_all; done) | (simp_all; omega)))))
          refine callF_v (q3 _ _ hb) ?_
          (repeat' (first | (simp +contextual -dsimp only [*, Fct.cells, noF, bne_self_eq_false, Bool.not_true, Bool.not_false, ↓reduceIte, ↓evP, evQ, splice, Nat.reduceAdd, Nat.reduceEqDiff, Nat.reduceLeDiff, Nat.reduceMul, reduceCtorEq, Int.reduceLT, Int.reduceLE, Int.reduceGT, Int.reduceGE, Int.reduceEq, Int.reduceNeg]) | (refine condF_split (fun hc => ?_) (fun hc => ?_) <;> (try simp only [Bool.not_eq_true', Bool.not_eq_false', Bool.and_eq_true, Bool.or_eq_false_iff] at hc)) | (intro _; intros) | (refine And.intro ?_ ?_; focus (first | omega | ((repeat (first | exact Sub.refl _ | (refine Sub.drop ?_ ?_; focus (simp only [evN, *]; done)) | refine Sub.both ?_)); done) | (simp_all; done) | (simp_all; omega)))))
          exact endF_det rfl (hsub.out _ _ hb)
end Go.Proofs.Ytpnghjmphbhkjaa
