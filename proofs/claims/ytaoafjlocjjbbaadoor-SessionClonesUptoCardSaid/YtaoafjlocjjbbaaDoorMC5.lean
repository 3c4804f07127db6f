/- Texts of mine, part 5 of 5, laid together: A clone goes its own way: the whole law. What the row's list of variables gives. What the second form's bound says of a slice's length. No condition. -/
import Derived.Test.YtaoafjlocjjbbaaDoorMC4
import Derived.Test.YtaoafjlocjjbbaaDoorRows
import Derived.Lib.LaidTab
import Derived.Stop.LaidErr
-- C41
namespace Go.Proofs.YtaoafjlocjjbbaaDoor
open Go.Sp
set_option linter.unusedSimpArgs false
set_option linter.unusedVariables false
set_option maxRecDepth 100000 in
set_option maxHeartbeats 4000000 in
theorem clones8 {σ : Hp} (hG : Glob σ) (id : Int) {va vb : Value} {xs ys : List OpS} (hva : RoRows 20 OpS.cells σ va xs) (hvb : RoRows 20 OpS.cells σ vb ys) (hoa : ∀ o ∈ xs, OpOk σ o) (hob : ∀ o ∈ ys, OpOk σ o) (hna : xs.length ≤ 1048576) (hnb : ys.length ≤ 1048576) :
    ACalls Tryd.prog 8 #[.int .i64 id, va, vb] σ fun u σ' => u = .bool true ∧ σ' = σ := by
  have HG := Hid.mk hG
  have HVA := Hid.mk hva
  have HVB := Hid.mk hvb
  have HOA := Hid.mk hoa
  have HOB := Hid.mk hob
  clear hG hoa hob
  obtain ⟨A, ca, rfl, _⟩ := hva
  obtain ⟨B, cb, rfl, _⟩ := hvb
  (refine acalls_F ok8 (by simp) ?_; unfold c8 r8; simp (config := { contextual := true, dsimp := false }) only [OpS.cells, Msg.cells, Wr.cells, SesS.msg, SesS.cells, SesS.view, noMsg, Bool.not_false, Bool.not_true, SesS.tried, ↓reduceIte, ↓evP, evQ, if_true, if_false, eq_self, binv, eqv, lenv, fillO, splice_nil, splice_zero, splice_skip, fldv, Sp.eqa, eqL, eq1, Nat.reduceAdd, Nat.reduceEqDiff, Nat.reduceLeDiff, Nat.reduceMul, reduceCtorEq, Int.reduceLT, Int.reduceLE, Int.reduceGT, Int.reduceGE, Int.reduceEq, Int.reduceNeg])
  (repeat' (first | (refine condF_split (fun hc => ?_) (fun hc => ?_) <;> (try simp only [Bool.not_eq_true', Bool.not_eq_false', Bool.and_eq_true, Bool.or_eq_false_iff] at hc) <;> (try (simp (config := { contextual := true, dsimp := false }) only [*, OpS.cells, Msg.cells, Wr.cells, SesS.msg, SesS.cells, SesS.view, noMsg, Bool.not_false, Bool.not_true, SesS.tried, ↓reduceIte, ↓evP, evQ, if_true, if_false, eq_self, binv, eqv, lenv, fillO, splice_nil, splice_zero, splice_skip, fldv, Sp.eqa, eqL, eq1, Nat.reduceAdd, Nat.reduceEqDiff, Nat.reduceLeDiff, Nat.reduceMul, reduceCtorEq, Int.reduceLT, Int.reduceLE, Int.reduceGT, Int.reduceGE, Int.reduceEq, Int.reduceNeg]))) | (refine callF_v (fixed13 _) ?_; (try (simp (config := { contextual := true, dsimp := false }) only [*, OpS.cells, Msg.cells, Wr.cells, SesS.msg, SesS.cells, SesS.view, noMsg, Bool.not_false, Bool.not_true, SesS.tried, ↓reduceIte, ↓evP, evQ, if_true, if_false, eq_self, binv, eqv, lenv, fillO, splice_nil, splice_zero, splice_skip, fldv, Sp.eqa, eqL, eq1, Nat.reduceAdd, Nat.reduceEqDiff, Nat.reduceLeDiff, Nat.reduceMul, reduceCtorEq, Int.reduceLT, Int.reduceLE, Int.reduceGT, Int.reduceGE, Int.reduceEq, Int.reduceNeg]))) | (refine ccallF_of (fixed13 _) ?_; (try (simp (config := { contextual := true, dsimp := false }) only [*, OpS.cells, Msg.cells, Wr.cells, SesS.msg, SesS.cells, SesS.view, noMsg, Bool.not_false, Bool.not_true, SesS.tried, ↓reduceIte, ↓evP, evQ, if_true, if_false, eq_self, binv, eqv, lenv, fillO, splice_nil, splice_zero, splice_skip, fldv, Sp.eqa, eqL, eq1, Nat.reduceAdd, Nat.reduceEqDiff, Nat.reduceLeDiff, Nat.reduceMul, reduceCtorEq, Int.reduceLT, Int.reduceLE, Int.reduceGT, Int.reduceGE, Int.reduceEq, Int.reduceNeg]))) | (refine gcallF_of (fixed13 _) ?_; (try (simp (config := { contextual := true, dsimp := false }) only [*, OpS.cells, Msg.cells, Wr.cells, SesS.msg, SesS.cells, SesS.view, noMsg, Bool.not_false, Bool.not_true, SesS.tried, ↓reduceIte, ↓evP, evQ, if_true, if_false, eq_self, binv, eqv, lenv, fillO, splice_nil, splice_zero, splice_skip, fldv, Sp.eqa, eqL, eq1, Nat.reduceAdd, Nat.reduceEqDiff, Nat.reduceLeDiff, Nat.reduceMul, reduceCtorEq, Int.reduceLT, Int.reduceLE, Int.reduceGT, Int.reduceGE, Int.reduceEq, Int.reduceNeg]))) | (intro _; intros) | ((refine And.intro ?_ ?_; focus (first | omega | (first | exact Sub.refl _ | ((repeat (first | exact Sub.refl _ | (refine Sub.drop ?_ ?_; focus (simp only [none_upd, none_set, not_false_eq_true, true_and, and_true, *]; done)) | refine Sub.both ?_)); done)) | ((simp only [decide_eq_true_eq, decide_eq_false_iff_not] at *); omega) | (simp_all; done) | (simp_all; omega))); (try (simp (config := { contextual := true, dsimp := false }) only [*, OpS.cells, Msg.cells, Wr.cells, SesS.msg, SesS.cells, SesS.view, noMsg, Bool.not_false, Bool.not_true, SesS.tried, ↓reduceIte, ↓evP, evQ, if_true, if_false, eq_self, binv, eqv, lenv, fillO, splice_nil, splice_zero, splice_skip, fldv, Sp.eqa, eqL, eq1, Nat.reduceAdd, Nat.reduceEqDiff, Nat.reduceLeDiff, Nat.reduceMul, reduceCtorEq, Int.reduceLT, Int.reduceLE, Int.reduceGT, Int.reduceGE, Int.reduceEq, Int.reduceNeg])))))
  refine callF_of (new14 id σ) ?_
  rintro u _ ⟨g, hg, rfl, rfl⟩
  simp (config := { contextual := true, dsimp := false }) only [*, OpS.cells, Msg.cells, Wr.cells, SesS.msg, SesS.cells, SesS.view, noMsg, Bool.not_false, Bool.not_true, SesS.tried, ↓reduceIte, ↓evP, evQ, if_true, if_false, eq_self, binv, eqv, lenv, fillO, splice_nil, splice_zero, splice_skip, fldv, Sp.eqa, eqL, eq1, Nat.reduceAdd, Nat.reduceEqDiff, Nat.reduceLeDiff, Nat.reduceMul, reduceCtorEq, Int.reduceLT, Int.reduceLE, Int.reduceGT, Int.reduceGE, Int.reduceEq, Int.reduceNeg]
  (repeat' (first | (refine condF_split (fun hc => ?_) (fun hc => ?_) <;> (try simp only [Bool.not_eq_true', Bool.not_eq_false', Bool.and_eq_true, Bool.or_eq_false_iff] at hc) <;> (try (simp (config := { contextual := true, dsimp := false }) only [*, OpS.cells, Msg.cells, Wr.cells, SesS.msg, SesS.cells, SesS.view, noMsg, Bool.not_false, Bool.not_true, SesS.tried, ↓reduceIte, ↓evP, evQ, if_true, if_false, eq_self, binv, eqv, lenv, fillO, splice_nil, splice_zero, splice_skip, fldv, Sp.eqa, eqL, eq1, Nat.reduceAdd, Nat.reduceEqDiff, Nat.reduceLeDiff, Nat.reduceMul, reduceCtorEq, Int.reduceLT, Int.reduceLE, Int.reduceGT, Int.reduceGE, Int.reduceEq, Int.reduceNeg]))) | (intro _; intros) | ((refine And.intro ?_ ?_; focus (first | omega | (first | exact Sub.refl _ | ((repeat (first | exact Sub.refl _ | (refine Sub.drop ?_ ?_; focus (simp only [none_upd, none_set, not_false_eq_true, true_and, and_true, *]; done)) | refine Sub.both ?_)); done)) | ((simp only [decide_eq_true_eq, decide_eq_false_iff_not] at *); omega) | (simp_all; done) | (simp_all; omega))); (try (simp (config := { contextual := true, dsimp := false }) only [*, OpS.cells, Msg.cells, Wr.cells, SesS.msg, SesS.cells, SesS.view, noMsg, Bool.not_false, Bool.not_true, SesS.tried, ↓reduceIte, ↓evP, evQ, if_true, if_false, eq_self, binv, eqv, lenv, fillO, splice_nil, splice_zero, splice_skip, fldv, Sp.eqa, eqL, eq1, Nat.reduceAdd, Nat.reduceEqDiff, Nat.reduceLeDiff, Nat.reduceMul, reduceCtorEq, Int.reduceLT, Int.reduceLE, Int.reduceGT, Int.reduceGE, Int.reduceEq, Int.reduceNeg])))))
  rename_i h h1 h1' h0
  rw [upd_comm _ _ _ h1']
  refine loopF_of (fun k s σ' => ∃ (i : Nat) (τ : Hp) (S : SesS) (v w : Value) (ws ws' : List Wr), i ≤ xs.length ∧ k = xs.length - i ∧ s 0 = .int .i64 id ∧ s 1 = .slice A xs.length ca ∧ s 2 = .slice B ys.length cb ∧ s 7 = .pointer (some ⟨g, 0, none⟩) ∧ s 8 = .pointer (some ⟨h, 0, none⟩) ∧ s 9 = .int .i64 i ∧
      σ' = both τ g h S v w ∧ Both τ g h S v w ws ws' ∧ Sub σ τ ∧ (0 ≤ S.seq ∧ S.seq ≤ i) ∧ (0 ≤ S.tries ∧ S.tries ≤ i) ∧ S.id = id) xs.length (Sub.refl _)
    ⟨0, σ, new0 id, .slice none 0 0, .slice none 0 0, [], [], by omega, rfl, (by first | rfl | (simp only [↓putO_get, ↓putO_no, init_zero, init_succ, Nat.reduceEqDiff, ↓reduceIte, *]; done) | (simp only [↓putO_get, ↓putO_no, init_zero, init_succ, Nat.reduceEqDiff, ↓reduceIte, *]; rfl)), (by first | rfl | (simp only [↓putO_get, ↓putO_no, init_zero, init_succ, Nat.reduceEqDiff, ↓reduceIte, *]; done) | (simp only [↓putO_get, ↓putO_no, init_zero, init_succ, Nat.reduceEqDiff, ↓reduceIte, *]; rfl)), (by first | rfl | (simp only [↓putO_get, ↓putO_no, init_zero, init_succ, Nat.reduceEqDiff, ↓reduceIte, *]; done) | (simp only [↓putO_get, ↓putO_no, init_zero, init_succ, Nat.reduceEqDiff, ↓reduceIte, *]; rfl)), (by first | rfl | (simp only [↓putO_get, ↓putO_no, init_zero, init_succ, Nat.reduceEqDiff, ↓reduceIte, *]; done) | (simp only [↓putO_get, ↓putO_no, init_zero, init_succ, Nat.reduceEqDiff, ↓reduceIte, *]; rfl)), (by first | rfl | (simp only [↓putO_get, ↓putO_no, init_zero, init_succ, Nat.reduceEqDiff, ↓reduceIte, *]; done) | (simp only [↓putO_get, ↓putO_no, init_zero, init_succ, Nat.reduceEqDiff, ↓reduceIte, *]; rfl)), (by first | rfl | (simp only [↓putO_get, ↓putO_no, init_zero, init_succ, Nat.reduceEqDiff, ↓reduceIte, *]; done) | (simp only [↓putO_get, ↓putO_no, init_zero, init_succ, Nat.reduceEqDiff, ↓reduceIte, *]; rfl)), rfl, ⟨h1', h1, hg, h0, .inl ⟨rfl, rfl⟩, .inl ⟨rfl, rfl⟩, (fun h => by cases h), by decide, by decide⟩, Sub.refl _, ⟨Int.le_refl 0, Int.le_refl 0⟩, ⟨Int.le_refl 0, Int.le_refl 0⟩, rfl⟩ ?_
  rintro k s σ' ⟨i, τ, S, v, w, ws, ws', hi, rfl, s0, s1, s2, s7, s8, s9, rfl, BB, hsub, hq0, hq1, hid⟩
  have HB := Hid.mk (And.intro BB (And.intro hsub (And.intro hq0 (And.intro hq1 hid))))
  rcases Nat.lt_or_ge i xs.length with hlt | hge
  · have hd : decide ((i : Int) < (xs.length : Int)) = true := by simp; omega
    have hok0 := HOA.out _ (List.getElem_mem hlt)
    have hok := hok0.sub hsub
    have hboth : Sub σ (both τ g h S v w) := by
      unfold both
      exact Sub.drop hg (Sub.drop h0 hsub)
    obtain ⟨b1, o1, rfl, r0⟩ := HVA.out.get hlt
    have r1 := rdn_sub hboth r0
    have hlt3 : i + 1 ≤ xs.length := hlt
    have hm1 : one (xs[i]).msg.writes = true := hok.msg.1
    have hm2 : one (xs[i]).msg.keys = true := hok.msg.2
    have hwr : one (xs[i]).writes = true := by obtain ⟨os, ⟨A, c, e, _⟩, _⟩ := hok.writes; rw [e]; rfl
    generalize xs[i] = o at *
    have HK := Hid.mk hok0
    obtain ⟨os, hro, hos⟩ := hok0.writes
    clear hlt BB hok hok0 hq0 hq1 hid
    obtain ⟨k, wr, n, m, tk⟩ := o
    have hro : RoRows 3 Wr.cells σ wr os := hro
    have HW := Hid.mk hro
    obtain ⟨A2, c2, rfl, _⟩ := hro
    have HR := Hid.mk (rd_part r0 1 (v := .slice A2 os.length c2) rfl)
    have hii : (i : Int) < (xs.length : Int) := by omega
    have HS := Hid.mk hboth
    clear hboth r0 hsub
    generalize hβ : both τ g h S v w = β at *
    simp (config := { contextual := true, dsimp := false }) only [*, OpS.cells, Msg.cells, Wr.cells, SesS.msg, SesS.cells, SesS.view, noMsg, Bool.not_false, Bool.not_true, SesS.tried, ↓reduceIte, ↓evP, evQ, if_true, if_false, eq_self, binv, eqv, lenv, fillO, splice_nil, splice_zero, splice_skip, fldv, Sp.eqa, eqL, eq1, Nat.reduceAdd, Nat.reduceEqDiff, Nat.reduceLeDiff, Nat.reduceMul, reduceCtorEq, Int.reduceLT, Int.reduceLE, Int.reduceGT, Int.reduceGE, Int.reduceEq, Int.reduceNeg]
    intro b10 hb10
    show codeF _ (.seq c8_br54 c8_tr54) _ _ _ _
    refine codeF_cut (fun s' σf => ∃ (bw c' : Nat) (ρ : Hp), [0, 1, 2, 7, 8, 9, 10].map s' = [.int .i64 id, .slice (some ⟨b1, o1, none⟩) xs.length ca, .slice B ys.length cb, .pointer (some ⟨g, 0, none⟩), .pointer (some ⟨h, 0, none⟩), .int .i64 i, .pointer (some ⟨b10, 0, none⟩)] ∧ os.length + 1 ≤ c' ∧ β bw = none ∧ ρ bw = none ∧ ρ b10 = none ∧ ¬ bw = b10 ∧ Same (fun _ => False) β ρ ∧
      σf = upd (upd ρ bw (.row ((os ++ [spareW]).flatMap Wr.cells) (c' * 3) 37)) b10 (.cells (OpS.cells ⟨k, .slice (some ⟨bw, 0, none⟩) os.length c', n, m, tk⟩) 55)) ?_ ?_
    · refine build8 (β := β) (N := xs.length) (i := i) (os := os) (A2 := A2) (c2 := c2) (b1 := b1) (o1 := o1) (ca := ca) (by first | rfl | (simp only [↓putO_get, ↓putO_no, init_zero, init_succ, Nat.reduceEqDiff, ↓reduceIte, *]; done) | (simp only [↓putO_get, ↓putO_no, init_zero, init_succ, Nat.reduceEqDiff, ↓reduceIte, *]; rfl)) (by first | rfl | (simp only [↓putO_get, ↓putO_no, init_zero, init_succ, Nat.reduceEqDiff, ↓reduceIte, *]; done) | (simp only [↓putO_get, ↓putO_no, init_zero, init_succ, Nat.reduceEqDiff, ↓reduceIte, *]; rfl)) (by first | rfl | (simp only [↓putO_get, ↓putO_no, init_zero, init_succ, Nat.reduceEqDiff, ↓reduceIte, *]; done) | (simp only [↓putO_get, ↓putO_no, init_zero, init_succ, Nat.reduceEqDiff, ↓reduceIte, *]; rfl)) hlt3 (rd_sub HS.out HR.out) (HW.out.sub HS.out) hos hb10 (fun s' bw c' ρ hL e1 e2 e3 e4 e5 e6 => ?_)
      rw [thn_normal]
      exact ⟨bw, c', ρ, hL.trans (by simp only [List.map_cons, List.map_nil, ↓putO_get, ↓putO_no, init_zero, init_succ, Nat.reduceEqDiff, ↓reduceIte, *]), e1, e2, e3, e4, e5, e6, rfl⟩
    rintro s' σf ⟨bw, c', ρ, hL, e1, e2, e3, e4, e5, e6, rfl⟩
    simp only [List.map_cons, List.map_nil, List.cons.injEq, and_true] at hL
    obtain ⟨q0, q1, q2, q7, q8, q9, q10⟩ := hL
    subst hβ
    obtain ⟨n1, n2, hgt, hht, hr1, hr2, hsame, l1, l2⟩ := HB.out.1
    have eg := e6.at (g := g) (o := .cells (S.cells v) 101) (by unfold both; exact upd_same _ _ _) (fun x => x)
    have eh := e6.at (g := h) (o := .cells (S.cells w) 63) (by unfold both; simp [upd, n2]) (fun x => x)
    have hτ : Same (fun _ => False) τ ρ := Same.unUpd hht (Same.unUpd (g := g) (X := .cells (S.cells v) 101) ((none_upd _ _ _ _).2 ⟨⟨n1, n2⟩, hgt⟩) (by unfold both at e6; exact e6))
    obtain ⟨ρ2, rfl, p1, p2, p3⟩ := two_blocks eg eh n2 hgt hht hτ
    unfold both at hb10 e2
    simp only [none_upd] at e2 e3 e4 hb10
    refine tail54 (ρ := ρ2) (g := g) (h := h) (S := S) (v := v) (w := w) (ws := ws) (ws' := ws') (N := xs.length) (i := i) (c2 := c2) (A2 := A2) HG.out (HB.out.2.1.trans (Same.sub p3)) ⟨n1, n2, p2, p1, hr1.sameF p3 (fun _ _ x => x), hr2.sameF p3 (fun _ _ x => x), hsame, l1, l2⟩ e3.2.2 e4.2.2 e5 e3.1.1 e3.2.1.1 e4.1.1 e4.2.1.1 hg h0 q1 q7 q8 q9 q10 hlt3 HR.out e1 hos HK.out.kind HK.out.token HK.out.n HK.out.msg.1 HK.out.msg.2 ⟨HB.out.2.2.1.1, by have := HB.out.2.2.1.2; omega⟩ ⟨HB.out.2.2.2.1.1, by have := HB.out.2.2.2.1.2; omega⟩ (fun t σf τ' S' v' w' ws1 ws1' hT hSf hB' hsub' hOn => ?_)
    clear e1 e2 e3 e4 e5 e6 eg eh hτ p1 p2 p3
    simp only [List.map_cons, List.map_nil, List.cons.injEq, and_true] at hT
    obtain ⟨t0, t1, t2, t7, t8, t9⟩ := hT
    have HX := Hid.mk (And.intro hB' (And.intro hsub' (And.intro hOn hSf)))
    clear hB' hsub' hOn hSf hr1 hr2 hsame l1 l2
    simp (config := { contextual := true, dsimp := false }) only [*, OpS.cells, Msg.cells, Wr.cells, SesS.msg, SesS.cells, SesS.view, noMsg, Bool.not_false, Bool.not_true, SesS.tried, ↓reduceIte, ↓evP, evQ, if_true, if_false, eq_self, binv, eqv, lenv, fillO, splice_nil, splice_zero, splice_skip, fldv, Sp.eqa, eqL, eq1, Nat.reduceAdd, Nat.reduceEqDiff, Nat.reduceLeDiff, Nat.reduceMul, reduceCtorEq, Int.reduceLT, Int.reduceLE, Int.reduceGT, Int.reduceGE, Int.reduceEq, Int.reduceNeg]
    refine nextF_of (σ₁ := both τ' g h S' v' w') (xs.length - (i + 1)) (by omega) HX.out.2.2.2 ⟨i + 1, τ', S', v', w', ws1, ws1', by omega, rfl, (by first | rfl | (simp only [↓putO_get, ↓putO_no, init_zero, init_succ, Nat.reduceEqDiff, ↓reduceIte, *]; done) | (simp only [↓putO_get, ↓putO_no, init_zero, init_succ, Nat.reduceEqDiff, ↓reduceIte, *]; rfl)), (by first | rfl | (simp only [↓putO_get, ↓putO_no, init_zero, init_succ, Nat.reduceEqDiff, ↓reduceIte, *]; done) | (simp only [↓putO_get, ↓putO_no, init_zero, init_succ, Nat.reduceEqDiff, ↓reduceIte, *]; rfl)), (by first | rfl | (simp only [↓putO_get, ↓putO_no, init_zero, init_succ, Nat.reduceEqDiff, ↓reduceIte, *]; done) | (simp only [↓putO_get, ↓putO_no, init_zero, init_succ, Nat.reduceEqDiff, ↓reduceIte, *]; rfl)), (by first | rfl | (simp only [↓putO_get, ↓putO_no, init_zero, init_succ, Nat.reduceEqDiff, ↓reduceIte, *]; done) | (simp only [↓putO_get, ↓putO_no, init_zero, init_succ, Nat.reduceEqDiff, ↓reduceIte, *]; rfl)), (by first | rfl | (simp only [↓putO_get, ↓putO_no, init_zero, init_succ, Nat.reduceEqDiff, ↓reduceIte, *]; done) | (simp only [↓putO_get, ↓putO_no, init_zero, init_succ, Nat.reduceEqDiff, ↓reduceIte, *]; rfl)), ?_, rfl, HX.out.1, HX.out.2.1, ⟨HX.out.2.2.1.seq.1, by have := HX.out.2.2.1.seq; have := HB.out.2.2.1; omega⟩, ⟨HX.out.2.2.1.tries.1, by have := HX.out.2.2.1.tries; have := HB.out.2.2.2.1; omega⟩, HX.out.2.2.1.id.trans HB.out.2.2.2.2⟩
    show Value.int .i64 (IntKind.i64.wrap _) = _; rw [wi64 (by omega)]; rfl
  have hd : decide ((i : Int) < (xs.length : Int)) = false := by simp; omega
  clear BB hsub hq0 hq1
  subst hid
  simp (config := { contextual := true, dsimp := false }) only [*, OpS.cells, Msg.cells, Wr.cells, SesS.msg, SesS.cells, SesS.view, noMsg, Bool.not_false, Bool.not_true, SesS.tried, ↓reduceIte, ↓evP, evQ, if_true, if_false, eq_self, binv, eqv, lenv, fillO, splice_nil, splice_zero, splice_skip, fldv, Sp.eqa, eqL, eq1, Nat.reduceAdd, Nat.reduceEqDiff, Nat.reduceLeDiff, Nat.reduceMul, reduceCtorEq, Int.reduceLT, Int.reduceLE, Int.reduceGT, Int.reduceGE, Int.reduceEq, Int.reduceNeg]
  obtain ⟨n1, n2, hgt, hht, _, _, _, _, _⟩ := HB.out.1
  have HS : Hid (Sub σ (both τ g h S v w)) := ⟨by unfold both; exact Sub.drop hg (Sub.drop h0 HB.out.2.1)⟩
  show codeF _ (.seq c8_br151 c8_tr151) _ _ _ _
  refine codeF_cut (fun s' σf => ∃ (τ' : Hp) (g2 h2 : Nat) (v2 w2 : Value), [0, 1, 2, 7, 8].map s' = [.int .i64 S.id, .slice A xs.length ca, .slice B ys.length cb, .pointer (some ⟨g, 0, none⟩), .pointer (some ⟨h, 0, none⟩)] ∧ s' 18 = .pointer (some ⟨g2, 0, none⟩) ∧ s' 19 = .pointer (some ⟨h2, 0, none⟩) ∧ Both τ' g2 h2 S v2 w2 ws ws' ∧ Sub (both τ g h S v w) τ' ∧ σf = both τ' g2 h2 S v2 w2) ?_ ?_
  · refine clone151 HB.out.1 (by first | rfl | (simp only [↓putO_get, ↓putO_no, init_zero, init_succ, Nat.reduceEqDiff, ↓reduceIte, *]; done) | (simp only [↓putO_get, ↓putO_no, init_zero, init_succ, Nat.reduceEqDiff, ↓reduceIte, *]; rfl)) (by first | rfl | (simp only [↓putO_get, ↓putO_no, init_zero, init_succ, Nat.reduceEqDiff, ↓reduceIte, *]; done) | (simp only [↓putO_get, ↓putO_no, init_zero, init_succ, Nat.reduceEqDiff, ↓reduceIte, *]; rfl)) (by first | rfl | (simp only [↓putO_get, ↓putO_no, init_zero, init_succ, Nat.reduceEqDiff, ↓reduceIte, *]; done) | (simp only [↓putO_get, ↓putO_no, init_zero, init_succ, Nat.reduceEqDiff, ↓reduceIte, *]; rfl)) (fun s' τ' g2 h2 v2 w2 hL e18 e19 B2 hS2 => ?_)
    rw [thn_normal]
    exact ⟨τ', g2, h2, v2, w2, hL.trans (by simp only [List.map_cons, List.map_nil, ↓putO_get, ↓putO_no, init_zero, init_succ, Nat.reduceEqDiff, ↓reduceIte, *]), e18, e19, B2, hS2, rfl⟩
  clear s0 s1 s2 s7 s8 s9
  rintro s σf ⟨τ', g2, h2, v2, w2, hL, s18, s19, B2, hS2, rfl⟩
  simp only [List.map_cons, List.map_nil, List.cons.injEq, and_true] at hL
  obtain ⟨s0, s1, s2, s7, s8⟩ := hL
  have H2 := Hid.mk (And.intro B2 hS2)
  clear B2 hS2
  unfold c8_tr151
  simp (config := { contextual := true, dsimp := false }) only [*, OpS.cells, Msg.cells, Wr.cells, SesS.msg, SesS.cells, SesS.view, noMsg, Bool.not_false, Bool.not_true, SesS.tried, ↓reduceIte, ↓evP, evQ, if_true, if_false, eq_self, binv, eqv, lenv, fillO, splice_nil, splice_zero, splice_skip, fldv, Sp.eqa, eqL, eq1, Nat.reduceAdd, Nat.reduceEqDiff, Nat.reduceLeDiff, Nat.reduceMul, reduceCtorEq, Int.reduceLT, Int.reduceLE, Int.reduceGT, Int.reduceGE, Int.reduceEq, Int.reduceNeg]
  refine loopF_of (fun k s σ' => ∃ (j : Nat) (τ2 : Hp) (S2 : SesS) (v2 w2 : Value) (ws2 ws2' : List Wr), j ≤ ys.length ∧ k = ys.length - j ∧ s 2 = .slice B ys.length cb ∧ s 7 = .pointer (some ⟨g, 0, none⟩) ∧ s 8 = .pointer (some ⟨h, 0, none⟩) ∧ s 18 = .pointer (some ⟨g2, 0, none⟩) ∧ s 19 = .pointer (some ⟨h2, 0, none⟩) ∧ s 20 = .int .i64 j ∧
      σ' = both τ2 g2 h2 S2 v2 w2 ∧ Both τ2 g2 h2 S2 v2 w2 ws2 ws2' ∧ Sub (both τ g h S v w) τ2 ∧ (0 ≤ S2.seq ∧ S2.seq ≤ i + j) ∧ (0 ≤ S2.tries ∧ S2.tries ≤ i + j)) ys.length (Sub.refl _)
    ⟨0, τ', S, v2, w2, ws, ws', by omega, rfl, (by first | rfl | (simp only [↓putO_get, ↓putO_no, init_zero, init_succ, Nat.reduceEqDiff, ↓reduceIte, *]; done) | (simp only [↓putO_get, ↓putO_no, init_zero, init_succ, Nat.reduceEqDiff, ↓reduceIte, *]; rfl)), (by first | rfl | (simp only [↓putO_get, ↓putO_no, init_zero, init_succ, Nat.reduceEqDiff, ↓reduceIte, *]; done) | (simp only [↓putO_get, ↓putO_no, init_zero, init_succ, Nat.reduceEqDiff, ↓reduceIte, *]; rfl)), (by first | rfl | (simp only [↓putO_get, ↓putO_no, init_zero, init_succ, Nat.reduceEqDiff, ↓reduceIte, *]; done) | (simp only [↓putO_get, ↓putO_no, init_zero, init_succ, Nat.reduceEqDiff, ↓reduceIte, *]; rfl)), (by first | rfl | (simp only [↓putO_get, ↓putO_no, init_zero, init_succ, Nat.reduceEqDiff, ↓reduceIte, *]; done) | (simp only [↓putO_get, ↓putO_no, init_zero, init_succ, Nat.reduceEqDiff, ↓reduceIte, *]; rfl)), (by first | rfl | (simp only [↓putO_get, ↓putO_no, init_zero, init_succ, Nat.reduceEqDiff, ↓reduceIte, *]; done) | (simp only [↓putO_get, ↓putO_no, init_zero, init_succ, Nat.reduceEqDiff, ↓reduceIte, *]; rfl)), (by first | rfl | (simp only [↓putO_get, ↓putO_no, init_zero, init_succ, Nat.reduceEqDiff, ↓reduceIte, *]; done) | (simp only [↓putO_get, ↓putO_no, init_zero, init_succ, Nat.reduceEqDiff, ↓reduceIte, *]; rfl)), rfl, H2.out.1, H2.out.2, ⟨HB.out.2.2.1.1, by have := HB.out.2.2.1.2; omega⟩, ⟨HB.out.2.2.2.1.1, by have := HB.out.2.2.2.1.2; omega⟩⟩ ?_
  clear s0 s1 s2 s7 s8 s18 s19 H2
  rintro k s σ' ⟨j, τ2, S2, v2, w2, ws2, ws2', hj, rfl, s2, s7, s8, s18, s19, s20, rfl, B2, hS2, hq0, hq1⟩
  have H2 := Hid.mk (And.intro B2 (And.intro hS2 (And.intro hq0 hq1)))
  have g2n : both τ g h S v w g2 = none := hS2.noneAt B2.hg
  have h2n : both τ g h S v w h2 = none := hS2.noneAt B2.hh
  rcases Nat.lt_or_ge j ys.length with hlt | hge2
  · have hd2 : decide ((j : Int) < (ys.length : Int)) = true := by simp; omega
    have hσ2 : Sub σ τ2 := HS.out.trans hS2
    obtain ⟨S', hOn, hcall⟩ := step27 (HG.out.sub hσ2) B2 ((HOB.out _ (List.getElem_mem hlt)).sub hσ2) ⟨hq0.1, by omega⟩ ⟨hq1.1, by omega⟩
    have hboth : Sub σ (both τ2 g2 h2 S2 v2 w2) := by
      refine hσ2.trans ?_
      unfold both
      exact Sub.drop B2.hg (Sub.drop B2.hh (Sub.refl _))
    obtain ⟨b1, o1, rfl, r1⟩ := (HVB.out.sub hboth).get hlt
    have HC := Hid.mk hcall
    have hlt3 : j + 1 ≤ ys.length := hlt
    generalize ys[j] = o at *
    clear hlt hcall B2 hS2 hσ2 hboth g2n h2n
    have hjj : (j : Int) < (ys.length : Int) := by omega
    generalize hσ' : both τ2 g2 h2 S2 v2 w2 = σ' at *
    simp (config := { contextual := true, dsimp := false }) only [*, OpS.cells, Msg.cells, Wr.cells, SesS.msg, SesS.cells, SesS.view, noMsg, Bool.not_false, Bool.not_true, SesS.tried, ↓reduceIte, ↓evP, evQ, if_true, if_false, eq_self, binv, eqv, lenv, fillO, splice_nil, splice_zero, splice_skip, fldv, Sp.eqa, eqL, eq1, Nat.reduceAdd, Nat.reduceEqDiff, Nat.reduceLeDiff, Nat.reduceMul, reduceCtorEq, Int.reduceLT, Int.reduceLE, Int.reduceGT, Int.reduceGE, Int.reduceEq, Int.reduceNeg]
    refine callF_of HC.out ?_
    rintro u σ'' ⟨rfl, τ3, v3, w3, ws3, ws3', rfl, B3, hS3, _, _⟩
    have H3 := Hid.mk (And.intro B3 hS3)
    clear B3 hS3
    simp (config := { contextual := true, dsimp := false }) only [*, OpS.cells, Msg.cells, Wr.cells, SesS.msg, SesS.cells, SesS.view, noMsg, Bool.not_false, Bool.not_true, SesS.tried, ↓reduceIte, ↓evP, evQ, if_true, if_false, eq_self, binv, eqv, lenv, fillO, splice_nil, splice_zero, splice_skip, fldv, Sp.eqa, eqL, eq1, Nat.reduceAdd, Nat.reduceEqDiff, Nat.reduceLeDiff, Nat.reduceMul, reduceCtorEq, Int.reduceLT, Int.reduceLE, Int.reduceGT, Int.reduceGE, Int.reduceEq, Int.reduceNeg]
    refine nextF_of (σ₁ := both τ3 g2 h2 S' v3 w3) (ys.length - (j + 1)) (by omega) (Sub.refl _) ⟨j + 1, τ3, S', v3, w3, ws3, ws3', by omega, rfl, (by first | rfl | (simp only [↓putO_get, ↓putO_no, init_zero, init_succ, Nat.reduceEqDiff, ↓reduceIte, *]; done) | (simp only [↓putO_get, ↓putO_no, init_zero, init_succ, Nat.reduceEqDiff, ↓reduceIte, *]; rfl)), (by first | rfl | (simp only [↓putO_get, ↓putO_no, init_zero, init_succ, Nat.reduceEqDiff, ↓reduceIte, *]; done) | (simp only [↓putO_get, ↓putO_no, init_zero, init_succ, Nat.reduceEqDiff, ↓reduceIte, *]; rfl)), (by first | rfl | (simp only [↓putO_get, ↓putO_no, init_zero, init_succ, Nat.reduceEqDiff, ↓reduceIte, *]; done) | (simp only [↓putO_get, ↓putO_no, init_zero, init_succ, Nat.reduceEqDiff, ↓reduceIte, *]; rfl)), (by first | rfl | (simp only [↓putO_get, ↓putO_no, init_zero, init_succ, Nat.reduceEqDiff, ↓reduceIte, *]; done) | (simp only [↓putO_get, ↓putO_no, init_zero, init_succ, Nat.reduceEqDiff, ↓reduceIte, *]; rfl)), (by first | rfl | (simp only [↓putO_get, ↓putO_no, init_zero, init_succ, Nat.reduceEqDiff, ↓reduceIte, *]; done) | (simp only [↓putO_get, ↓putO_no, init_zero, init_succ, Nat.reduceEqDiff, ↓reduceIte, *]; rfl)), ?_, rfl, H3.out.1, H2.out.2.1.trans (Same.sub H3.out.2), ⟨hOn.seq.1, by have := hOn.seq; omega⟩, ⟨hOn.tries.1, by have := hOn.tries; omega⟩⟩
    show Value.int .i64 (IntKind.i64.wrap _) = _; rw [wi64 (by omega)]; rfl
  · have hd2 : decide ((j : Int) < (ys.length : Int)) = false := by simp; omega
    have kg : τ2 g = some (.cells (S.cells v) 101) := (hS2 g).elim (fun e => absurd e (by unfold both; simp [upd])) (fun e => e.symm.trans (by unfold both; exact upd_same _ _ _))
    have kh : τ2 h = some (.cells (S.cells w) 63) := (hS2 h).elim (fun e => absurd e (by unfold both; simp [upd, n2])) (fun e => e.symm.trans (by unfold both; simp [upd, n2]))
    have z1 : ¬ g = g2 := fun e => by rw [← e] at g2n; unfold both at g2n; simp [upd] at g2n
    have z2 : ¬ g = h2 := fun e => by rw [← e] at h2n; unfold both at h2n; simp [upd] at h2n
    have z3 : ¬ h = g2 := fun e => by rw [← e] at g2n; unfold both at g2n; simp [upd, n2] at g2n
    have z4 : ¬ h = h2 := fun e => by rw [← e] at h2n; unfold both at h2n; simp [upd, n2] at h2n
    have HE : Hid (Sub σ (both τ2 g2 h2 S2 v2 w2)) := ⟨by
      refine (HS.out.trans hS2).trans ?_
      unfold both
      exact Sub.drop B2.hg (Sub.drop B2.hh (Sub.refl _))⟩
    obtain ⟨τ3, rfl⟩ := open_2 kg kh n1
    clear kg kh B2 hS2 hq0 hq1 g2n h2n H2
    unfold both
    simp (config := { contextual := true, dsimp := false }) only [*, OpS.cells, Msg.cells, Wr.cells, SesS.msg, SesS.cells, SesS.view, noMsg, Bool.not_false, Bool.not_true, SesS.tried, ↓reduceIte, ↓evP, evQ, if_true, if_false, eq_self, binv, eqv, lenv, fillO, splice_nil, splice_zero, splice_skip, fldv, Sp.eqa, eqL, eq1, Nat.reduceAdd, Nat.reduceEqDiff, Nat.reduceLeDiff, Nat.reduceMul, reduceCtorEq, Int.reduceLT, Int.reduceLE, Int.reduceGT, Int.reduceGE, Int.reduceEq, Int.reduceNeg]
    (repeat' (first | (refine condF_split (fun hc => ?_) (fun hc => ?_) <;> (try simp only [Bool.not_eq_true', Bool.not_eq_false', Bool.and_eq_true, Bool.or_eq_false_iff] at hc) <;> (try (simp (config := { contextual := true, dsimp := false }) only [*, OpS.cells, Msg.cells, Wr.cells, SesS.msg, SesS.cells, SesS.view, noMsg, Bool.not_false, Bool.not_true, SesS.tried, ↓reduceIte, ↓evP, evQ, if_true, if_false, eq_self, binv, eqv, lenv, fillO, splice_nil, splice_zero, splice_skip, fldv, Sp.eqa, eqL, eq1, Nat.reduceAdd, Nat.reduceEqDiff, Nat.reduceLeDiff, Nat.reduceMul, reduceCtorEq, Int.reduceLT, Int.reduceLE, Int.reduceGT, Int.reduceGE, Int.reduceEq, Int.reduceNeg]))) | (refine callF_v (view18 (S := S) (v := v) (by first | rfl | (simp only [upd_same, upd_at, set_at, *, ↓reduceIte]; done) | (simp only [upd_same, upd_at, set_at, *, ↓reduceIte]; rfl))) ?_; (try (simp (config := { contextual := true, dsimp := false }) only [*, OpS.cells, Msg.cells, Wr.cells, SesS.msg, SesS.cells, SesS.view, noMsg, Bool.not_false, Bool.not_true, SesS.tried, ↓reduceIte, ↓evP, evQ, if_true, if_false, eq_self, binv, eqv, lenv, fillO, splice_nil, splice_zero, splice_skip, fldv, Sp.eqa, eqL, eq1, Nat.reduceAdd, Nat.reduceEqDiff, Nat.reduceLeDiff, Nat.reduceMul, reduceCtorEq, Int.reduceLT, Int.reduceLE, Int.reduceGT, Int.reduceGE, Int.reduceEq, Int.reduceNeg]))) | (refine ccallF_of (view18 (S := S) (v := v) (by first | rfl | (simp only [upd_same, upd_at, set_at, *, ↓reduceIte]; done) | (simp only [upd_same, upd_at, set_at, *, ↓reduceIte]; rfl))) ?_; (try (simp (config := { contextual := true, dsimp := false }) only [*, OpS.cells, Msg.cells, Wr.cells, SesS.msg, SesS.cells, SesS.view, noMsg, Bool.not_false, Bool.not_true, SesS.tried, ↓reduceIte, ↓evP, evQ, if_true, if_false, eq_self, binv, eqv, lenv, fillO, splice_nil, splice_zero, splice_skip, fldv, Sp.eqa, eqL, eq1, Nat.reduceAdd, Nat.reduceEqDiff, Nat.reduceLeDiff, Nat.reduceMul, reduceCtorEq, Int.reduceLT, Int.reduceLE, Int.reduceGT, Int.reduceGE, Int.reduceEq, Int.reduceNeg]))) | (refine gcallF_of (view18 (S := S) (v := v) (by first | rfl | (simp only [upd_same, upd_at, set_at, *, ↓reduceIte]; done) | (simp only [upd_same, upd_at, set_at, *, ↓reduceIte]; rfl))) ?_; (try (simp (config := { contextual := true, dsimp := false }) only [*, OpS.cells, Msg.cells, Wr.cells, SesS.msg, SesS.cells, SesS.view, noMsg, Bool.not_false, Bool.not_true, SesS.tried, ↓reduceIte, ↓evP, evQ, if_true, if_false, eq_self, binv, eqv, lenv, fillO, splice_nil, splice_zero, splice_skip, fldv, Sp.eqa, eqL, eq1, Nat.reduceAdd, Nat.reduceEqDiff, Nat.reduceLeDiff, Nat.reduceMul, reduceCtorEq, Int.reduceLT, Int.reduceLE, Int.reduceGT, Int.reduceGE, Int.reduceEq, Int.reduceNeg]))) | (intro _; intros) | ((refine And.intro ?_ ?_; focus (first | omega | (first | exact Sub.refl _ | ((repeat (first | exact Sub.refl _ | (refine Sub.drop ?_ ?_; focus (simp only [none_upd, none_set, not_false_eq_true, true_and, and_true, *]; done)) | refine Sub.both ?_)); done)) | ((simp only [decide_eq_true_eq, decide_eq_false_iff_not] at *); omega) | (simp_all; done) | (simp_all; omega))); (try (simp (config := { contextual := true, dsimp := false }) only [*, OpS.cells, Msg.cells, Wr.cells, SesS.msg, SesS.cells, SesS.view, noMsg, Bool.not_false, Bool.not_true, SesS.tried, ↓reduceIte, ↓evP, evQ, if_true, if_false, eq_self, binv, eqv, lenv, fillO, splice_nil, splice_zero, splice_skip, fldv, Sp.eqa, eqL, eq1, Nat.reduceAdd, Nat.reduceEqDiff, Nat.reduceLeDiff, Nat.reduceMul, reduceCtorEq, Int.reduceLT, Int.reduceLE, Int.reduceGT, Int.reduceGE, Int.reduceEq, Int.reduceNeg])))))
    refine endF_det (by simp) ?_
    have := HE.out
    unfold both at this
    exact this
end Go.Proofs.YtaoafjlocjjbbaaDoor

-- LawBase
namespace Go.Proofs.YtaoafjlocjjbbaaDoor
open Go.Sp
set_option linter.unusedVariables false
abbrev laidAll : List (String × DataW Unit) := [("math/bits.deBruijn32tab", Rows.laid_math_bits_deBruijn32tab), ("math/bits.deBruijn64tab", Rows.laid_math_bits_deBruijn64tab), ("internal/strconv.uint64pow10", Rows.laid_internal_strconv_uint64pow10), ("strconv.ErrRange", Rows.laid_strconv_ErrRange), ("strconv.ErrSyntax", Rows.laid_strconv_ErrSyntax)]
theorem gP : Tryd.prog.globalNamed "internal/strconv.uint64pow10" = some 0 := by kernel_rfl
theorem gS : Tryd.prog.globalNamed "strconv.ErrSyntax" = some 1 := by kernel_rfl
theorem gR : Tryd.prog.globalNamed "strconv.ErrRange" = some 2 := by kernel_rfl
theorem tyP : (Tryd.prog.globals[0]?).map (·.type) = some 182 := by kernel_rfl
theorem tyS : (Tryd.prog.globals[1]?).map (·.type) = some 111 := by kernel_rfl
theorem tyR : (Tryd.prog.globals[2]?).map (·.type) = some 111 := by kernel_rfl
theorem starErr : "*" ++ "errors.errorString" = "*errors.errorString" := by decide
theorem rowErr (u : TypeId) (h : Tryd.prog.typeName? 3 u = some "*errors.errorString") : u = 197 := by
  exact typeName_ptr_named (nm := "errors.errorString") (by rw [starErr]; kernel_rfl) (by kernel_rfl) (by decide) u (by rw [starErr]; exact h)
theorem glob_of_laid {W : World} (h : laidMet Tryd.prog laidAll W) : Lib.TabIs Tryd.prog W "internal/strconv.uint64pow10" .u64 Lib.pow10Tab ∧ (∃ tp p, W.var? Tryd.prog "strconv.ErrSyntax" = some #[.iface tp p]) ∧ (∃ tp p, W.var? Tryd.prog "strconv.ErrRange" = some #[.iface tp p]) := by
  have h3 := h.tail.tail
  obtain ⟨a1, s1, e1, _⟩ := laid_sentinel h3.tail gR tyR Tryd.underlying111 rowErr Tryd.underlying197 Tryd.underlying199 rfl rfl Tryd.underlying9 (by kernel_rfl) (by kernel_rfl)
  obtain ⟨a2, s2, e2, _⟩ := laid_sentinel h3.tail.tail gS tyS Tryd.underlying111 rowErr Tryd.underlying197 Tryd.underlying199 rfl rfl Tryd.underlying9 (by kernel_rfl) (by kernel_rfl)
  exact ⟨Lib.tabIs_of_head (rest := _) gP tyP Tryd.underlying182 Tryd.underlying161 (by kernel_rfl) (by kernel_rfl) h3, ⟨_, _, e2⟩, ⟨_, _, e1⟩⟩
theorem full_var {W w : World} (h : Sat (Open.full W) w) {n : String} {cs : Array Value} (hv : W.var? Tryd.prog n = some cs) : w.var? Tryd.prog n = some cs := by
  unfold World.var? at hv ⊢
  cases hg : Tryd.prog.globalNamed n with
  | none => rw [hg] at hv; cases hv
  | some g =>
    rw [hg] at hv
    simp only [Option.bind_some] at hv ⊢
    cases ho : W.heap[g]? with
    | none => rw [ho] at hv; cases hv
    | some o =>
      have : w.heap[g]? = some o := h g (.ro o) (by unfold Open.full; rw [ho]; rfl)
      rw [this]; rw [ho] at hv; exact hv
theorem glob_full {W : World} (h : laidMet Tryd.prog laidAll W) : Glob (Open.full W) := fun w hw => by
  obtain ⟨h1, ⟨_, _, h2⟩, ⟨_, _, h3⟩⟩ := glob_of_laid h
  exact ⟨full_var hw h1, ⟨_, _, full_var hw h2⟩, ⟨_, _, full_var hw h3⟩⟩
end Go.Proofs.YtaoafjlocjjbbaaDoor

-- UpB
namespace Go.Proofs.YtaoafjlocjjbbaaDoor
theorem bulk_one {H : Type} (d : DataW H) : 1 ≤ Rows.uptoBulk d := by
  cases d with
  | lit l => cases l <;> simp [Rows.uptoBulk]
  | nil => simp [Rows.uptoBulk]
  | ptr d => simp [Rows.uptoBulk]
  | slice elems spare => simp [Rows.uptoBulk]
  | agg parts => simp [Rows.uptoBulk]
  | iface t d => simp [Rows.uptoBulk]
  | map entries => simp [Rows.uptoBulk]
  | held h => simp [Rows.uptoBulk]
theorem bulk_len {H : Type} : ∀ l : List (DataW H), l.length ≤ Rows.uptoBulkAll l
  | [] => by simp [Rows.uptoBulkAll]
  | x :: r => by have := bulk_one x; have := bulk_len r; simp only [Rows.uptoBulkAll, List.length_cons]; omega
theorem slice_bulk {H : Type} {enc : TypeId × Value → H} {P : Program} {w : World} {base : Nat} {sp : Nat → Bool} {held : Bool} {t e : TypeId} {A : Option Addr} {n c : Nat} {d : DataW H} {p : List MemPlace}
    (ht : P.underlying t = some (.slice e)) (h : DataW.Trod enc P w base sp held t (.slice A n c) d p) : n ≤ Rows.uptoBulk d := by
  obtain ⟨fuel, hf⟩ := h
  rcases DataW.trod_slice ht hf with ⟨h1, h2⟩ | ⟨a, len, cap, elems, rest, m, _, h1, h2, _, _, _, hl, _, _, _⟩
  · simp [Value.cells] at h1
    rw [h1.2.1]; exact Nat.zero_le _
  · simp [Value.cells] at h1
    obtain ⟨rfl, rfl, rfl⟩ := h1
    cases h2
    have := bulk_len (elems.map (·.1))
    rw [List.length_map, hl] at this
    simp only [Rows.uptoBulk]
    omega
end Go.Proofs.YtaoafjlocjjbbaaDoor
