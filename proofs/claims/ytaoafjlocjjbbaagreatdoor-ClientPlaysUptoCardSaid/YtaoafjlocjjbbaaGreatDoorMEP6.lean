/- Texts of mine, part 6 of 6, laid together: Whatever calls are made. Values of struct types, opened as structures of mine. No condition. What the row's list of variables gives. What the second form's bound says of a slice's length. No condition. -/
import Derived.Test.YtaoafjlocjjbbaaGreatDoorMEP5
import Derived.Test.YtaoafjlocjjbbaaGreatDoorProg
import Derived.KernelRfl
import Derived.Test.YtaoafjlocjjbbaaGreatDoorRows
import Derived.Lib.LaidTab
import Derived.Stop.LaidErr
-- E26
namespace Go.Proofs.YtaoafjlocjjbbaaGreatDoor
open Go.Sp
set_option linter.unusedSimpArgs false
set_option linter.unusedVariables false
theorem OpCOk.sub {σ σ' : Hp} {o : OpC} (h : OpCOk σ o) (s : Sub σ σ') : OpCOk σ' o := ⟨h.key, h.mw, h.mks, by obtain ⟨os, a, b⟩ := h.ws; exact ⟨os, a.sub s, b⟩⟩
theorem OpC.cells_len (o : OpC) : o.cells.length = 21 := rfl
theorem newPair {σ σ1 σ2 : Hp} {g g' : Nat} {c : Cfg} (h1 : Cli σ σ1 ⟨g, c, .slice none 0 0, .slice none 0 0, .slice none 0 0, [], []⟩) (h2 : Ref σ1 σ2 ⟨g', c, .slice none 0 0, .slice none 0 0, .slice none 0 0, [], []⟩) :
    Pair σ σ2 ⟨g, c, .slice none 0 0, .slice none 0 0, .slice none 0 0, [], []⟩ ⟨g', c, .slice none 0 0, .slice none 0 0, .slice none 0 0, [], []⟩ :=
  ⟨h1.at_.keep (F := fun _ => False) (fun k hk _ => (h2.sub k).elim (fun e => absurd e hk) fun e => e.symm) (fun _ _ x => x), h2.at_, h1.sub.trans h2.sub, h1.new, fun k hk => h1.sub.noneAt (h2.new k hk), fun k hk hr => h1.at_.known hk (h2.new k hr)⟩
theorem Pair.less {σ0 σ τ : Hp} {C : CL} {R : RL} (h : Pair σ0 σ C R) (hs : Sub τ σ0) : Pair τ σ C R := ⟨h.c, h.r, hs.trans h.sub, fun k hk => hs.noneAt (h.newC k hk), fun k hk => hs.noneAt (h.newR k hk), h.apart⟩
theorem newAlike (g g' : Nat) (c : Cfg) : Alike ⟨g, c, .slice none 0 0, .slice none 0 0, .slice none 0 0, [], []⟩ ⟨g', c, .slice none 0 0, .slice none 0 0, .slice none 0 0, [], []⟩ 0 :=
  ⟨rfl, rfl, Nat.zero_le _, rfl, Nat.zero_le _, fun i s r h => by simp at h, fun i s r h => by simp at h⟩
set_option maxHeartbeats 4000000 in
set_option maxRecDepth 100000 in
theorem plays3 {σ : Hp} (hG : Glob σ) (cfg : Cfg) {v : Value} {ops : List OpC} (hv : RoRows 21 OpC.cells σ v ops) (ho : ∀ o ∈ ops, OpCOk σ o ∧ 0 ≤ o.kind) (hn : ops.length ≤ 1048576) : ACalls Tryz.prog 3 #[.agg cfg.cells.toArray, v] σ fun u σ' => u = .bool true ∧ σ' = σ := by
  have HG := Hid.mk (And.intro hG (And.intro hv ho))
  obtain ⟨A, cc, rfl, _⟩ := hv
  clear hG ho
  (refine acalls_F ok3 (by simp) ?_; unfold c3 r3)
  (repeat' (first | (simp +contextual -dsimp only [*, CliC, Msg.cells, OpC.cells, Cfg.cells, ↓reduceIte, ↓evP, evQ, splice, Nat.reduceAdd, Nat.reduceEqDiff, Nat.reduceLeDiff, Nat.reduceMul, reduceCtorEq, Int.reduceLT, Int.reduceLE, Int.reduceGT, Int.reduceGE, Int.reduceEq, Int.reduceNeg]) | (refine condF_split (fun hc => ?_) (fun hc => ?_) <;> (try simp only [Bool.not_eq_true', Bool.not_eq_false', Bool.and_eq_true, Bool.or_eq_false_iff] at hc)) | refine callF_v (fixed29 (HG.out.1.sub (by (repeat (first | exact Sub.refl _ | (refine Sub.drop ?_ ?_; focus (simp only [evN, *]; done)) | refine Sub.both ?_)); done))) ?_ | refine ccallF_of (fixed29 (HG.out.1.sub (by (repeat (first | exact Sub.refl _ | (refine Sub.drop ?_ ?_; focus (simp only [evN, *]; done)) | refine Sub.both ?_)); done))) ?_ | refine gcallF_of (fixed29 (HG.out.1.sub (by (repeat (first | exact Sub.refl _ | (refine Sub.drop ?_ ?_; focus (simp only [evN, *]; done)) | refine Sub.both ?_)); done))) ?_ | (intro _; intros) | (refine And.intro ?_ ?_; focus (first | omega | ((repeat (first | exact Sub.refl _ | (refine Sub.drop ?_ ?_; focus (simp only [evN, *]; done)) | refine Sub.both ?_)); done) | (simp_all; done) | (simp_all; omega)))))
  rename_i b b0
  refine gcallF_first (newCli cfg _) (fun u σ₁ h => ?_) ?_
  · obtain ⟨g, _, h⟩ := h; exact h.sub
  rintro u σ1 ⟨g, rfl, h1⟩
  have H1 := Hid.mk h1
  clear h1
  simp +contextual -dsimp only [*, CliC, Msg.cells, OpC.cells, Cfg.cells, ↓reduceIte, ↓evP, evQ, splice, Nat.reduceAdd, Nat.reduceEqDiff, Nat.reduceLeDiff, Nat.reduceMul, reduceCtorEq, Int.reduceLT, Int.reduceLE, Int.reduceGT, Int.reduceGE, Int.reduceEq, Int.reduceNeg]
  refine callF_of (newRef cfg σ1) ?_
  rintro u σ2 ⟨g', rfl, h2⟩
  have HP := Hid.mk ((newPair H1.out h2).less (Sub.drop b0 (Sub.refl _)))
  clear h2 H1 b0
  generalize cfg.held = c0 at HP
  (repeat' (first | (simp +contextual -dsimp only [*, CliC, Msg.cells, OpC.cells, Cfg.cells, ↓reduceIte, ↓evP, evQ, splice, Nat.reduceAdd, Nat.reduceEqDiff, Nat.reduceLeDiff, Nat.reduceMul, reduceCtorEq, Int.reduceLT, Int.reduceLE, Int.reduceGT, Int.reduceGE, Int.reduceEq, Int.reduceNeg]) | (refine condF_split (fun hc => ?_) (fun hc => ?_) <;> (try simp only [Bool.not_eq_true', Bool.not_eq_false', Bool.and_eq_true, Bool.or_eq_false_iff] at hc)) | (intro _; intros) | (refine And.intro ?_ ?_; focus (first | omega | ((repeat (first | exact Sub.refl _ | (refine Sub.drop ?_ ?_; focus (simp only [evN, *]; done)) | refine Sub.both ?_)); done) | (simp_all; done) | (simp_all; omega)))))
  refine loopF_of (fun k s σ' => ∃ (i : Nat) (C : CL) (R : RL), i ≤ ops.length ∧ k = ops.length - i ∧ s 1 = .slice A ops.length cc ∧ s 5 = .pointer (some ⟨g, 0, none⟩) ∧ s 6 = .pointer (some ⟨g', 0, none⟩) ∧ s 7 = .int .i64 i ∧ C.g = g ∧ R.g = g' ∧ Pair σ σ' C R ∧ Alike C R i) ops.length (Sub.refl _)
    ⟨0, _, _, by omega, rfl, (by first | rfl | (simp only [↓putO_get, ↓putO_no, init_zero, init_succ, Nat.reduceEqDiff, ↓reduceIte, *]; done) | (simp only [↓putO_get, ↓putO_no, init_zero, init_succ, Nat.reduceEqDiff, ↓reduceIte, *]; rfl)), (by first | rfl | (simp only [↓putO_get, ↓putO_no, init_zero, init_succ, Nat.reduceEqDiff, ↓reduceIte, *]; done) | (simp only [↓putO_get, ↓putO_no, init_zero, init_succ, Nat.reduceEqDiff, ↓reduceIte, *]; rfl)), (by first | rfl | (simp only [↓putO_get, ↓putO_no, init_zero, init_succ, Nat.reduceEqDiff, ↓reduceIte, *]; done) | (simp only [↓putO_get, ↓putO_no, init_zero, init_succ, Nat.reduceEqDiff, ↓reduceIte, *]; rfl)), (by first | rfl | (simp only [↓putO_get, ↓putO_no, init_zero, init_succ, Nat.reduceEqDiff, ↓reduceIte, *]; done) | (simp only [↓putO_get, ↓putO_no, init_zero, init_succ, Nat.reduceEqDiff, ↓reduceIte, *]; rfl)), rfl, rfl, HP.out, newAlike _ _ _⟩ ?_
  clear HP σ2 σ1 b c0
  rintro k s τ ⟨i, C, R, hi, rfl, s1, s5, s6, s7, hg, hg', hP, hA⟩
  have H := Hid.mk (And.intro hP (And.intro hA (And.intro hg hg')))
  clear hP hA hg hg'
  rcases Nat.lt_or_ge i ops.length with hlt | hge
  · have hd : decide ((i : Int) < (ops.length : Int)) = true := by simp; omega
    have e1 : IntKind.i64.wrap ((i : Int) + 1) = ((i + 1 : Nat) : Int) := by rw [wi64 (by omega)]; rfl
    obtain ⟨o, hx⟩ : ∃ o, ops[i]? = some o := ⟨_, List.getElem?_eq_getElem hlt⟩
    obtain ⟨_, _, e, hrow⟩ := HG.out.2.1
    cases e
    obtain ⟨bb, oo, rfl, hr⟩ := hrow i o hx
    have hok := HG.out.2.2 o (List.mem_of_getElem? hx)
    have HO := Hid.mk (And.intro hr hok)
    have hrd := rdn_sub H.out.1.sub hr
    clear hrow hx hok hr
    unfold OpC.cells Msg.cells at hrd
    simp only [List.cons_append, List.nil_append] at hrd
    (repeat' (first | (simp +contextual -dsimp only [*, CliC, Msg.cells, OpC.cells, Cfg.cells, ↓reduceIte, ↓evP, evQ, splice, Nat.reduceAdd, Nat.reduceEqDiff, Nat.reduceLeDiff, Nat.reduceMul, reduceCtorEq, Int.reduceLT, Int.reduceLE, Int.reduceGT, Int.reduceGE, Int.reduceEq, Int.reduceNeg]) | (refine condF_split (fun hc => ?_) (fun hc => ?_) <;> (try simp only [Bool.not_eq_true', Bool.not_eq_false', Bool.and_eq_true, Bool.or_eq_false_iff] at hc)) | (intro _; intros) | (refine And.intro ?_ ?_; focus (first | omega | ((repeat (first | exact Sub.refl _ | (refine Sub.drop ?_ ?_; focus (simp only [evN, *]; done)) | refine Sub.both ?_)); done) | (simp_all; done) | (simp_all; omega)))))
    have q := step8 HG.out.1 H.out.1 H.out.2.1 HO.out.2.1 HO.out.2.2 (by omega)
    rw [H.out.2.2.1, H.out.2.2.2] at q
    clear hrd
    refine callF_of q ?_
    clear q
    rintro u σ3 ⟨rfl, C', R', h1, h2, hP, hA⟩
    have h3 := rd_part (rdn_sub hP.sub HO.out.1) 1 (v := .int .i64 o.s) rfl
    have h4 := rd_part (rdn_sub hP.sub HO.out.1) 2 (v := .int .i64 o.t) rfl
    have H2 := Hid.mk (And.intro hP (And.intro hA (And.intro (h1.trans H.out.2.2.1) (h2.trans H.out.2.2.2))))
    clear hP hA h1 h2
    (repeat' (first | (simp +contextual -dsimp only [*, CliC, Msg.cells, OpC.cells, Cfg.cells, ↓reduceIte, ↓evP, evQ, splice, Nat.reduceAdd, Nat.reduceEqDiff, Nat.reduceLeDiff, Nat.reduceMul, reduceCtorEq, Int.reduceLT, Int.reduceLE, Int.reduceGT, Int.reduceGE, Int.reduceEq, Int.reduceNeg]) | (refine condF_split (fun hc => ?_) (fun hc => ?_) <;> (try simp only [Bool.not_eq_true', Bool.not_eq_false', Bool.and_eq_true, Bool.or_eq_false_iff] at hc)) | (intro _; intros) | (refine And.intro ?_ ?_; focus (first | omega | ((repeat (first | exact Sub.refl _ | (refine Sub.drop ?_ ?_; focus (simp only [evN, *]; done)) | refine Sub.both ?_)); done) | (simp_all; done) | (simp_all; omega)))))
    have q := seen9 H2.out.1 H2.out.2.1 (by omega) o.s o.t
    rw [H2.out.2.2.1, H2.out.2.2.2] at q
    refine callF_v q ?_
    clear q h3 h4
    (repeat' (first | (simp +contextual -dsimp only [*, CliC, Msg.cells, OpC.cells, Cfg.cells, ↓reduceIte, ↓evP, evQ, splice, Nat.reduceAdd, Nat.reduceEqDiff, Nat.reduceLeDiff, Nat.reduceMul, reduceCtorEq, Int.reduceLT, Int.reduceLE, Int.reduceGT, Int.reduceGE, Int.reduceEq, Int.reduceNeg]) | (refine condF_split (fun hc => ?_) (fun hc => ?_) <;> (try simp only [Bool.not_eq_true', Bool.not_eq_false', Bool.and_eq_true, Bool.or_eq_false_iff] at hc)) | (intro _; intros) | (refine And.intro ?_ ?_; focus (first | omega | ((repeat (first | exact Sub.refl _ | (refine Sub.drop ?_ ?_; focus (simp only [evN, *]; done)) | refine Sub.both ?_)); done) | (simp_all; done) | (simp_all; omega)))))
    exact nextF_of (ops.length - (i + 1)) (by omega) (Sub.refl _) ⟨i + 1, C', R', by omega, rfl, (by first | rfl | (simp only [↓putO_get, ↓putO_no, init_zero, init_succ, Nat.reduceEqDiff, ↓reduceIte, *]; done) | (simp only [↓putO_get, ↓putO_no, init_zero, init_succ, Nat.reduceEqDiff, ↓reduceIte, *]; rfl)), (by first | rfl | (simp only [↓putO_get, ↓putO_no, init_zero, init_succ, Nat.reduceEqDiff, ↓reduceIte, *]; done) | (simp only [↓putO_get, ↓putO_no, init_zero, init_succ, Nat.reduceEqDiff, ↓reduceIte, *]; rfl)), (by first | rfl | (simp only [↓putO_get, ↓putO_no, init_zero, init_succ, Nat.reduceEqDiff, ↓reduceIte, *]; done) | (simp only [↓putO_get, ↓putO_no, init_zero, init_succ, Nat.reduceEqDiff, ↓reduceIte, *]; rfl)), (by first | rfl | (simp only [↓putO_get, ↓putO_no, init_zero, init_succ, Nat.reduceEqDiff, ↓reduceIte, *]; done) | (simp only [↓putO_get, ↓putO_no, init_zero, init_succ, Nat.reduceEqDiff, ↓reduceIte, *]; rfl)), H2.out.2.2.1, H2.out.2.2.2, H2.out.1, H2.out.2.1⟩
  · have hd : decide ((i : Int) < (ops.length : Int)) = false := by simp; omega
    (repeat' (first | (simp +contextual -dsimp only [*, CliC, Msg.cells, OpC.cells, Cfg.cells, ↓reduceIte, ↓evP, evQ, splice, Nat.reduceAdd, Nat.reduceEqDiff, Nat.reduceLeDiff, Nat.reduceMul, reduceCtorEq, Int.reduceLT, Int.reduceLE, Int.reduceGT, Int.reduceGE, Int.reduceEq, Int.reduceNeg]) | (refine condF_split (fun hc => ?_) (fun hc => ?_) <;> (try simp only [Bool.not_eq_true', Bool.not_eq_false', Bool.and_eq_true, Bool.or_eq_false_iff] at hc)) | (intro _; intros) | (refine And.intro ?_ ?_; focus (first | omega | ((repeat (first | exact Sub.refl _ | (refine Sub.drop ?_ ?_; focus (simp only [evN, *]; done)) | refine Sub.both ?_)); done) | (simp_all; done) | (simp_all; omega)))))
    exact endF_det rfl H.out.1.sub
end Go.Proofs.YtaoafjlocjjbbaaGreatDoor

-- KnZ
namespace Go.Proofs.YtaoafjlocjjbbaaGreatDoor
open Go.RowKit Go.Sp Go.Sp.Open
set_option linter.unusedVariables false
def kdOpC : Kd OpC := ⟨21, fun w o cs => cs = o.cells ∧ OpCOk (full w) o ∧ 0 ≤ o.kind⟩
theorem kdOpC_rows {w : World} {A : Option Addr} {xs : List OpC} (c : Nat) (h : kdOpC.C w A xs) : RoRows 21 OpC.cells (full w) (.slice A xs.length c) xs ∧ ∀ o ∈ xs, OpCOk (full w) o ∧ 0 ≤ o.kind := by
  refine ⟨ro_rows (by decide) (fun j x hx => ?_), fun o ho => ?_⟩
  · obtain ⟨a, e, cs, hl, hk, hc⟩ := h j x hx
    exact ⟨a, e, cs, hl, hk.1, hc⟩
  · obtain ⟨j, hj, rfl⟩ := List.getElem_of_mem ho
    obtain ⟨_, _, _, _, hk, _⟩ := h j _ (List.getElem?_eq_getElem hj)
    exact hk.2
theorem opensT35 : Opens Tryz.prog 35 (Kd.pair Kd.bool Kd.string) (fun (x : Bool × ByteArray) => (True ∧ ByteArray.size x.2 ≤ 140737488351232)) := by
  refine opens_struct Tryz.underlying35 (by kernel_rfl) ?_
  show OpensF Tryz.prog (_ :: _) 0 (Kd.pair Kd.bool Kd.string) _
  refine opensF_cons (G := fun (z : Bool) => True) (G' := (fun (z : ByteArray) => ByteArray.size z ≤ 140737488351232)) rfl (by kernel_rfl) (opens_bool Tryz.underlying4) ?_
  exact opensF_one rfl (by kernel_rfl) (opens_string Tryz.underlying9)
theorem opensT52 : Opens Tryz.prog 52 (Kd.pair Kd.string (Kd.pair Kd.bool Kd.string)) (fun (x : ByteArray × (Bool × ByteArray)) => (ByteArray.size x.1 ≤ 140737488351232 ∧ (True ∧ ByteArray.size x.2.2 ≤ 140737488351232))) := by
  refine opens_struct Tryz.underlying52 (by kernel_rfl) ?_
  show OpensF Tryz.prog (_ :: _) 0 (Kd.pair Kd.string (Kd.pair Kd.bool Kd.string)) _
  refine opensF_cons (G := fun (z : ByteArray) => ByteArray.size z ≤ 140737488351232) (G' := (fun (z : (Bool × ByteArray)) => (True ∧ ByteArray.size z.2 ≤ 140737488351232))) rfl (by kernel_rfl) (opens_string Tryz.underlying9) ?_
  exact opensF_one rfl (by kernel_rfl) opensT35
theorem opens_Wr : Opens Tryz.prog 52 (Kd.of 3 Wr.cells) (fun _ => True) := by
  refine opens_iso (fun (x : ByteArray × (Bool × ByteArray)) => (⟨x.1, x.2.1, x.2.2⟩ : Wr)) (fun w x cs h => ?_) (fun x h => ?_) opensT52
  · obtain ⟨_, _, rfl, rfl, ⟨_, _, rfl, rfl, rfl⟩⟩ := h; rfl
  · trivial
theorem opensT23 : Opens Tryz.prog 23 (Kd.pair (Kd.int .i64) (Kd.pair (Kd.int .i64) (Kd.pair (Kd.int .i64) (Kd.pair (Kd.int .i64) (Kd.pair (Kd.int .i64) (Kd.pair (Kd.int .i64) (Kd.pair (Kd.int .i64) (Kd.int .i64)))))))) (fun (x : Int × Int × Int × Int × Int × Int × Int × Int) => ((Lit.int .i64 x.1).wf = true ∧ (Lit.int .i64 x.2.1).wf = true ∧ (Lit.int .i64 x.2.2.1).wf = true ∧ (Lit.int .i64 x.2.2.2.1).wf = true ∧ (Lit.int .i64 x.2.2.2.2.1).wf = true ∧ (Lit.int .i64 x.2.2.2.2.2.1).wf = true ∧ (Lit.int .i64 x.2.2.2.2.2.2.1).wf = true ∧ (Lit.int .i64 x.2.2.2.2.2.2.2).wf = true)) := by
  refine opens_struct Tryz.underlying23 (by kernel_rfl) ?_
  show OpensF Tryz.prog (_ :: _) 0 (Kd.pair (Kd.int .i64) (Kd.pair (Kd.int .i64) (Kd.pair (Kd.int .i64) (Kd.pair (Kd.int .i64) (Kd.pair (Kd.int .i64) (Kd.pair (Kd.int .i64) (Kd.pair (Kd.int .i64) (Kd.int .i64)))))))) _
  refine opensF_cons (G := fun (z : Int) => (Lit.int .i64 z).wf = true) (G' := (fun (z : Int × Int × Int × Int × Int × Int × Int) => (Lit.int .i64 z.1).wf = true ∧ (Lit.int .i64 z.2.1).wf = true ∧ (Lit.int .i64 z.2.2.1).wf = true ∧ (Lit.int .i64 z.2.2.2.1).wf = true ∧ (Lit.int .i64 z.2.2.2.2.1).wf = true ∧ (Lit.int .i64 z.2.2.2.2.2.1).wf = true ∧ (Lit.int .i64 z.2.2.2.2.2.2).wf = true)) rfl (by kernel_rfl) (opens_int Tryz.underlying3) ?_
  refine opensF_cons (G := fun (z : Int) => (Lit.int .i64 z).wf = true) (G' := (fun (z : Int × Int × Int × Int × Int × Int) => (Lit.int .i64 z.1).wf = true ∧ (Lit.int .i64 z.2.1).wf = true ∧ (Lit.int .i64 z.2.2.1).wf = true ∧ (Lit.int .i64 z.2.2.2.1).wf = true ∧ (Lit.int .i64 z.2.2.2.2.1).wf = true ∧ (Lit.int .i64 z.2.2.2.2.2).wf = true)) rfl (by kernel_rfl) (opens_int Tryz.underlying3) ?_
  refine opensF_cons (G := fun (z : Int) => (Lit.int .i64 z).wf = true) (G' := (fun (z : Int × Int × Int × Int × Int) => (Lit.int .i64 z.1).wf = true ∧ (Lit.int .i64 z.2.1).wf = true ∧ (Lit.int .i64 z.2.2.1).wf = true ∧ (Lit.int .i64 z.2.2.2.1).wf = true ∧ (Lit.int .i64 z.2.2.2.2).wf = true)) rfl (by kernel_rfl) (opens_int Tryz.underlying3) ?_
  refine opensF_cons (G := fun (z : Int) => (Lit.int .i64 z).wf = true) (G' := (fun (z : Int × Int × Int × Int) => (Lit.int .i64 z.1).wf = true ∧ (Lit.int .i64 z.2.1).wf = true ∧ (Lit.int .i64 z.2.2.1).wf = true ∧ (Lit.int .i64 z.2.2.2).wf = true)) rfl (by kernel_rfl) (opens_int Tryz.underlying3) ?_
  refine opensF_cons (G := fun (z : Int) => (Lit.int .i64 z).wf = true) (G' := (fun (z : Int × Int × Int) => (Lit.int .i64 z.1).wf = true ∧ (Lit.int .i64 z.2.1).wf = true ∧ (Lit.int .i64 z.2.2).wf = true)) rfl (by kernel_rfl) (opens_int Tryz.underlying3) ?_
  refine opensF_cons (G := fun (z : Int) => (Lit.int .i64 z).wf = true) (G' := (fun (z : Int × Int) => (Lit.int .i64 z.1).wf = true ∧ (Lit.int .i64 z.2).wf = true)) rfl (by kernel_rfl) (opens_int Tryz.underlying3) ?_
  refine opensF_cons (G := fun (z : Int) => (Lit.int .i64 z).wf = true) (G' := (fun (z : Int) => (Lit.int .i64 z).wf = true)) rfl (by kernel_rfl) (opens_int Tryz.underlying3) ?_
  exact opensF_one rfl (by kernel_rfl) (opens_int Tryz.underlying3)
theorem opens_Cfg : Opens Tryz.prog 23 (Kd.of 8 Cfg.cells) (fun _ => True) := by
  refine opens_iso (fun (x : Int × Int × Int × Int × Int × Int × Int × Int) => (⟨x.1, x.2.1, x.2.2.1, x.2.2.2.1, x.2.2.2.2.1, x.2.2.2.2.2.1, x.2.2.2.2.2.2.1, x.2.2.2.2.2.2.2⟩ : Cfg)) (fun w x cs h => ?_) (fun x h => ?_) opensT23
  · obtain ⟨_, _, rfl, rfl, ⟨_, _, rfl, rfl, ⟨_, _, rfl, rfl, ⟨_, _, rfl, rfl, ⟨_, _, rfl, rfl, ⟨_, _, rfl, rfl, ⟨_, _, rfl, rfl, rfl⟩⟩⟩⟩⟩⟩⟩ := h; rfl
  · trivial
theorem opensT33 : Opens Tryz.prog 33 (Kd.pair (Kd.int .i64) (Kd.int .i64)) (fun (x : Int × Int) => ((Lit.int .i64 x.1).wf = true ∧ (Lit.int .i64 x.2).wf = true)) := by
  refine opens_struct Tryz.underlying33 (by kernel_rfl) ?_
  show OpensF Tryz.prog (_ :: _) 0 (Kd.pair (Kd.int .i64) (Kd.int .i64)) _
  refine opensF_cons (G := fun (z : Int) => (Lit.int .i64 z).wf = true) (G' := (fun (z : Int) => (Lit.int .i64 z).wf = true)) rfl (by kernel_rfl) (opens_int Tryz.underlying2) ?_
  exact opensF_one rfl (by kernel_rfl) (opens_int Tryz.underlying2)
theorem opensT39 : Opens Tryz.prog 39 (Kd.pair (Kd.int .i64) (Kd.pair (Kd.int .i64) (Kd.pair (Kd.int .i64) (Kd.pair (Kd.int .i64) (Kd.pair (Kd.int .i64) (Kd.pair (Kd.int .i64) (Kd.pair Kd.string (Kd.pair (Kd.pair (Kd.int .i64) (Kd.int .i64)) (Kd.pair (Kd.pair Kd.bool Kd.string) (Kd.pair Kd.bool (Kd.pair (Kd.int .i64) (Kd.pair (Kd.int .i64) (Kd.pair (Kd.slice (Kd.of 3 Wr.cells)) Kd.shut))))))))))))) (fun (x : Int × Int × Int × Int × Int × Int × ByteArray × (Int × Int) × (Bool × ByteArray) × Bool × Int × Int × (List Wr) × Value) => ((Lit.int .i64 x.1).wf = true ∧ (Lit.int .i64 x.2.1).wf = true ∧ (Lit.int .i64 x.2.2.1).wf = true ∧ (Lit.int .i64 x.2.2.2.1).wf = true ∧ (Lit.int .i64 x.2.2.2.2.1).wf = true ∧ (Lit.int .i64 x.2.2.2.2.2.1).wf = true ∧ ByteArray.size x.2.2.2.2.2.2.1 ≤ 140737488351232 ∧ ((Lit.int .i64 x.2.2.2.2.2.2.2.1.1).wf = true ∧ (Lit.int .i64 x.2.2.2.2.2.2.2.1.2).wf = true) ∧ (True ∧ ByteArray.size x.2.2.2.2.2.2.2.2.1.2 ≤ 140737488351232) ∧ True ∧ (Lit.int .i64 x.2.2.2.2.2.2.2.2.2.2.1).wf = true ∧ (Lit.int .i64 x.2.2.2.2.2.2.2.2.2.2.2.1).wf = true ∧ (List.length x.2.2.2.2.2.2.2.2.2.2.2.2.1 * 40 ≤ 140737488351232 ∧ ∀ y ∈ x.2.2.2.2.2.2.2.2.2.2.2.2.1, True) ∧ one x.2.2.2.2.2.2.2.2.2.2.2.2.2 = true)) := by
  refine opens_struct Tryz.underlying39 (by kernel_rfl) ?_
  show OpensF Tryz.prog (_ :: _) 0 (Kd.pair (Kd.int .i64) (Kd.pair (Kd.int .i64) (Kd.pair (Kd.int .i64) (Kd.pair (Kd.int .i64) (Kd.pair (Kd.int .i64) (Kd.pair (Kd.int .i64) (Kd.pair Kd.string (Kd.pair (Kd.pair (Kd.int .i64) (Kd.int .i64)) (Kd.pair (Kd.pair Kd.bool Kd.string) (Kd.pair Kd.bool (Kd.pair (Kd.int .i64) (Kd.pair (Kd.int .i64) (Kd.pair (Kd.slice (Kd.of 3 Wr.cells)) Kd.shut))))))))))))) _
  refine opensF_cons (G := fun (z : Int) => (Lit.int .i64 z).wf = true) (G' := (fun (z : Int × Int × Int × Int × Int × ByteArray × (Int × Int) × (Bool × ByteArray) × Bool × Int × Int × (List Wr) × Value) => (Lit.int .i64 z.1).wf = true ∧ (Lit.int .i64 z.2.1).wf = true ∧ (Lit.int .i64 z.2.2.1).wf = true ∧ (Lit.int .i64 z.2.2.2.1).wf = true ∧ (Lit.int .i64 z.2.2.2.2.1).wf = true ∧ ByteArray.size z.2.2.2.2.2.1 ≤ 140737488351232 ∧ ((Lit.int .i64 z.2.2.2.2.2.2.1.1).wf = true ∧ (Lit.int .i64 z.2.2.2.2.2.2.1.2).wf = true) ∧ (True ∧ ByteArray.size z.2.2.2.2.2.2.2.1.2 ≤ 140737488351232) ∧ True ∧ (Lit.int .i64 z.2.2.2.2.2.2.2.2.2.1).wf = true ∧ (Lit.int .i64 z.2.2.2.2.2.2.2.2.2.2.1).wf = true ∧ (List.length z.2.2.2.2.2.2.2.2.2.2.2.1 * 40 ≤ 140737488351232 ∧ ∀ y ∈ z.2.2.2.2.2.2.2.2.2.2.2.1, True) ∧ one z.2.2.2.2.2.2.2.2.2.2.2.2 = true)) rfl (by kernel_rfl) (opens_int Tryz.underlying3) ?_
  refine opensF_cons (G := fun (z : Int) => (Lit.int .i64 z).wf = true) (G' := (fun (z : Int × Int × Int × Int × ByteArray × (Int × Int) × (Bool × ByteArray) × Bool × Int × Int × (List Wr) × Value) => (Lit.int .i64 z.1).wf = true ∧ (Lit.int .i64 z.2.1).wf = true ∧ (Lit.int .i64 z.2.2.1).wf = true ∧ (Lit.int .i64 z.2.2.2.1).wf = true ∧ ByteArray.size z.2.2.2.2.1 ≤ 140737488351232 ∧ ((Lit.int .i64 z.2.2.2.2.2.1.1).wf = true ∧ (Lit.int .i64 z.2.2.2.2.2.1.2).wf = true) ∧ (True ∧ ByteArray.size z.2.2.2.2.2.2.1.2 ≤ 140737488351232) ∧ True ∧ (Lit.int .i64 z.2.2.2.2.2.2.2.2.1).wf = true ∧ (Lit.int .i64 z.2.2.2.2.2.2.2.2.2.1).wf = true ∧ (List.length z.2.2.2.2.2.2.2.2.2.2.1 * 40 ≤ 140737488351232 ∧ ∀ y ∈ z.2.2.2.2.2.2.2.2.2.2.1, True) ∧ one z.2.2.2.2.2.2.2.2.2.2.2 = true)) rfl (by kernel_rfl) (opens_int Tryz.underlying3) ?_
  refine opensF_cons (G := fun (z : Int) => (Lit.int .i64 z).wf = true) (G' := (fun (z : Int × Int × Int × ByteArray × (Int × Int) × (Bool × ByteArray) × Bool × Int × Int × (List Wr) × Value) => (Lit.int .i64 z.1).wf = true ∧ (Lit.int .i64 z.2.1).wf = true ∧ (Lit.int .i64 z.2.2.1).wf = true ∧ ByteArray.size z.2.2.2.1 ≤ 140737488351232 ∧ ((Lit.int .i64 z.2.2.2.2.1.1).wf = true ∧ (Lit.int .i64 z.2.2.2.2.1.2).wf = true) ∧ (True ∧ ByteArray.size z.2.2.2.2.2.1.2 ≤ 140737488351232) ∧ True ∧ (Lit.int .i64 z.2.2.2.2.2.2.2.1).wf = true ∧ (Lit.int .i64 z.2.2.2.2.2.2.2.2.1).wf = true ∧ (List.length z.2.2.2.2.2.2.2.2.2.1 * 40 ≤ 140737488351232 ∧ ∀ y ∈ z.2.2.2.2.2.2.2.2.2.1, True) ∧ one z.2.2.2.2.2.2.2.2.2.2 = true)) rfl (by kernel_rfl) (opens_int Tryz.underlying3) ?_
  refine opensF_cons (G := fun (z : Int) => (Lit.int .i64 z).wf = true) (G' := (fun (z : Int × Int × ByteArray × (Int × Int) × (Bool × ByteArray) × Bool × Int × Int × (List Wr) × Value) => (Lit.int .i64 z.1).wf = true ∧ (Lit.int .i64 z.2.1).wf = true ∧ ByteArray.size z.2.2.1 ≤ 140737488351232 ∧ ((Lit.int .i64 z.2.2.2.1.1).wf = true ∧ (Lit.int .i64 z.2.2.2.1.2).wf = true) ∧ (True ∧ ByteArray.size z.2.2.2.2.1.2 ≤ 140737488351232) ∧ True ∧ (Lit.int .i64 z.2.2.2.2.2.2.1).wf = true ∧ (Lit.int .i64 z.2.2.2.2.2.2.2.1).wf = true ∧ (List.length z.2.2.2.2.2.2.2.2.1 * 40 ≤ 140737488351232 ∧ ∀ y ∈ z.2.2.2.2.2.2.2.2.1, True) ∧ one z.2.2.2.2.2.2.2.2.2 = true)) rfl (by kernel_rfl) (opens_int Tryz.underlying3) ?_
  refine opensF_cons (G := fun (z : Int) => (Lit.int .i64 z).wf = true) (G' := (fun (z : Int × ByteArray × (Int × Int) × (Bool × ByteArray) × Bool × Int × Int × (List Wr) × Value) => (Lit.int .i64 z.1).wf = true ∧ ByteArray.size z.2.1 ≤ 140737488351232 ∧ ((Lit.int .i64 z.2.2.1.1).wf = true ∧ (Lit.int .i64 z.2.2.1.2).wf = true) ∧ (True ∧ ByteArray.size z.2.2.2.1.2 ≤ 140737488351232) ∧ True ∧ (Lit.int .i64 z.2.2.2.2.2.1).wf = true ∧ (Lit.int .i64 z.2.2.2.2.2.2.1).wf = true ∧ (List.length z.2.2.2.2.2.2.2.1 * 40 ≤ 140737488351232 ∧ ∀ y ∈ z.2.2.2.2.2.2.2.1, True) ∧ one z.2.2.2.2.2.2.2.2 = true)) rfl (by kernel_rfl) (opens_int Tryz.underlying3) ?_
  refine opensF_cons (G := fun (z : Int) => (Lit.int .i64 z).wf = true) (G' := (fun (z : ByteArray × (Int × Int) × (Bool × ByteArray) × Bool × Int × Int × (List Wr) × Value) => ByteArray.size z.1 ≤ 140737488351232 ∧ ((Lit.int .i64 z.2.1.1).wf = true ∧ (Lit.int .i64 z.2.1.2).wf = true) ∧ (True ∧ ByteArray.size z.2.2.1.2 ≤ 140737488351232) ∧ True ∧ (Lit.int .i64 z.2.2.2.2.1).wf = true ∧ (Lit.int .i64 z.2.2.2.2.2.1).wf = true ∧ (List.length z.2.2.2.2.2.2.1 * 40 ≤ 140737488351232 ∧ ∀ y ∈ z.2.2.2.2.2.2.1, True) ∧ one z.2.2.2.2.2.2.2 = true)) rfl (by kernel_rfl) (opens_int Tryz.underlying3) ?_
  refine opensF_cons (G := fun (z : ByteArray) => ByteArray.size z ≤ 140737488351232) (G' := (fun (z : (Int × Int) × (Bool × ByteArray) × Bool × Int × Int × (List Wr) × Value) => ((Lit.int .i64 z.1.1).wf = true ∧ (Lit.int .i64 z.1.2).wf = true) ∧ (True ∧ ByteArray.size z.2.1.2 ≤ 140737488351232) ∧ True ∧ (Lit.int .i64 z.2.2.2.1).wf = true ∧ (Lit.int .i64 z.2.2.2.2.1).wf = true ∧ (List.length z.2.2.2.2.2.1 * 40 ≤ 140737488351232 ∧ ∀ y ∈ z.2.2.2.2.2.1, True) ∧ one z.2.2.2.2.2.2 = true)) rfl (by kernel_rfl) (opens_string Tryz.underlying9) ?_
  refine opensF_cons (G := fun (z : Int × Int) => ((Lit.int .i64 z.1).wf = true ∧ (Lit.int .i64 z.2).wf = true)) (G' := (fun (z : (Bool × ByteArray) × Bool × Int × Int × (List Wr) × Value) => (True ∧ ByteArray.size z.1.2 ≤ 140737488351232) ∧ True ∧ (Lit.int .i64 z.2.2.1).wf = true ∧ (Lit.int .i64 z.2.2.2.1).wf = true ∧ (List.length z.2.2.2.2.1 * 40 ≤ 140737488351232 ∧ ∀ y ∈ z.2.2.2.2.1, True) ∧ one z.2.2.2.2.2 = true)) rfl (by kernel_rfl) opensT33 ?_
  refine opensF_cons (G := fun (z : Bool × ByteArray) => (True ∧ ByteArray.size z.2 ≤ 140737488351232)) (G' := (fun (z : Bool × Int × Int × (List Wr) × Value) => True ∧ (Lit.int .i64 z.2.1).wf = true ∧ (Lit.int .i64 z.2.2.1).wf = true ∧ (List.length z.2.2.2.1 * 40 ≤ 140737488351232 ∧ ∀ y ∈ z.2.2.2.1, True) ∧ one z.2.2.2.2 = true)) rfl (by kernel_rfl) opensT35 ?_
  refine opensF_cons (G := fun (z : Bool) => True) (G' := (fun (z : Int × Int × (List Wr) × Value) => (Lit.int .i64 z.1).wf = true ∧ (Lit.int .i64 z.2.1).wf = true ∧ (List.length z.2.2.1 * 40 ≤ 140737488351232 ∧ ∀ y ∈ z.2.2.1, True) ∧ one z.2.2.2 = true)) rfl (by kernel_rfl) (opens_bool Tryz.underlying4) ?_
  refine opensF_cons (G := fun (z : Int) => (Lit.int .i64 z).wf = true) (G' := (fun (z : Int × (List Wr) × Value) => (Lit.int .i64 z.1).wf = true ∧ (List.length z.2.1 * 40 ≤ 140737488351232 ∧ ∀ y ∈ z.2.1, True) ∧ one z.2.2 = true)) rfl (by kernel_rfl) (opens_int Tryz.underlying36) ?_
  refine opensF_cons (G := fun (z : Int) => (Lit.int .i64 z).wf = true) (G' := (fun (z : (List Wr) × Value) => (List.length z.1 * 40 ≤ 140737488351232 ∧ ∀ y ∈ z.1, True) ∧ one z.2 = true)) rfl (by kernel_rfl) (opens_int Tryz.underlying2) ?_
  refine opensF_cons (G := fun (z : (List Wr)) => (List.length z * 40 ≤ 140737488351232 ∧ ∀ y ∈ z, True)) (G' := (fun (z : Value) => one z = true)) rfl (by kernel_rfl) (opens_slice 40 Tryz.underlying31 (by kernel_rfl) (by kernel_rfl) opens_Wr) ?_
  exact opensF_one rfl (by kernel_rfl) (opens_shut Tryz.underlying37)
theorem opensT41 : Opens Tryz.prog 41 (Kd.pair (Kd.int .u8) (Kd.pair (Kd.int .i64) (Kd.pair (Kd.int .i64) (Kd.pair Kd.string (Kd.pair (Kd.slice (Kd.of 3 Wr.cells)) (Kd.pair (Kd.int .i64) (Kd.pair (Kd.int .i64) (Kd.pair (Kd.int .i64) (Kd.pair (Kd.int .i64) (Kd.pair (Kd.int .i64) (Kd.pair (Kd.int .i64) (Kd.pair Kd.string (Kd.pair (Kd.pair (Kd.int .i64) (Kd.int .i64)) (Kd.pair (Kd.pair Kd.bool Kd.string) (Kd.pair Kd.bool (Kd.pair (Kd.int .i64) (Kd.pair (Kd.int .i64) (Kd.pair (Kd.slice (Kd.of 3 Wr.cells)) Kd.shut)))))))))))))))))) (fun (x : Int × Int × Int × ByteArray × (List Wr) × (Int × Int × Int × Int × Int × Int × ByteArray × (Int × Int) × (Bool × ByteArray) × Bool × Int × Int × (List Wr) × Value)) => ((Lit.int .u8 x.1).wf = true ∧ (Lit.int .i64 x.2.1).wf = true ∧ (Lit.int .i64 x.2.2.1).wf = true ∧ ByteArray.size x.2.2.2.1 ≤ 140737488351232 ∧ (List.length x.2.2.2.2.1 * 40 ≤ 140737488351232 ∧ ∀ y ∈ x.2.2.2.2.1, True) ∧ ((Lit.int .i64 x.2.2.2.2.2.1).wf = true ∧ (Lit.int .i64 x.2.2.2.2.2.2.1).wf = true ∧ (Lit.int .i64 x.2.2.2.2.2.2.2.1).wf = true ∧ (Lit.int .i64 x.2.2.2.2.2.2.2.2.1).wf = true ∧ (Lit.int .i64 x.2.2.2.2.2.2.2.2.2.1).wf = true ∧ (Lit.int .i64 x.2.2.2.2.2.2.2.2.2.2.1).wf = true ∧ ByteArray.size x.2.2.2.2.2.2.2.2.2.2.2.1 ≤ 140737488351232 ∧ ((Lit.int .i64 x.2.2.2.2.2.2.2.2.2.2.2.2.1.1).wf = true ∧ (Lit.int .i64 x.2.2.2.2.2.2.2.2.2.2.2.2.1.2).wf = true) ∧ (True ∧ ByteArray.size x.2.2.2.2.2.2.2.2.2.2.2.2.2.1.2 ≤ 140737488351232) ∧ True ∧ (Lit.int .i64 x.2.2.2.2.2.2.2.2.2.2.2.2.2.2.2.1).wf = true ∧ (Lit.int .i64 x.2.2.2.2.2.2.2.2.2.2.2.2.2.2.2.2.1).wf = true ∧ (List.length x.2.2.2.2.2.2.2.2.2.2.2.2.2.2.2.2.2.1 * 40 ≤ 140737488351232 ∧ ∀ y ∈ x.2.2.2.2.2.2.2.2.2.2.2.2.2.2.2.2.2.1, True) ∧ one x.2.2.2.2.2.2.2.2.2.2.2.2.2.2.2.2.2.2 = true))) := by
  refine opens_struct Tryz.underlying41 (by kernel_rfl) ?_
  show OpensF Tryz.prog (_ :: _) 0 (Kd.pair (Kd.int .u8) (Kd.pair (Kd.int .i64) (Kd.pair (Kd.int .i64) (Kd.pair Kd.string (Kd.pair (Kd.slice (Kd.of 3 Wr.cells)) (Kd.pair (Kd.int .i64) (Kd.pair (Kd.int .i64) (Kd.pair (Kd.int .i64) (Kd.pair (Kd.int .i64) (Kd.pair (Kd.int .i64) (Kd.pair (Kd.int .i64) (Kd.pair Kd.string (Kd.pair (Kd.pair (Kd.int .i64) (Kd.int .i64)) (Kd.pair (Kd.pair Kd.bool Kd.string) (Kd.pair Kd.bool (Kd.pair (Kd.int .i64) (Kd.pair (Kd.int .i64) (Kd.pair (Kd.slice (Kd.of 3 Wr.cells)) Kd.shut)))))))))))))))))) _
  refine opensF_cons (G := fun (z : Int) => (Lit.int .u8 z).wf = true) (G' := (fun (z : Int × Int × ByteArray × (List Wr) × (Int × Int × Int × Int × Int × Int × ByteArray × (Int × Int) × (Bool × ByteArray) × Bool × Int × Int × (List Wr) × Value)) => (Lit.int .i64 z.1).wf = true ∧ (Lit.int .i64 z.2.1).wf = true ∧ ByteArray.size z.2.2.1 ≤ 140737488351232 ∧ (List.length z.2.2.2.1 * 40 ≤ 140737488351232 ∧ ∀ y ∈ z.2.2.2.1, True) ∧ ((Lit.int .i64 z.2.2.2.2.1).wf = true ∧ (Lit.int .i64 z.2.2.2.2.2.1).wf = true ∧ (Lit.int .i64 z.2.2.2.2.2.2.1).wf = true ∧ (Lit.int .i64 z.2.2.2.2.2.2.2.1).wf = true ∧ (Lit.int .i64 z.2.2.2.2.2.2.2.2.1).wf = true ∧ (Lit.int .i64 z.2.2.2.2.2.2.2.2.2.1).wf = true ∧ ByteArray.size z.2.2.2.2.2.2.2.2.2.2.1 ≤ 140737488351232 ∧ ((Lit.int .i64 z.2.2.2.2.2.2.2.2.2.2.2.1.1).wf = true ∧ (Lit.int .i64 z.2.2.2.2.2.2.2.2.2.2.2.1.2).wf = true) ∧ (True ∧ ByteArray.size z.2.2.2.2.2.2.2.2.2.2.2.2.1.2 ≤ 140737488351232) ∧ True ∧ (Lit.int .i64 z.2.2.2.2.2.2.2.2.2.2.2.2.2.2.1).wf = true ∧ (Lit.int .i64 z.2.2.2.2.2.2.2.2.2.2.2.2.2.2.2.1).wf = true ∧ (List.length z.2.2.2.2.2.2.2.2.2.2.2.2.2.2.2.2.1 * 40 ≤ 140737488351232 ∧ ∀ y ∈ z.2.2.2.2.2.2.2.2.2.2.2.2.2.2.2.2.1, True) ∧ one z.2.2.2.2.2.2.2.2.2.2.2.2.2.2.2.2.2 = true))) rfl (by kernel_rfl) (opens_int Tryz.underlying5) ?_
  refine opensF_cons (G := fun (z : Int) => (Lit.int .i64 z).wf = true) (G' := (fun (z : Int × ByteArray × (List Wr) × (Int × Int × Int × Int × Int × Int × ByteArray × (Int × Int) × (Bool × ByteArray) × Bool × Int × Int × (List Wr) × Value)) => (Lit.int .i64 z.1).wf = true ∧ ByteArray.size z.2.1 ≤ 140737488351232 ∧ (List.length z.2.2.1 * 40 ≤ 140737488351232 ∧ ∀ y ∈ z.2.2.1, True) ∧ ((Lit.int .i64 z.2.2.2.1).wf = true ∧ (Lit.int .i64 z.2.2.2.2.1).wf = true ∧ (Lit.int .i64 z.2.2.2.2.2.1).wf = true ∧ (Lit.int .i64 z.2.2.2.2.2.2.1).wf = true ∧ (Lit.int .i64 z.2.2.2.2.2.2.2.1).wf = true ∧ (Lit.int .i64 z.2.2.2.2.2.2.2.2.1).wf = true ∧ ByteArray.size z.2.2.2.2.2.2.2.2.2.1 ≤ 140737488351232 ∧ ((Lit.int .i64 z.2.2.2.2.2.2.2.2.2.2.1.1).wf = true ∧ (Lit.int .i64 z.2.2.2.2.2.2.2.2.2.2.1.2).wf = true) ∧ (True ∧ ByteArray.size z.2.2.2.2.2.2.2.2.2.2.2.1.2 ≤ 140737488351232) ∧ True ∧ (Lit.int .i64 z.2.2.2.2.2.2.2.2.2.2.2.2.2.1).wf = true ∧ (Lit.int .i64 z.2.2.2.2.2.2.2.2.2.2.2.2.2.2.1).wf = true ∧ (List.length z.2.2.2.2.2.2.2.2.2.2.2.2.2.2.2.1 * 40 ≤ 140737488351232 ∧ ∀ y ∈ z.2.2.2.2.2.2.2.2.2.2.2.2.2.2.2.1, True) ∧ one z.2.2.2.2.2.2.2.2.2.2.2.2.2.2.2.2 = true))) rfl (by kernel_rfl) (opens_int Tryz.underlying3) ?_
  refine opensF_cons (G := fun (z : Int) => (Lit.int .i64 z).wf = true) (G' := (fun (z : ByteArray × (List Wr) × (Int × Int × Int × Int × Int × Int × ByteArray × (Int × Int) × (Bool × ByteArray) × Bool × Int × Int × (List Wr) × Value)) => ByteArray.size z.1 ≤ 140737488351232 ∧ (List.length z.2.1 * 40 ≤ 140737488351232 ∧ ∀ y ∈ z.2.1, True) ∧ ((Lit.int .i64 z.2.2.1).wf = true ∧ (Lit.int .i64 z.2.2.2.1).wf = true ∧ (Lit.int .i64 z.2.2.2.2.1).wf = true ∧ (Lit.int .i64 z.2.2.2.2.2.1).wf = true ∧ (Lit.int .i64 z.2.2.2.2.2.2.1).wf = true ∧ (Lit.int .i64 z.2.2.2.2.2.2.2.1).wf = true ∧ ByteArray.size z.2.2.2.2.2.2.2.2.1 ≤ 140737488351232 ∧ ((Lit.int .i64 z.2.2.2.2.2.2.2.2.2.1.1).wf = true ∧ (Lit.int .i64 z.2.2.2.2.2.2.2.2.2.1.2).wf = true) ∧ (True ∧ ByteArray.size z.2.2.2.2.2.2.2.2.2.2.1.2 ≤ 140737488351232) ∧ True ∧ (Lit.int .i64 z.2.2.2.2.2.2.2.2.2.2.2.2.1).wf = true ∧ (Lit.int .i64 z.2.2.2.2.2.2.2.2.2.2.2.2.2.1).wf = true ∧ (List.length z.2.2.2.2.2.2.2.2.2.2.2.2.2.2.1 * 40 ≤ 140737488351232 ∧ ∀ y ∈ z.2.2.2.2.2.2.2.2.2.2.2.2.2.2.1, True) ∧ one z.2.2.2.2.2.2.2.2.2.2.2.2.2.2.2 = true))) rfl (by kernel_rfl) (opens_int Tryz.underlying3) ?_
  refine opensF_cons (G := fun (z : ByteArray) => ByteArray.size z ≤ 140737488351232) (G' := (fun (z : (List Wr) × (Int × Int × Int × Int × Int × Int × ByteArray × (Int × Int) × (Bool × ByteArray) × Bool × Int × Int × (List Wr) × Value)) => (List.length z.1 * 40 ≤ 140737488351232 ∧ ∀ y ∈ z.1, True) ∧ ((Lit.int .i64 z.2.1).wf = true ∧ (Lit.int .i64 z.2.2.1).wf = true ∧ (Lit.int .i64 z.2.2.2.1).wf = true ∧ (Lit.int .i64 z.2.2.2.2.1).wf = true ∧ (Lit.int .i64 z.2.2.2.2.2.1).wf = true ∧ (Lit.int .i64 z.2.2.2.2.2.2.1).wf = true ∧ ByteArray.size z.2.2.2.2.2.2.2.1 ≤ 140737488351232 ∧ ((Lit.int .i64 z.2.2.2.2.2.2.2.2.1.1).wf = true ∧ (Lit.int .i64 z.2.2.2.2.2.2.2.2.1.2).wf = true) ∧ (True ∧ ByteArray.size z.2.2.2.2.2.2.2.2.2.1.2 ≤ 140737488351232) ∧ True ∧ (Lit.int .i64 z.2.2.2.2.2.2.2.2.2.2.2.1).wf = true ∧ (Lit.int .i64 z.2.2.2.2.2.2.2.2.2.2.2.2.1).wf = true ∧ (List.length z.2.2.2.2.2.2.2.2.2.2.2.2.2.1 * 40 ≤ 140737488351232 ∧ ∀ y ∈ z.2.2.2.2.2.2.2.2.2.2.2.2.2.1, True) ∧ one z.2.2.2.2.2.2.2.2.2.2.2.2.2.2 = true))) rfl (by kernel_rfl) (opens_string Tryz.underlying9) ?_
  refine opensF_cons (G := fun (z : (List Wr)) => (List.length z * 40 ≤ 140737488351232 ∧ ∀ y ∈ z, True)) (G' := (fun (z : (Int × Int × Int × Int × Int × Int × ByteArray × (Int × Int) × (Bool × ByteArray) × Bool × Int × Int × (List Wr) × Value)) => ((Lit.int .i64 z.1).wf = true ∧ (Lit.int .i64 z.2.1).wf = true ∧ (Lit.int .i64 z.2.2.1).wf = true ∧ (Lit.int .i64 z.2.2.2.1).wf = true ∧ (Lit.int .i64 z.2.2.2.2.1).wf = true ∧ (Lit.int .i64 z.2.2.2.2.2.1).wf = true ∧ ByteArray.size z.2.2.2.2.2.2.1 ≤ 140737488351232 ∧ ((Lit.int .i64 z.2.2.2.2.2.2.2.1.1).wf = true ∧ (Lit.int .i64 z.2.2.2.2.2.2.2.1.2).wf = true) ∧ (True ∧ ByteArray.size z.2.2.2.2.2.2.2.2.1.2 ≤ 140737488351232) ∧ True ∧ (Lit.int .i64 z.2.2.2.2.2.2.2.2.2.2.1).wf = true ∧ (Lit.int .i64 z.2.2.2.2.2.2.2.2.2.2.2.1).wf = true ∧ (List.length z.2.2.2.2.2.2.2.2.2.2.2.2.1 * 40 ≤ 140737488351232 ∧ ∀ y ∈ z.2.2.2.2.2.2.2.2.2.2.2.2.1, True) ∧ one z.2.2.2.2.2.2.2.2.2.2.2.2.2 = true))) rfl (by kernel_rfl) (opens_slice 40 Tryz.underlying31 (by kernel_rfl) (by kernel_rfl) opens_Wr) ?_
  exact opensF_one rfl (by kernel_rfl) opensT39
theorem opens_OpZ : Opens Tryz.prog 41 kdOpC (fun _ => True) := by
  refine opens_rel opensT41 (fun w x cs hK hG => ?_)
  obtain ⟨_, _, rfl, rfl, ⟨_, _, rfl, rfl, ⟨_, _, rfl, rfl, ⟨_, _, rfl, rfl, ⟨_, _, rfl, ⟨A1, c1, rfl, _, hC1⟩, ⟨_, _, rfl, rfl, ⟨_, _, rfl, rfl, ⟨_, _, rfl, rfl, ⟨_, _, rfl, rfl, ⟨_, _, rfl, rfl, ⟨_, _, rfl, rfl, ⟨_, _, rfl, rfl, ⟨_, _, rfl, ⟨_, _, rfl, rfl, rfl⟩, ⟨_, _, rfl, ⟨_, _, rfl, rfl, rfl⟩, ⟨_, _, rfl, rfl, ⟨_, _, rfl, rfl, ⟨_, _, rfl, rfl, ⟨_, _, rfl, ⟨A2, c2, rfl, _, hC2⟩, ⟨rfl, _, _, _, e3⟩⟩⟩⟩⟩⟩⟩⟩⟩⟩⟩⟩⟩⟩⟩⟩⟩⟩⟩ := hK
  refine ⟨⟨x.1, x.2.1, x.2.2.1, x.2.2.2.1, .slice A1 (List.length x.2.2.2.2.1) c1, ⟨x.2.2.2.2.2.1, x.2.2.2.2.2.2.1, x.2.2.2.2.2.2.2.1, x.2.2.2.2.2.2.2.2.1, x.2.2.2.2.2.2.2.2.2.1, x.2.2.2.2.2.2.2.2.2.2.1, x.2.2.2.2.2.2.2.2.2.2.2.1, x.2.2.2.2.2.2.2.2.2.2.2.2.1.1, x.2.2.2.2.2.2.2.2.2.2.2.2.1.2, x.2.2.2.2.2.2.2.2.2.2.2.2.2.1.1, x.2.2.2.2.2.2.2.2.2.2.2.2.2.1.2, x.2.2.2.2.2.2.2.2.2.2.2.2.2.2.1, x.2.2.2.2.2.2.2.2.2.2.2.2.2.2.2.1, x.2.2.2.2.2.2.2.2.2.2.2.2.2.2.2.2.1, .slice A2 (List.length x.2.2.2.2.2.2.2.2.2.2.2.2.2.2.2.2.2.1) c2, x.2.2.2.2.2.2.2.2.2.2.2.2.2.2.2.2.2.2⟩⟩, ⟨rfl, ?_⟩, trivial⟩
  have hb := hG.2.2.2.2.1.1
  exact ⟨⟨hG.2.2.2.1, rfl, hG.2.2.2.2.2.2.2.2.2.2.2.2.2.2.2.2.2.2, _, ro_rows (by decide) hC1, by omega⟩, (u8_range hG.1).1⟩
end Go.Proofs.YtaoafjlocjjbbaaGreatDoor

-- LawBase
namespace Go.Proofs.YtaoafjlocjjbbaaGreatDoor
open Go.Sp
set_option linter.unusedVariables false
abbrev laidAll : List (String × DataW Unit) := [("math/bits.deBruijn32tab", Rows.laid_math_bits_deBruijn32tab), ("math/bits.deBruijn64tab", Rows.laid_math_bits_deBruijn64tab), ("internal/strconv.uint64pow10", Rows.laid_internal_strconv_uint64pow10), ("strconv.ErrRange", Rows.laid_strconv_ErrRange), ("strconv.ErrSyntax", Rows.laid_strconv_ErrSyntax)]
theorem gP : Tryz.prog.globalNamed "internal/strconv.uint64pow10" = some 0 := by kernel_rfl
theorem gS : Tryz.prog.globalNamed "strconv.ErrSyntax" = some 1 := by kernel_rfl
theorem gR : Tryz.prog.globalNamed "strconv.ErrRange" = some 2 := by kernel_rfl
theorem tyP : (Tryz.prog.globals[0]?).map (·.type) = some 199 := by kernel_rfl
theorem tyS : (Tryz.prog.globals[1]?).map (·.type) = some 168 := by kernel_rfl
theorem tyR : (Tryz.prog.globals[2]?).map (·.type) = some 168 := by kernel_rfl
theorem starErr : "*" ++ "errors.errorString" = "*errors.errorString" := by decide
theorem rowErr (u : TypeId) (h : Tryz.prog.typeName? 3 u = some "*errors.errorString") : u = 220 := by
  exact typeName_ptr_named (nm := "errors.errorString") (by rw [starErr]; kernel_rfl) (by kernel_rfl) (by decide) u (by rw [starErr]; exact h)
theorem glob_of_laid {W : World} (h : laidMet Tryz.prog laidAll W) : Lib.TabIs Tryz.prog W "internal/strconv.uint64pow10" .u64 Lib.pow10Tab ∧ (∃ tp p, W.var? Tryz.prog "strconv.ErrSyntax" = some #[.iface tp p]) ∧ (∃ tp p, W.var? Tryz.prog "strconv.ErrRange" = some #[.iface tp p]) := by
  have h3 := h.tail.tail
  obtain ⟨a1, s1, e1, _⟩ := laid_sentinel h3.tail gR tyR Tryz.underlying168 rowErr Tryz.underlying220 Tryz.underlying222 rfl rfl Tryz.underlying9 (by kernel_rfl) (by kernel_rfl)
  obtain ⟨a2, s2, e2, _⟩ := laid_sentinel h3.tail.tail gS tyS Tryz.underlying168 rowErr Tryz.underlying220 Tryz.underlying222 rfl rfl Tryz.underlying9 (by kernel_rfl) (by kernel_rfl)
  exact ⟨Lib.tabIs_of_head (rest := _) gP tyP Tryz.underlying199 Tryz.underlying187 (by kernel_rfl) (by kernel_rfl) h3, ⟨_, _, e2⟩, ⟨_, _, e1⟩⟩
theorem full_var {W w : World} (h : Sat (Open.full W) w) {n : String} {cs : Array Value} (hv : W.var? Tryz.prog n = some cs) : w.var? Tryz.prog n = some cs := by
  unfold World.var? at hv ⊢
  cases hg : Tryz.prog.globalNamed n with
  | none => rw [hg] at hv; cases hv
  | some g =>
    rw [hg] at hv
    simp only [Option.bind_some] at hv ⊢
    cases ho : W.heap[g]? with
    | none => rw [ho] at hv; cases hv
    | some o =>
      have : w.heap[g]? = some o := h g (.ro o) (by unfold Open.full; rw [ho]; rfl)
      rw [this]; rw [ho] at hv; exact hv
theorem glob_full {W : World} (h : laidMet Tryz.prog laidAll W) : Glob (Open.full W) := fun w hw => by
  obtain ⟨h1, ⟨_, _, h2⟩, ⟨_, _, h3⟩⟩ := glob_of_laid h
  exact ⟨full_var hw h1, ⟨_, _, full_var hw h2⟩, ⟨_, _, full_var hw h3⟩⟩
end Go.Proofs.YtaoafjlocjjbbaaGreatDoor

-- UpB
namespace Go.Proofs.YtaoafjlocjjbbaaGreatDoor
theorem bulk_one {H : Type} (d : DataW H) : 1 ≤ Rows.uptoBulk d := by
  cases d with
  | lit l => cases l <;> simp [Rows.uptoBulk]
  | nil => simp [Rows.uptoBulk]
  | ptr d => simp [Rows.uptoBulk]
  | slice elems spare => simp [Rows.uptoBulk]
  | agg parts => simp [Rows.uptoBulk]
  | iface t d => simp [Rows.uptoBulk]
  | map entries => simp [Rows.uptoBulk]
  | held h => simp [Rows.uptoBulk]
theorem bulk_len {H : Type} : ∀ l : List (DataW H), l.length ≤ Rows.uptoBulkAll l
  | [] => by simp [Rows.uptoBulkAll]
  | x :: r => by have := bulk_one x; have := bulk_len r; simp only [Rows.uptoBulkAll, List.length_cons]; omega
theorem slice_bulk {H : Type} {enc : TypeId × Value → H} {P : Program} {w : World} {base : Nat} {sp : Nat → Bool} {held : Bool} {t e : TypeId} {A : Option Addr} {n c : Nat} {d : DataW H} {p : List MemPlace}
    (ht : P.underlying t = some (.slice e)) (h : DataW.Trod enc P w base sp held t (.slice A n c) d p) : n ≤ Rows.uptoBulk d := by
  obtain ⟨fuel, hf⟩ := h
  rcases DataW.trod_slice ht hf with ⟨h1, h2⟩ | ⟨a, len, cap, elems, rest, m, _, h1, h2, _, _, _, hl, _, _, _⟩
  · simp [Value.cells] at h1
    rw [h1.2.1]; exact Nat.zero_le _
  · simp [Value.cells] at h1
    obtain ⟨rfl, rfl, rfl⟩ := h1
    cases h2
    have := bulk_len (elems.map (·.1))
    rw [List.length_map, hl] at this
    simp only [Rows.uptoBulk]
    omega
end Go.Proofs.YtaoafjlocjjbbaaGreatDoor
