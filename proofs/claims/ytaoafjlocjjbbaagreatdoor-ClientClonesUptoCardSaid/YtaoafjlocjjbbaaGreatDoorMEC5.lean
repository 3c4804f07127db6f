/- Texts of mine, part 5 of 6, laid together: The reference's client: its calls, just what its session's or its transaction's do. The reference's client: what it hears, what is seen; a finish. The reference's client over a heap; one of its sessions or transactions turned. The reference's client at real numbers: what it answers, and what turns. No client, and numbers that there aren't. A client's commits: those that are refused, those that are No condition. -/
import Derived.Test.YtaoafjlocjjbbaaGreatDoorMEC4
import Derived.Test.YtaoafjlocjjbbaaGreatDoorProg
import Derived.KernelRfl
-- E10
namespace Go.Proofs.YtaoafjlocjjbbaaGreatDoor
open Go.Sp
set_option linter.unusedSimpArgs false
set_option linter.unusedVariables false
theorem has60 {σ : Hp} {g n cap : Nat} {c : Cfg} {A : Option Addr} {vt vh : Value} (hg : σ g = some (.cells (CliC c (.slice A n cap) vt vh) 71)) (i : Int) : ACalls Tryz.prog 60 #[.pointer (some ⟨g, 0, none⟩), .int .i64 i] σ fun u σ' => u = .bool (decide (i ≥ 0) && decide (i < (n : Int))) ∧ σ' = σ := by
  (unfold CliC at hg; obtain ⟨τ, rfl⟩ := open_upd hg; clear hg)
  (refine acalls_F ok60 (by simp) ?_; unfold c60 r60)
  (repeat' (first | (simp +contextual -dsimp only [*, CliC, Msg.cells, noMsg, noView, noTx, ↓reduceIte, ↓evP, evQ, splice, Nat.reduceAdd, Nat.reduceEqDiff, Nat.reduceLeDiff, Nat.reduceMul, reduceCtorEq, Int.reduceLT, Int.reduceLE, Int.reduceGT, Int.reduceGE, Int.reduceEq, Int.reduceNeg]) | (refine condF_split (fun hc => ?_) (fun hc => ?_) <;> (try simp only [Bool.not_eq_true', Bool.not_eq_false', Bool.and_eq_true, Bool.or_eq_false_iff] at hc)) | (intro _; intros) | (refine And.intro ?_ ?_; focus (first | omega | ((repeat (first | exact Sub.refl _ | (refine Sub.drop ?_ ?_; focus (simp only [evN, *]; done)) | refine Sub.both ?_)); done) | (simp_all; done) | (simp_all; omega)))))
  all_goals (refine endF_det ?_ ?_; (focus ((try simp only [cond_true, cond_false, *]) <;> ((try simp only [decide_eq_true_eq, decide_eq_false_iff_not] at *) <;> first | rfl | (simp []; done) | (simp_all []; done) | (simp []; omega) | (simp []; (rw [Bool.eq_iff_iff]); simp; omega) | (simp_all [] <;> omega) | ((try unfold id); (rw [Value.bool.injEq, Bool.eq_iff_iff]); simp <;> omega) | ((try unfold id); (repeat' split) <;> simp_all <;> omega) | (simp_all [] <;> (repeat' split) <;> simp_all <;> omega)))); (focus ((try simp only [cond_true, cond_false, set_same, *]); exact (by (repeat (first | exact Sub.refl _ | (refine Sub.drop ?_ ?_; focus (simp only [evN, *]; done)) | refine Sub.both ?_)); done))))
theorem runs52 {σ : Hp} {g n cap : Nat} {c : Cfg} {A : Option Addr} {vs vh : Value} (hg : σ g = some (.cells (CliC c vs (.slice A n cap) vh) 71)) (i : Int) : ACalls Tryz.prog 52 #[.pointer (some ⟨g, 0, none⟩), .int .i64 i] σ fun u σ' => u = .bool (decide (i ≥ 0) && decide (i < (n : Int))) ∧ σ' = σ := by
  (unfold CliC at hg; obtain ⟨τ, rfl⟩ := open_upd hg; clear hg)
  (refine acalls_F ok52 (by simp) ?_; unfold c52 r52)
  (repeat' (first | (simp +contextual -dsimp only [*, CliC, Msg.cells, noMsg, noView, noTx, ↓reduceIte, ↓evP, evQ, splice, Nat.reduceAdd, Nat.reduceEqDiff, Nat.reduceLeDiff, Nat.reduceMul, reduceCtorEq, Int.reduceLT, Int.reduceLE, Int.reduceGT, Int.reduceGE, Int.reduceEq, Int.reduceNeg]) | (refine condF_split (fun hc => ?_) (fun hc => ?_) <;> (try simp only [Bool.not_eq_true', Bool.not_eq_false', Bool.and_eq_true, Bool.or_eq_false_iff] at hc)) | (intro _; intros) | (refine And.intro ?_ ?_; focus (first | omega | ((repeat (first | exact Sub.refl _ | (refine Sub.drop ?_ ?_; focus (simp only [evN, *]; done)) | refine Sub.both ?_)); done) | (simp_all; done) | (simp_all; omega)))))
  all_goals (refine endF_det ?_ ?_; (focus ((try simp only [cond_true, cond_false, *]) <;> ((try simp only [decide_eq_true_eq, decide_eq_false_iff_not] at *) <;> first | rfl | (simp []; done) | (simp_all []; done) | (simp []; omega) | (simp []; (rw [Bool.eq_iff_iff]); simp; omega) | (simp_all [] <;> omega) | ((try unfold id); (rw [Value.bool.injEq, Bool.eq_iff_iff]); simp <;> omega) | ((try unfold id); (repeat' split) <;> simp_all <;> omega) | (simp_all [] <;> (repeat' split) <;> simp_all <;> omega)))); (focus ((try simp only [cond_true, cond_false, set_same, *]); exact (by (repeat (first | exact Sub.refl _ | (refine Sub.drop ?_ ?_; focus (simp only [evN, *]; done)) | refine Sub.both ?_)); done))))
theorem commit64g {σ : Hp} {g b n cap i : Nat} {c : Cfg} {vt vh w : Value} {R : Msg → Int → Hp → Prop} (hg : σ g = some (.cells (CliC c (.slice (some ⟨b, 0, none⟩) n cap) vt vh) 71)) (hi : i < n)
    (hop : ACalls Tryz.prog 89 #[.pointer (some ⟨b, i * 8, none⟩), w] σ (MsgE R)) : ACalls Tryz.prog 64 #[.pointer (some ⟨g, 0, none⟩), .int .i64 i, w] σ (MsgE R) := by
  have HO := Hid.mk hop
  have hb : decide ((i : Int) < (n : Int)) = true := by simp; omega
  clear hop
  (unfold CliC at hg; obtain ⟨τ, rfl⟩ := open_upd hg; clear hg)
  (refine acalls_F ok64 (by simp) ?_; unfold c64 r64)
  (repeat' (first | (simp +contextual -dsimp only [*, CliC, Msg.cells, noMsg, noView, noTx, ↓reduceIte, ↓evP, evQ, splice, Nat.reduceAdd, Nat.reduceEqDiff, Nat.reduceLeDiff, Nat.reduceMul, reduceCtorEq, Int.reduceLT, Int.reduceLE, Int.reduceGT, Int.reduceGE, Int.reduceEq, Int.reduceNeg]) | (refine condF_split (fun hc => ?_) (fun hc => ?_) <;> (try simp only [Bool.not_eq_true', Bool.not_eq_false', Bool.and_eq_true, Bool.or_eq_false_iff] at hc)) | refine callF_v (has60 (c := c) (by first | rfl | (simp only [upd_same, upd_at, set_at, *, ↓reduceIte]; done) | (simp only [upd_same, upd_at, set_at, *, ↓reduceIte]; rfl)) _) ?_ | refine ccallF_of (has60 (c := c) (by first | rfl | (simp only [upd_same, upd_at, set_at, *, ↓reduceIte]; done) | (simp only [upd_same, upd_at, set_at, *, ↓reduceIte]; rfl)) _) ?_ | refine gcallF_of (has60 (c := c) (by first | rfl | (simp only [upd_same, upd_at, set_at, *, ↓reduceIte]; done) | (simp only [upd_same, upd_at, set_at, *, ↓reduceIte]; rfl)) _) ?_ | (intro _; intros) | (refine And.intro ?_ ?_; focus (first | omega | ((repeat (first | exact Sub.refl _ | (refine Sub.drop ?_ ?_; focus (simp only [evN, *]; done)) | refine Sub.both ?_)); done) | (simp_all; done) | (simp_all; omega)))))
  refine callF_of (ACalls.beside ?_ HO.out) ?_
  · (simp only [evN, *]; done)
  rintro u σ'' ⟨σ1, ⟨m, e, rfl, hw, hk, hR⟩, n1, rfl⟩
  have HR := Hid.mk hR
  clear hR
  simp +contextual -dsimp only [*, CliC, Msg.cells, noMsg, noView, noTx, ↓reduceIte, ↓evP, evQ, splice, Nat.reduceAdd, Nat.reduceEqDiff, Nat.reduceLeDiff, Nat.reduceMul, reduceCtorEq, Int.reduceLT, Int.reduceLE, Int.reduceGT, Int.reduceGE, Int.reduceEq, Int.reduceNeg]
  exact endF_sub (τ := σ1) (by (repeat (first | exact Sub.refl _ | (refine Sub.drop ?_ ?_; focus (simp only [evN, *]; done)) | refine Sub.both ?_)); done) ⟨m, e, rfl, hw, hk, HR.out⟩
theorem commit64x {σ : Hp} {g n cap : Nat} {A : Option Addr} {i : Int} {c : Cfg} {vt vh w : Value} (hg : σ g = some (.cells (CliC c (.slice A n cap) vt vh) 71)) (hi : (decide (i ≥ 0) && decide (i < (n : Int))) = false) : ACalls Tryz.prog 64 #[.pointer (some ⟨g, 0, none⟩), .int .i64 i, w] σ fun u σ' => u = .tuple #[.agg noMsg.toArray, .int .i64 3] ∧ σ' = σ := by
  (unfold CliC at hg; obtain ⟨τ, rfl⟩ := open_upd hg; clear hg)
  (refine acalls_F ok64 (by simp) ?_; unfold c64 r64)
  (repeat' (first | (simp +contextual -dsimp only [*, CliC, Msg.cells, noMsg, noView, noTx, ↓reduceIte, ↓evP, evQ, splice, Nat.reduceAdd, Nat.reduceEqDiff, Nat.reduceLeDiff, Nat.reduceMul, reduceCtorEq, Int.reduceLT, Int.reduceLE, Int.reduceGT, Int.reduceGE, Int.reduceEq, Int.reduceNeg]) | (refine condF_split (fun hc => ?_) (fun hc => ?_) <;> (try simp only [Bool.not_eq_true', Bool.not_eq_false', Bool.and_eq_true, Bool.or_eq_false_iff] at hc)) | refine callF_v (has60 (c := c) (by first | rfl | (simp only [upd_same, upd_at, set_at, *, ↓reduceIte]; done) | (simp only [upd_same, upd_at, set_at, *, ↓reduceIte]; rfl)) _) ?_ | refine ccallF_of (has60 (c := c) (by first | rfl | (simp only [upd_same, upd_at, set_at, *, ↓reduceIte]; done) | (simp only [upd_same, upd_at, set_at, *, ↓reduceIte]; rfl)) _) ?_ | refine gcallF_of (has60 (c := c) (by first | rfl | (simp only [upd_same, upd_at, set_at, *, ↓reduceIte]; done) | (simp only [upd_same, upd_at, set_at, *, ↓reduceIte]; rfl)) _) ?_ | (intro _; intros) | (refine And.intro ?_ ?_; focus (first | omega | ((repeat (first | exact Sub.refl _ | (refine Sub.drop ?_ ?_; focus (simp only [evN, *]; done)) | refine Sub.both ?_)); done) | (simp_all; done) | (simp_all; omega)))))
  all_goals (refine endF_det ?_ ?_; (focus ((try simp only [noMsg, Msg.cells, cond_true, cond_false, *]) <;> ((try simp only [decide_eq_true_eq, decide_eq_false_iff_not] at *) <;> first | rfl | (simp [noMsg, Msg.cells]; done) | (simp_all [noMsg, Msg.cells]; done) | (simp [noMsg, Msg.cells]; omega) | (simp [noMsg, Msg.cells]; (rw [Bool.eq_iff_iff]); simp; omega) | (simp_all [noMsg, Msg.cells] <;> omega) | ((try unfold noMsg  Msg.cells); (rw [Value.bool.injEq, Bool.eq_iff_iff]); simp <;> omega) | ((try unfold noMsg  Msg.cells); (repeat' split) <;> simp_all <;> omega) | (simp_all [noMsg, Msg.cells] <;> (repeat' split) <;> simp_all <;> omega)))); (focus ((try simp only [noMsg, Msg.cells, cond_true, cond_false, set_same, *]); exact (by (repeat (first | exact Sub.refl _ | (refine Sub.drop ?_ ?_; focus (simp only [evN, *]; done)) | refine Sub.both ?_)); done))))
theorem again66g {σ : Hp} {g b n cap i : Nat} {c : Cfg} {vt vh : Value} {R : Msg → Int → Hp → Prop} (hg : σ g = some (.cells (CliC c (.slice (some ⟨b, 0, none⟩) n cap) vt vh) 71)) (hi : i < n)
    (hop : ACalls Tryz.prog 91 #[.pointer (some ⟨b, i * 8, none⟩), .int .i64 c.retries] σ (MsgE R)) : ACalls Tryz.prog 66 #[.pointer (some ⟨g, 0, none⟩), .int .i64 i] σ (MsgE R) := by
  have HO := Hid.mk hop
  have hb : decide ((i : Int) < (n : Int)) = true := by simp; omega
  clear hop
  (unfold CliC at hg; obtain ⟨τ, rfl⟩ := open_upd hg; clear hg)
  (refine acalls_F ok66 (by simp) ?_; unfold c66 r66)
  (repeat' (first | (simp +contextual -dsimp only [*, CliC, Msg.cells, noMsg, noView, noTx, ↓reduceIte, ↓evP, evQ, splice, Nat.reduceAdd, Nat.reduceEqDiff, Nat.reduceLeDiff, Nat.reduceMul, reduceCtorEq, Int.reduceLT, Int.reduceLE, Int.reduceGT, Int.reduceGE, Int.reduceEq, Int.reduceNeg]) | (refine condF_split (fun hc => ?_) (fun hc => ?_) <;> (try simp only [Bool.not_eq_true', Bool.not_eq_false', Bool.and_eq_true, Bool.or_eq_false_iff] at hc)) | refine callF_v (has60 (c := c) (by first | rfl | (simp only [upd_same, upd_at, set_at, *, ↓reduceIte]; done) | (simp only [upd_same, upd_at, set_at, *, ↓reduceIte]; rfl)) _) ?_ | refine ccallF_of (has60 (c := c) (by first | rfl | (simp only [upd_same, upd_at, set_at, *, ↓reduceIte]; done) | (simp only [upd_same, upd_at, set_at, *, ↓reduceIte]; rfl)) _) ?_ | refine gcallF_of (has60 (c := c) (by first | rfl | (simp only [upd_same, upd_at, set_at, *, ↓reduceIte]; done) | (simp only [upd_same, upd_at, set_at, *, ↓reduceIte]; rfl)) _) ?_ | (intro _; intros) | (refine And.intro ?_ ?_; focus (first | omega | ((repeat (first | exact Sub.refl _ | (refine Sub.drop ?_ ?_; focus (simp only [evN, *]; done)) | refine Sub.both ?_)); done) | (simp_all; done) | (simp_all; omega)))))
  refine callF_of (ACalls.beside ?_ HO.out) ?_
  · (simp only [evN, *]; done)
  rintro u σ'' ⟨σ1, ⟨m, e, rfl, hw, hk, hR⟩, n1, rfl⟩
  have HR := Hid.mk hR
  clear hR
  simp +contextual -dsimp only [*, CliC, Msg.cells, noMsg, noView, noTx, ↓reduceIte, ↓evP, evQ, splice, Nat.reduceAdd, Nat.reduceEqDiff, Nat.reduceLeDiff, Nat.reduceMul, reduceCtorEq, Int.reduceLT, Int.reduceLE, Int.reduceGT, Int.reduceGE, Int.reduceEq, Int.reduceNeg]
  exact endF_sub (τ := σ1) (by (repeat (first | exact Sub.refl _ | (refine Sub.drop ?_ ?_; focus (simp only [evN, *]; done)) | refine Sub.both ?_)); done) ⟨m, e, rfl, hw, hk, HR.out⟩
theorem again66x {σ : Hp} {g n cap : Nat} {A : Option Addr} {i : Int} {c : Cfg} {vt vh : Value} (hg : σ g = some (.cells (CliC c (.slice A n cap) vt vh) 71)) (hi : (decide (i ≥ 0) && decide (i < (n : Int))) = false) : ACalls Tryz.prog 66 #[.pointer (some ⟨g, 0, none⟩), .int .i64 i] σ fun u σ' => u = .tuple #[.agg noMsg.toArray, .int .i64 3] ∧ σ' = σ := by
  (unfold CliC at hg; obtain ⟨τ, rfl⟩ := open_upd hg; clear hg)
  (refine acalls_F ok66 (by simp) ?_; unfold c66 r66)
  (repeat' (first | (simp +contextual -dsimp only [*, CliC, Msg.cells, noMsg, noView, noTx, ↓reduceIte, ↓evP, evQ, splice, Nat.reduceAdd, Nat.reduceEqDiff, Nat.reduceLeDiff, Nat.reduceMul, reduceCtorEq, Int.reduceLT, Int.reduceLE, Int.reduceGT, Int.reduceGE, Int.reduceEq, Int.reduceNeg]) | (refine condF_split (fun hc => ?_) (fun hc => ?_) <;> (try simp only [Bool.not_eq_true', Bool.not_eq_false', Bool.and_eq_true, Bool.or_eq_false_iff] at hc)) | refine callF_v (has60 (c := c) (by first | rfl | (simp only [upd_same, upd_at, set_at, *, ↓reduceIte]; done) | (simp only [upd_same, upd_at, set_at, *, ↓reduceIte]; rfl)) _) ?_ | refine ccallF_of (has60 (c := c) (by first | rfl | (simp only [upd_same, upd_at, set_at, *, ↓reduceIte]; done) | (simp only [upd_same, upd_at, set_at, *, ↓reduceIte]; rfl)) _) ?_ | refine gcallF_of (has60 (c := c) (by first | rfl | (simp only [upd_same, upd_at, set_at, *, ↓reduceIte]; done) | (simp only [upd_same, upd_at, set_at, *, ↓reduceIte]; rfl)) _) ?_ | (intro _; intros) | (refine And.intro ?_ ?_; focus (first | omega | ((repeat (first | exact Sub.refl _ | (refine Sub.drop ?_ ?_; focus (simp only [evN, *]; done)) | refine Sub.both ?_)); done) | (simp_all; done) | (simp_all; omega)))))
  all_goals (refine endF_det ?_ ?_; (focus ((try simp only [noMsg, Msg.cells, cond_true, cond_false, *]) <;> ((try simp only [decide_eq_true_eq, decide_eq_false_iff_not] at *) <;> first | rfl | (simp [noMsg, Msg.cells]; done) | (simp_all [noMsg, Msg.cells]; done) | (simp [noMsg, Msg.cells]; omega) | (simp [noMsg, Msg.cells]; (rw [Bool.eq_iff_iff]); simp; omega) | (simp_all [noMsg, Msg.cells] <;> omega) | ((try unfold noMsg  Msg.cells); (rw [Value.bool.injEq, Bool.eq_iff_iff]); simp <;> omega) | ((try unfold noMsg  Msg.cells); (repeat' split) <;> simp_all <;> omega) | (simp_all [noMsg, Msg.cells] <;> (repeat' split) <;> simp_all <;> omega)))); (focus ((try simp only [noMsg, Msg.cells, cond_true, cond_false, set_same, *]); exact (by (repeat (first | exact Sub.refl _ | (refine Sub.drop ?_ ?_; focus (simp only [evN, *]; done)) | refine Sub.both ?_)); done))))
theorem retry26g {σ : Hp} {g b n cap i : Nat} {c : Cfg} {vs vh : Value} {R : Msg → Int → Hp → Prop} (hg : σ g = some (.cells (CliC c vs (.slice (some ⟨b, 0, none⟩) n cap) vh) 71)) (hi : i < n)
    (hop : ACalls Tryz.prog 57 #[.pointer (some ⟨b, i * 10, none⟩), .int .i64 c.retries] σ (MsgE R)) : ACalls Tryz.prog 26 #[.pointer (some ⟨g, 0, none⟩), .int .i64 i] σ (MsgE R) := by
  have HO := Hid.mk hop
  have hb : decide ((i : Int) < (n : Int)) = true := by simp; omega
  clear hop
  (unfold CliC at hg; obtain ⟨τ, rfl⟩ := open_upd hg; clear hg)
  (refine acalls_F ok26 (by simp) ?_; unfold c26 r26)
  (repeat' (first | (simp +contextual -dsimp only [*, CliC, Msg.cells, noMsg, noView, noTx, ↓reduceIte, ↓evP, evQ, splice, Nat.reduceAdd, Nat.reduceEqDiff, Nat.reduceLeDiff, Nat.reduceMul, reduceCtorEq, Int.reduceLT, Int.reduceLE, Int.reduceGT, Int.reduceGE, Int.reduceEq, Int.reduceNeg]) | (refine condF_split (fun hc => ?_) (fun hc => ?_) <;> (try simp only [Bool.not_eq_true', Bool.not_eq_false', Bool.and_eq_true, Bool.or_eq_false_iff] at hc)) | refine callF_v (runs52 (c := c) (by first | rfl | (simp only [upd_same, upd_at, set_at, *, ↓reduceIte]; done) | (simp only [upd_same, upd_at, set_at, *, ↓reduceIte]; rfl)) _) ?_ | refine ccallF_of (runs52 (c := c) (by first | rfl | (simp only [upd_same, upd_at, set_at, *, ↓reduceIte]; done) | (simp only [upd_same, upd_at, set_at, *, ↓reduceIte]; rfl)) _) ?_ | refine gcallF_of (runs52 (c := c) (by first | rfl | (simp only [upd_same, upd_at, set_at, *, ↓reduceIte]; done) | (simp only [upd_same, upd_at, set_at, *, ↓reduceIte]; rfl)) _) ?_ | (intro _; intros) | (refine And.intro ?_ ?_; focus (first | omega | ((repeat (first | exact Sub.refl _ | (refine Sub.drop ?_ ?_; focus (simp only [evN, *]; done)) | refine Sub.both ?_)); done) | (simp_all; done) | (simp_all; omega)))))
  refine callF_of (ACalls.beside ?_ HO.out) ?_
  · (simp only [evN, *]; done)
  rintro u σ'' ⟨σ1, ⟨m, e, rfl, hw, hk, hR⟩, n1, rfl⟩
  have HR := Hid.mk hR
  clear hR
  simp +contextual -dsimp only [*, CliC, Msg.cells, noMsg, noView, noTx, ↓reduceIte, ↓evP, evQ, splice, Nat.reduceAdd, Nat.reduceEqDiff, Nat.reduceLeDiff, Nat.reduceMul, reduceCtorEq, Int.reduceLT, Int.reduceLE, Int.reduceGT, Int.reduceGE, Int.reduceEq, Int.reduceNeg]
  exact endF_sub (τ := σ1) (by (repeat (first | exact Sub.refl _ | (refine Sub.drop ?_ ?_; focus (simp only [evN, *]; done)) | refine Sub.both ?_)); done) ⟨m, e, rfl, hw, hk, HR.out⟩
theorem retry26x {σ : Hp} {g n cap : Nat} {A : Option Addr} {i : Int} {c : Cfg} {vs vh : Value} (hg : σ g = some (.cells (CliC c vs (.slice A n cap) vh) 71)) (hi : (decide (i ≥ 0) && decide (i < (n : Int))) = false) : ACalls Tryz.prog 26 #[.pointer (some ⟨g, 0, none⟩), .int .i64 i] σ fun u σ' => u = .tuple #[.agg noMsg.toArray, .int .i64 3] ∧ σ' = σ := by
  (unfold CliC at hg; obtain ⟨τ, rfl⟩ := open_upd hg; clear hg)
  (refine acalls_F ok26 (by simp) ?_; unfold c26 r26)
  (repeat' (first | (simp +contextual -dsimp only [*, CliC, Msg.cells, noMsg, noView, noTx, ↓reduceIte, ↓evP, evQ, splice, Nat.reduceAdd, Nat.reduceEqDiff, Nat.reduceLeDiff, Nat.reduceMul, reduceCtorEq, Int.reduceLT, Int.reduceLE, Int.reduceGT, Int.reduceGE, Int.reduceEq, Int.reduceNeg]) | (refine condF_split (fun hc => ?_) (fun hc => ?_) <;> (try simp only [Bool.not_eq_true', Bool.not_eq_false', Bool.and_eq_true, Bool.or_eq_false_iff] at hc)) | refine callF_v (runs52 (c := c) (by first | rfl | (simp only [upd_same, upd_at, set_at, *, ↓reduceIte]; done) | (simp only [upd_same, upd_at, set_at, *, ↓reduceIte]; rfl)) _) ?_ | refine ccallF_of (runs52 (c := c) (by first | rfl | (simp only [upd_same, upd_at, set_at, *, ↓reduceIte]; done) | (simp only [upd_same, upd_at, set_at, *, ↓reduceIte]; rfl)) _) ?_ | refine gcallF_of (runs52 (c := c) (by first | rfl | (simp only [upd_same, upd_at, set_at, *, ↓reduceIte]; done) | (simp only [upd_same, upd_at, set_at, *, ↓reduceIte]; rfl)) _) ?_ | (intro _; intros) | (refine And.intro ?_ ?_; focus (first | omega | ((repeat (first | exact Sub.refl _ | (refine Sub.drop ?_ ?_; focus (simp only [evN, *]; done)) | refine Sub.both ?_)); done) | (simp_all; done) | (simp_all; omega)))))
  all_goals (refine endF_det ?_ ?_; (focus ((try simp only [noMsg, Msg.cells, cond_true, cond_false, *]) <;> ((try simp only [decide_eq_true_eq, decide_eq_false_iff_not] at *) <;> first | rfl | (simp [noMsg, Msg.cells]; done) | (simp_all [noMsg, Msg.cells]; done) | (simp [noMsg, Msg.cells]; omega) | (simp [noMsg, Msg.cells]; (rw [Bool.eq_iff_iff]); simp; omega) | (simp_all [noMsg, Msg.cells] <;> omega) | ((try unfold noMsg  Msg.cells); (rw [Value.bool.injEq, Bool.eq_iff_iff]); simp <;> omega) | ((try unfold noMsg  Msg.cells); (repeat' split) <;> simp_all <;> omega) | (simp_all [noMsg, Msg.cells] <;> (repeat' split) <;> simp_all <;> omega)))); (focus ((try simp only [noMsg, Msg.cells, cond_true, cond_false, set_same, *]); exact (by (repeat (first | exact Sub.refl _ | (refine Sub.drop ?_ ?_; focus (simp only [evN, *]; done)) | refine Sub.both ?_)); done))))
theorem join68g {σ : Hp} {g b n cap i : Nat} {c : Cfg} {vt vh : Value} {t : ByteArray} {R : Value → Hp → Prop} (hg : σ g = some (.cells (CliC c (.slice (some ⟨b, 0, none⟩) n cap) vt vh) 71)) (hi : i < n)
    (hop : ACalls Tryz.prog 93 #[.pointer (some ⟨b, i * 8, none⟩), .string t] σ R) : ACalls Tryz.prog 68 #[.pointer (some ⟨g, 0, none⟩), .int .i64 i, .string t] σ R := by
  have HO := Hid.mk hop
  have hb : decide ((i : Int) < (n : Int)) = true := by simp; omega
  clear hop
  (unfold CliC at hg; obtain ⟨τ, rfl⟩ := open_upd hg; clear hg)
  (refine acalls_F ok68 (by simp) ?_; unfold c68 r68)
  (repeat' (first | (simp +contextual -dsimp only [*, CliC, Msg.cells, noMsg, noView, noTx, ↓reduceIte, ↓evP, evQ, splice, Nat.reduceAdd, Nat.reduceEqDiff, Nat.reduceLeDiff, Nat.reduceMul, reduceCtorEq, Int.reduceLT, Int.reduceLE, Int.reduceGT, Int.reduceGE, Int.reduceEq, Int.reduceNeg]) | (refine condF_split (fun hc => ?_) (fun hc => ?_) <;> (try simp only [Bool.not_eq_true', Bool.not_eq_false', Bool.and_eq_true, Bool.or_eq_false_iff] at hc)) | refine callF_v (has60 (c := c) (by first | rfl | (simp only [upd_same, upd_at, set_at, *, ↓reduceIte]; done) | (simp only [upd_same, upd_at, set_at, *, ↓reduceIte]; rfl)) _) ?_ | refine ccallF_of (has60 (c := c) (by first | rfl | (simp only [upd_same, upd_at, set_at, *, ↓reduceIte]; done) | (simp only [upd_same, upd_at, set_at, *, ↓reduceIte]; rfl)) _) ?_ | refine gcallF_of (has60 (c := c) (by first | rfl | (simp only [upd_same, upd_at, set_at, *, ↓reduceIte]; done) | (simp only [upd_same, upd_at, set_at, *, ↓reduceIte]; rfl)) _) ?_ | (intro _; intros) | (refine And.intro ?_ ?_; focus (first | omega | ((repeat (first | exact Sub.refl _ | (refine Sub.drop ?_ ?_; focus (simp only [evN, *]; done)) | refine Sub.both ?_)); done) | (simp_all; done) | (simp_all; omega)))))
  refine callF_of HO.out ?_
  intro u σ1 hR
  have HR := Hid.mk hR
  clear hR
  simp +contextual -dsimp only [*, CliC, Msg.cells, noMsg, noView, noTx, ↓reduceIte, ↓evP, evQ, splice, Nat.reduceAdd, Nat.reduceEqDiff, Nat.reduceLeDiff, Nat.reduceMul, reduceCtorEq, Int.reduceLT, Int.reduceLE, Int.reduceGT, Int.reduceGE, Int.reduceEq, Int.reduceNeg]
  exact endF_at HR.out
theorem join68x {σ : Hp} {g n cap : Nat} {A : Option Addr} {i : Int} {c : Cfg} {vt vh : Value} {t : ByteArray} (hg : σ g = some (.cells (CliC c (.slice A n cap) vt vh) 71)) (hi : (decide (i ≥ 0) && decide (i < (n : Int))) = false) : ACalls Tryz.prog 68 #[.pointer (some ⟨g, 0, none⟩), .int .i64 i, .string t] σ fun u σ' => u = .int .i64 3 ∧ σ' = σ := by
  (unfold CliC at hg; obtain ⟨τ, rfl⟩ := open_upd hg; clear hg)
  (refine acalls_F ok68 (by simp) ?_; unfold c68 r68)
  (repeat' (first | (simp +contextual -dsimp only [*, CliC, Msg.cells, noMsg, noView, noTx, ↓reduceIte, ↓evP, evQ, splice, Nat.reduceAdd, Nat.reduceEqDiff, Nat.reduceLeDiff, Nat.reduceMul, reduceCtorEq, Int.reduceLT, Int.reduceLE, Int.reduceGT, Int.reduceGE, Int.reduceEq, Int.reduceNeg]) | (refine condF_split (fun hc => ?_) (fun hc => ?_) <;> (try simp only [Bool.not_eq_true', Bool.not_eq_false', Bool.and_eq_true, Bool.or_eq_false_iff] at hc)) | refine callF_v (has60 (c := c) (by first | rfl | (simp only [upd_same, upd_at, set_at, *, ↓reduceIte]; done) | (simp only [upd_same, upd_at, set_at, *, ↓reduceIte]; rfl)) _) ?_ | refine ccallF_of (has60 (c := c) (by first | rfl | (simp only [upd_same, upd_at, set_at, *, ↓reduceIte]; done) | (simp only [upd_same, upd_at, set_at, *, ↓reduceIte]; rfl)) _) ?_ | refine gcallF_of (has60 (c := c) (by first | rfl | (simp only [upd_same, upd_at, set_at, *, ↓reduceIte]; done) | (simp only [upd_same, upd_at, set_at, *, ↓reduceIte]; rfl)) _) ?_ | (intro _; intros) | (refine And.intro ?_ ?_; focus (first | omega | ((repeat (first | exact Sub.refl _ | (refine Sub.drop ?_ ?_; focus (simp only [evN, *]; done)) | refine Sub.both ?_)); done) | (simp_all; done) | (simp_all; omega)))))
  all_goals (refine endF_det ?_ ?_; (focus ((try simp only [cond_true, cond_false, *]) <;> ((try simp only [decide_eq_true_eq, decide_eq_false_iff_not] at *) <;> first | rfl | (simp []; done) | (simp_all []; done) | (simp []; omega) | (simp []; (rw [Bool.eq_iff_iff]); simp; omega) | (simp_all [] <;> omega) | ((try unfold id); (rw [Value.bool.injEq, Bool.eq_iff_iff]); simp <;> omega) | ((try unfold id); (repeat' split) <;> simp_all <;> omega) | (simp_all [] <;> (repeat' split) <;> simp_all <;> omega)))); (focus ((try simp only [cond_true, cond_false, set_same, *]); exact (by (repeat (first | exact Sub.refl _ | (refine Sub.drop ?_ ?_; focus (simp only [evN, *]; done)) | refine Sub.both ?_)); done))))
theorem token67g {σ : Hp} {g b n cap i : Nat} {c : Cfg} {vt vh : Value} {f e : Int} {k : ByteArray} (hg : σ g = some (.cells (CliC c (.slice (some ⟨b, 0, none⟩) n cap) vt vh) 71)) (hi : i < n) (hf : rd σ b (i * 8 + 1) = some (.int .i64 f)) (hgb : ¬ b = g)
    (ht : ACalls Tryz.prog 92 #[.int .i64 f] σ fun u σ' => u = .tuple #[.string k, .int .i64 e] ∧ σ' = σ) : ACalls Tryz.prog 67 #[.pointer (some ⟨g, 0, none⟩), .int .i64 i] σ fun u σ' => u = .tuple #[.string k, .int .i64 e] ∧ σ' = σ := by
  have HO := Hid.mk ht
  have hb : decide ((i : Int) < (n : Int)) = true := by simp; omega
  clear ht
  unfold CliC at hg
  obtain ⟨τ, rfl⟩ := open_upd hg
  clear hg
  rw [rd_ne _ _ _ hgb] at hf
  (refine acalls_F ok67 (by simp) ?_; unfold c67 r67)
  (repeat' (first | (simp +contextual -dsimp only [*, CliC, Msg.cells, noMsg, noView, noTx, ↓reduceIte, ↓evP, evQ, splice, Nat.reduceAdd, Nat.reduceEqDiff, Nat.reduceLeDiff, Nat.reduceMul, reduceCtorEq, Int.reduceLT, Int.reduceLE, Int.reduceGT, Int.reduceGE, Int.reduceEq, Int.reduceNeg]) | (refine condF_split (fun hc => ?_) (fun hc => ?_) <;> (try simp only [Bool.not_eq_true', Bool.not_eq_false', Bool.and_eq_true, Bool.or_eq_false_iff] at hc)) | refine callF_v (has60 (c := c) (by first | rfl | (simp only [upd_same, upd_at, set_at, *, ↓reduceIte]; done) | (simp only [upd_same, upd_at, set_at, *, ↓reduceIte]; rfl)) _) ?_ | refine callF_v (HO.out) ?_ | refine ccallF_of (has60 (c := c) (by first | rfl | (simp only [upd_same, upd_at, set_at, *, ↓reduceIte]; done) | (simp only [upd_same, upd_at, set_at, *, ↓reduceIte]; rfl)) _) ?_ | refine ccallF_of (HO.out) ?_ | refine gcallF_of (has60 (c := c) (by first | rfl | (simp only [upd_same, upd_at, set_at, *, ↓reduceIte]; done) | (simp only [upd_same, upd_at, set_at, *, ↓reduceIte]; rfl)) _) ?_ | refine gcallF_of (HO.out) ?_ | (intro _; intros) | (refine And.intro ?_ ?_; focus (first | omega | ((repeat (first | exact Sub.refl _ | (refine Sub.drop ?_ ?_; focus (simp only [evN, *]; done)) | refine Sub.both ?_)); done) | (simp_all; done) | (simp_all; omega)))))
  all_goals (refine endF_det ?_ ?_; (focus ((try simp only [cond_true, cond_false, *]) <;> ((try simp only [decide_eq_true_eq, decide_eq_false_iff_not] at *) <;> first | rfl | (simp []; done) | (simp_all []; done) | (simp []; omega) | (simp []; (rw [Bool.eq_iff_iff]); simp; omega) | (simp_all [] <;> omega) | ((try unfold id); (rw [Value.bool.injEq, Bool.eq_iff_iff]); simp <;> omega) | ((try unfold id); (repeat' split) <;> simp_all <;> omega) | (simp_all [] <;> (repeat' split) <;> simp_all <;> omega)))); (focus ((try simp only [cond_true, cond_false, set_same, *]); exact (by (repeat (first | exact Sub.refl _ | (refine Sub.drop ?_ ?_; focus (simp only [evN, *]; done)) | refine Sub.both ?_)); done))))
theorem token67x {σ : Hp} {g n cap : Nat} {A : Option Addr} {i : Int} {c : Cfg} {vt vh : Value} (hg : σ g = some (.cells (CliC c (.slice A n cap) vt vh) 71)) (hi : (decide (i ≥ 0) && decide (i < (n : Int))) = false) : ACalls Tryz.prog 67 #[.pointer (some ⟨g, 0, none⟩), .int .i64 i] σ fun u σ' => u = .tuple #[.string ⟨#[]⟩, .int .i64 3] ∧ σ' = σ := by
  (unfold CliC at hg; obtain ⟨τ, rfl⟩ := open_upd hg; clear hg)
  (refine acalls_F ok67 (by simp) ?_; unfold c67 r67)
  (repeat' (first | (simp +contextual -dsimp only [*, CliC, Msg.cells, noMsg, noView, noTx, ↓reduceIte, ↓evP, evQ, splice, Nat.reduceAdd, Nat.reduceEqDiff, Nat.reduceLeDiff, Nat.reduceMul, reduceCtorEq, Int.reduceLT, Int.reduceLE, Int.reduceGT, Int.reduceGE, Int.reduceEq, Int.reduceNeg]) | (refine condF_split (fun hc => ?_) (fun hc => ?_) <;> (try simp only [Bool.not_eq_true', Bool.not_eq_false', Bool.and_eq_true, Bool.or_eq_false_iff] at hc)) | refine callF_v (has60 (c := c) (by first | rfl | (simp only [upd_same, upd_at, set_at, *, ↓reduceIte]; done) | (simp only [upd_same, upd_at, set_at, *, ↓reduceIte]; rfl)) _) ?_ | refine ccallF_of (has60 (c := c) (by first | rfl | (simp only [upd_same, upd_at, set_at, *, ↓reduceIte]; done) | (simp only [upd_same, upd_at, set_at, *, ↓reduceIte]; rfl)) _) ?_ | refine gcallF_of (has60 (c := c) (by first | rfl | (simp only [upd_same, upd_at, set_at, *, ↓reduceIte]; done) | (simp only [upd_same, upd_at, set_at, *, ↓reduceIte]; rfl)) _) ?_ | (intro _; intros) | (refine And.intro ?_ ?_; focus (first | omega | ((repeat (first | exact Sub.refl _ | (refine Sub.drop ?_ ?_; focus (simp only [evN, *]; done)) | refine Sub.both ?_)); done) | (simp_all; done) | (simp_all; omega)))))
  all_goals (refine endF_det ?_ ?_; (focus ((try simp only [cond_true, cond_false, *]) <;> ((try simp only [decide_eq_true_eq, decide_eq_false_iff_not] at *) <;> first | rfl | (simp []; done) | (simp_all []; done) | (simp []; omega) | (simp []; (rw [Bool.eq_iff_iff]); simp; omega) | (simp_all [] <;> omega) | ((try unfold id); (rw [Value.bool.injEq, Bool.eq_iff_iff]); simp <;> omega) | ((try unfold id); (repeat' split) <;> simp_all <;> omega) | (simp_all [] <;> (repeat' split) <;> simp_all <;> omega)))); (focus ((try simp only [cond_true, cond_false, set_same, *]); exact (by (repeat (first | exact Sub.refl _ | (refine Sub.drop ?_ ?_; focus (simp only [evN, *]; done)) | refine Sub.both ?_)); done))))
theorem read23g {σ : Hp} {g b n cap i : Nat} {c : Cfg} {vs vh : Value} {key : ByteArray} {R : Bool → ByteArray → Msg → Int → Hp → Prop} (hg : σ g = some (.cells (CliC c vs (.slice (some ⟨b, 0, none⟩) n cap) vh) 71)) (hi : i < n)
    (hop : ACalls Tryz.prog 53 #[.pointer (some ⟨b, i * 10, none⟩), .string key] σ fun u σ' => ∃ x d m e, u = .tuple #[.agg #[.bool x, .string d], .agg (Msg.cells m).toArray, .int .i64 e] ∧ one m.writes = true ∧ one m.keys = true ∧ R x d m e σ') :
    ACalls Tryz.prog 23 #[.pointer (some ⟨g, 0, none⟩), .int .i64 i, .string key] σ fun u σ' => ∃ x d m e, u = .tuple #[.agg #[.bool x, .string d], .agg (Msg.cells m).toArray, .int .i64 e] ∧ one m.writes = true ∧ one m.keys = true ∧ R x d m e σ' := by
  have HO := Hid.mk hop
  have hb : decide ((i : Int) < (n : Int)) = true := by simp; omega
  clear hop
  (unfold CliC at hg; obtain ⟨τ, rfl⟩ := open_upd hg; clear hg)
  (refine acalls_F ok23 (by simp) ?_; unfold c23 r23)
  (repeat' (first | (simp +contextual -dsimp only [*, CliC, Msg.cells, noMsg, noView, noTx, ↓reduceIte, ↓evP, evQ, splice, Nat.reduceAdd, Nat.reduceEqDiff, Nat.reduceLeDiff, Nat.reduceMul, reduceCtorEq, Int.reduceLT, Int.reduceLE, Int.reduceGT, Int.reduceGE, Int.reduceEq, Int.reduceNeg]) | (refine condF_split (fun hc => ?_) (fun hc => ?_) <;> (try simp only [Bool.not_eq_true', Bool.not_eq_false', Bool.and_eq_true, Bool.or_eq_false_iff] at hc)) | refine callF_v (runs52 (c := c) (by first | rfl | (simp only [upd_same, upd_at, set_at, *, ↓reduceIte]; done) | (simp only [upd_same, upd_at, set_at, *, ↓reduceIte]; rfl)) _) ?_ | refine ccallF_of (runs52 (c := c) (by first | rfl | (simp only [upd_same, upd_at, set_at, *, ↓reduceIte]; done) | (simp only [upd_same, upd_at, set_at, *, ↓reduceIte]; rfl)) _) ?_ | refine gcallF_of (runs52 (c := c) (by first | rfl | (simp only [upd_same, upd_at, set_at, *, ↓reduceIte]; done) | (simp only [upd_same, upd_at, set_at, *, ↓reduceIte]; rfl)) _) ?_ | (intro _; intros) | (refine And.intro ?_ ?_; focus (first | omega | ((repeat (first | exact Sub.refl _ | (refine Sub.drop ?_ ?_; focus (simp only [evN, *]; done)) | refine Sub.both ?_)); done) | (simp_all; done) | (simp_all; omega)))))
  refine callF_of (ACalls.beside ?_ (ACalls.beside ?_ HO.out)) ?_
  · (simp only [evN, *]; done)
  · (simp only [evN, *]; done)
  rintro u σ'' ⟨_, ⟨σ1, ⟨x, d, m, e, rfl, hw, hk, hR⟩, n1, rfl⟩, n2, rfl⟩
  simp only [none_upd] at n2
  have HR := Hid.mk hR
  clear hR
  simp +contextual -dsimp only [*, CliC, Msg.cells, noMsg, noView, noTx, ↓reduceIte, ↓evP, evQ, splice, Nat.reduceAdd, Nat.reduceEqDiff, Nat.reduceLeDiff, Nat.reduceMul, reduceCtorEq, Int.reduceLT, Int.reduceLE, Int.reduceGT, Int.reduceGE, Int.reduceEq, Int.reduceNeg]
  exact endF_sub (τ := σ1) (by (repeat (first | exact Sub.refl _ | (refine Sub.drop ?_ ?_; focus (simp only [evN, *]; done)) | refine Sub.both ?_)); done) ⟨x, d, m, e, rfl, hw, hk, HR.out⟩
theorem read23x {σ : Hp} {g n cap : Nat} {A : Option Addr} {i : Int} {c : Cfg} {vs vh : Value} {key : ByteArray} (hg : σ g = some (.cells (CliC c vs (.slice A n cap) vh) 71)) (hi : (decide (i ≥ 0) && decide (i < (n : Int))) = false) : ACalls Tryz.prog 23 #[.pointer (some ⟨g, 0, none⟩), .int .i64 i, .string key] σ fun u σ' => u = .tuple #[.agg #[.bool false, .string ⟨#[]⟩], .agg noMsg.toArray, .int .i64 3] ∧ σ' = σ := by
  (unfold CliC at hg; obtain ⟨τ, rfl⟩ := open_upd hg; clear hg)
  (refine acalls_F ok23 (by simp) ?_; unfold c23 r23)
  (repeat' (first | (simp +contextual -dsimp only [*, CliC, Msg.cells, noMsg, noView, noTx, ↓reduceIte, ↓evP, evQ, splice, Nat.reduceAdd, Nat.reduceEqDiff, Nat.reduceLeDiff, Nat.reduceMul, reduceCtorEq, Int.reduceLT, Int.reduceLE, Int.reduceGT, Int.reduceGE, Int.reduceEq, Int.reduceNeg]) | (refine condF_split (fun hc => ?_) (fun hc => ?_) <;> (try simp only [Bool.not_eq_true', Bool.not_eq_false', Bool.and_eq_true, Bool.or_eq_false_iff] at hc)) | refine callF_v (runs52 (c := c) (by first | rfl | (simp only [upd_same, upd_at, set_at, *, ↓reduceIte]; done) | (simp only [upd_same, upd_at, set_at, *, ↓reduceIte]; rfl)) _) ?_ | refine ccallF_of (runs52 (c := c) (by first | rfl | (simp only [upd_same, upd_at, set_at, *, ↓reduceIte]; done) | (simp only [upd_same, upd_at, set_at, *, ↓reduceIte]; rfl)) _) ?_ | refine gcallF_of (runs52 (c := c) (by first | rfl | (simp only [upd_same, upd_at, set_at, *, ↓reduceIte]; done) | (simp only [upd_same, upd_at, set_at, *, ↓reduceIte]; rfl)) _) ?_ | (intro _; intros) | (refine And.intro ?_ ?_; focus (first | omega | ((repeat (first | exact Sub.refl _ | (refine Sub.drop ?_ ?_; focus (simp only [evN, *]; done)) | refine Sub.both ?_)); done) | (simp_all; done) | (simp_all; omega)))))
  all_goals (refine endF_det ?_ ?_; (focus ((try simp only [noMsg, Msg.cells, cond_true, cond_false, *]) <;> ((try simp only [decide_eq_true_eq, decide_eq_false_iff_not] at *) <;> first | rfl | (simp [noMsg, Msg.cells]; done) | (simp_all [noMsg, Msg.cells]; done) | (simp [noMsg, Msg.cells]; omega) | (simp [noMsg, Msg.cells]; (rw [Bool.eq_iff_iff]); simp; omega) | (simp_all [noMsg, Msg.cells] <;> omega) | ((try unfold noMsg  Msg.cells); (rw [Value.bool.injEq, Bool.eq_iff_iff]); simp <;> omega) | ((try unfold noMsg  Msg.cells); (repeat' split) <;> simp_all <;> omega) | (simp_all [noMsg, Msg.cells] <;> (repeat' split) <;> simp_all <;> omega)))); (focus ((try simp only [noMsg, Msg.cells, cond_true, cond_false, set_same, *]); exact (by (repeat (first | exact Sub.refl _ | (refine Sub.drop ?_ ?_; focus (simp only [evN, *]; done)) | refine Sub.both ?_)); done))))
theorem hear28a {σ : Hp} {g b n cap i : Nat} {c : Cfg} {vt vh : Value} {m : Msg} {R : Bool → Hp → Prop} (hg : σ g = some (.cells (CliC c (.slice (some ⟨b, 0, none⟩) n cap) vt vh) 71)) (hi : i < n) (hm : m.kind = 2) (hs : m.session = i)
    (hop : ACalls Tryz.prog 61 #[.pointer (some ⟨b, i * 8, none⟩), .agg m.cells.toArray] σ fun u σ' => ∃ b, u = .bool b ∧ R b σ') :
    ACalls Tryz.prog 28 #[.pointer (some ⟨g, 0, none⟩), .agg m.cells.toArray] σ fun u σ' => ∃ b, u = .tuple #[.agg ({} : Msg).cells.toArray, .bool b] ∧ R b σ' := by
  have HO := Hid.mk hop
  have hb : decide ((i : Int) < (n : Int)) = true := by simp; omega
  have hk : decide (m.kind = 2) = true := by simp [hm]
  clear hop hm
  (unfold CliC at hg; obtain ⟨τ, rfl⟩ := open_upd hg; clear hg)
  (refine acalls_F ok28 (by simp) ?_; unfold c28 r28)
  (repeat' (first | (simp +contextual -dsimp only [*, CliC, Msg.cells, noMsg, noView, noTx, ↓reduceIte, ↓evP, evQ, splice, Nat.reduceAdd, Nat.reduceEqDiff, Nat.reduceLeDiff, Nat.reduceMul, reduceCtorEq, Int.reduceLT, Int.reduceLE, Int.reduceGT, Int.reduceGE, Int.reduceEq, Int.reduceNeg]) | (refine condF_split (fun hc => ?_) (fun hc => ?_) <;> (try simp only [Bool.not_eq_true', Bool.not_eq_false', Bool.and_eq_true, Bool.or_eq_false_iff] at hc)) | refine callF_v (has60 (c := c) (by first | rfl | (simp only [upd_same, upd_at, set_at, *, ↓reduceIte]; done) | (simp only [upd_same, upd_at, set_at, *, ↓reduceIte]; rfl)) _) ?_ | refine ccallF_of (has60 (c := c) (by first | rfl | (simp only [upd_same, upd_at, set_at, *, ↓reduceIte]; done) | (simp only [upd_same, upd_at, set_at, *, ↓reduceIte]; rfl)) _) ?_ | refine gcallF_of (has60 (c := c) (by first | rfl | (simp only [upd_same, upd_at, set_at, *, ↓reduceIte]; done) | (simp only [upd_same, upd_at, set_at, *, ↓reduceIte]; rfl)) _) ?_ | (intro _; intros) | (refine And.intro ?_ ?_; focus (first | omega | ((repeat (first | exact Sub.refl _ | (refine Sub.drop ?_ ?_; focus (simp only [evN, *]; done)) | refine Sub.both ?_)); done) | (simp_all; done) | (simp_all; omega)))))
  refine callF_of (ACalls.beside ?_ (ACalls.beside ?_ (by rw [← hs]; exact HO.out))) ?_
  · (simp only [evN, *]; done)
  · (simp only [evN, *]; done)
  rintro u σ'' ⟨_, ⟨σ1, ⟨b, rfl, hR⟩, n1, rfl⟩, n2, rfl⟩
  simp only [none_upd] at n2
  have HR := Hid.mk hR
  clear hR
  simp +contextual -dsimp only [*, CliC, Msg.cells, noMsg, noView, noTx, ↓reduceIte, ↓evP, evQ, splice, Nat.reduceAdd, Nat.reduceEqDiff, Nat.reduceLeDiff, Nat.reduceMul, reduceCtorEq, Int.reduceLT, Int.reduceLE, Int.reduceGT, Int.reduceGE, Int.reduceEq, Int.reduceNeg]
  exact endF_sub (τ := σ1) (by (repeat (first | exact Sub.refl _ | (refine Sub.drop ?_ ?_; focus (simp only [evN, *]; done)) | refine Sub.both ?_)); done) ⟨b, rfl, HR.out⟩
theorem hear28t {σ : Hp} {g b n cap i : Nat} {c : Cfg} {vs vh : Value} {m : Msg} {R : Msg → Bool → Hp → Prop} (hg : σ g = some (.cells (CliC c vs (.slice (some ⟨b, 0, none⟩) n cap) vh) 71)) (hi : i < n) (hm : m.kind ≠ 2) (hs : m.tx = i)
    (hop : ACalls Tryz.prog 62 #[.pointer (some ⟨b, i * 10, none⟩), .agg m.cells.toArray] σ (MsgB R)) :
    ACalls Tryz.prog 28 #[.pointer (some ⟨g, 0, none⟩), .agg m.cells.toArray] σ (MsgB R) := by
  have HO := Hid.mk hop
  have hb : decide ((i : Int) < (n : Int)) = true := by simp; omega
  have hk : decide (m.kind = 2) = false := by simp [hm]
  clear hop hm
  (unfold CliC at hg; obtain ⟨τ, rfl⟩ := open_upd hg; clear hg)
  (refine acalls_F ok28 (by simp) ?_; unfold c28 r28)
  (repeat' (first | (simp +contextual -dsimp only [*, CliC, Msg.cells, noMsg, noView, noTx, SesS.view, TxS.view, ↓reduceIte, ↓evP, evQ, splice, Nat.reduceAdd, Nat.reduceEqDiff, Nat.reduceLeDiff, Nat.reduceMul, reduceCtorEq, Int.reduceLT, Int.reduceLE, Int.reduceGT, Int.reduceGE, Int.reduceEq, Int.reduceNeg]) | (refine condF_split (fun hc => ?_) (fun hc => ?_) <;> (try simp only [Bool.not_eq_true', Bool.not_eq_false', Bool.and_eq_true, Bool.or_eq_false_iff] at hc)) | refine callF_v (runs52 (c := c) (by first | rfl | (simp only [upd_same, upd_at, set_at, *, ↓reduceIte]; done) | (simp only [upd_same, upd_at, set_at, *, ↓reduceIte]; rfl)) _) ?_ | refine ccallF_of (runs52 (c := c) (by first | rfl | (simp only [upd_same, upd_at, set_at, *, ↓reduceIte]; done) | (simp only [upd_same, upd_at, set_at, *, ↓reduceIte]; rfl)) _) ?_ | refine gcallF_of (runs52 (c := c) (by first | rfl | (simp only [upd_same, upd_at, set_at, *, ↓reduceIte]; done) | (simp only [upd_same, upd_at, set_at, *, ↓reduceIte]; rfl)) _) ?_ | (intro _; intros) | (refine And.intro ?_ ?_; focus (first | omega | ((repeat (first | exact Sub.refl _ | (refine Sub.drop ?_ ?_; focus (simp only [evN, *]; done)) | refine Sub.both ?_)); done) | (simp_all; done) | (simp_all; omega)))))
  refine callF_of (ACalls.beside ?_ (ACalls.beside ?_ (by rw [← hs]; exact HO.out))) ?_
  · (simp only [evN, *]; done)
  · (simp only [evN, *]; done)
  rintro u σ'' ⟨_, ⟨σ1, ⟨m', b, rfl, hw, hk, hR⟩, n1, rfl⟩, n2, rfl⟩
  simp only [none_upd] at n2
  have HR := Hid.mk hR
  clear hR
  simp +contextual -dsimp only [*, CliC, Msg.cells, noMsg, noView, noTx, SesS.view, TxS.view, ↓reduceIte, ↓evP, evQ, splice, Nat.reduceAdd, Nat.reduceEqDiff, Nat.reduceLeDiff, Nat.reduceMul, reduceCtorEq, Int.reduceLT, Int.reduceLE, Int.reduceGT, Int.reduceGE, Int.reduceEq, Int.reduceNeg]
  exact endF_sub (τ := σ1) (by (repeat (first | exact Sub.refl _ | (refine Sub.drop ?_ ?_; focus (simp only [evN, *]; done)) | refine Sub.both ?_)); done) ⟨m', b, rfl, hw, hk, HR.out⟩
theorem hear28ax {σ : Hp} {g n cap : Nat} {A : Option Addr} {c : Cfg} {vt vh : Value} {m : Msg} (hg : σ g = some (.cells (CliC c (.slice A n cap) vt vh) 71)) (hi : (decide (m.session ≥ 0) && decide (m.session < (n : Int))) = false) (hm : m.kind = 2) :
    ACalls Tryz.prog 28 #[.pointer (some ⟨g, 0, none⟩), .agg m.cells.toArray] σ fun u σ' => u = .tuple #[.agg noMsg.toArray, .bool false] ∧ σ' = σ := by
  have hk : decide (m.kind = 2) = true := by simp [hm]
  clear hm
  (unfold CliC at hg; obtain ⟨τ, rfl⟩ := open_upd hg; clear hg)
  (refine acalls_F ok28 (by simp) ?_; unfold c28 r28)
  (repeat' (first | (simp +contextual -dsimp only [*, CliC, Msg.cells, noMsg, noView, noTx, SesS.view, TxS.view, ↓reduceIte, ↓evP, evQ, splice, Nat.reduceAdd, Nat.reduceEqDiff, Nat.reduceLeDiff, Nat.reduceMul, reduceCtorEq, Int.reduceLT, Int.reduceLE, Int.reduceGT, Int.reduceGE, Int.reduceEq, Int.reduceNeg]) | (refine condF_split (fun hc => ?_) (fun hc => ?_) <;> (try simp only [Bool.not_eq_true', Bool.not_eq_false', Bool.and_eq_true, Bool.or_eq_false_iff] at hc)) | refine callF_v (has60 (c := c) (by first | rfl | (simp only [upd_same, upd_at, set_at, *, ↓reduceIte]; done) | (simp only [upd_same, upd_at, set_at, *, ↓reduceIte]; rfl)) _) ?_ | refine ccallF_of (has60 (c := c) (by first | rfl | (simp only [upd_same, upd_at, set_at, *, ↓reduceIte]; done) | (simp only [upd_same, upd_at, set_at, *, ↓reduceIte]; rfl)) _) ?_ | refine gcallF_of (has60 (c := c) (by first | rfl | (simp only [upd_same, upd_at, set_at, *, ↓reduceIte]; done) | (simp only [upd_same, upd_at, set_at, *, ↓reduceIte]; rfl)) _) ?_ | (intro _; intros) | (refine And.intro ?_ ?_; focus (first | omega | ((repeat (first | exact Sub.refl _ | (refine Sub.drop ?_ ?_; focus (simp only [evN, *]; done)) | refine Sub.both ?_)); done) | (simp_all; done) | (simp_all; omega)))))
  all_goals (refine endF_det ?_ ?_; (focus ((try simp only [noMsg, Msg.cells, cond_true, cond_false, *]) <;> ((try simp only [decide_eq_true_eq, decide_eq_false_iff_not] at *) <;> first | rfl | (simp [noMsg, Msg.cells]; done) | (simp_all [noMsg, Msg.cells]; done) | (simp [noMsg, Msg.cells]; omega) | (simp [noMsg, Msg.cells]; (rw [Bool.eq_iff_iff]); simp; omega) | (simp_all [noMsg, Msg.cells] <;> omega) | ((try unfold noMsg  Msg.cells); (rw [Value.bool.injEq, Bool.eq_iff_iff]); simp <;> omega) | ((try unfold noMsg  Msg.cells); (repeat' split) <;> simp_all <;> omega) | (simp_all [noMsg, Msg.cells] <;> (repeat' split) <;> simp_all <;> omega)))); (focus ((try simp only [noMsg, Msg.cells, cond_true, cond_false, set_same, *]); exact (by (repeat (first | exact Sub.refl _ | (refine Sub.drop ?_ ?_; focus (simp only [evN, *]; done)) | refine Sub.both ?_)); done))))
theorem hear28tx {σ : Hp} {g n cap : Nat} {A : Option Addr} {c : Cfg} {vs vh : Value} {m : Msg} (hg : σ g = some (.cells (CliC c vs (.slice A n cap) vh) 71)) (hi : (decide (m.tx ≥ 0) && decide (m.tx < (n : Int))) = false) (hm : m.kind ≠ 2) :
    ACalls Tryz.prog 28 #[.pointer (some ⟨g, 0, none⟩), .agg m.cells.toArray] σ fun u σ' => u = .tuple #[.agg noMsg.toArray, .bool false] ∧ σ' = σ := by
  have hk : decide (m.kind = 2) = false := by simp [hm]
  clear hm
  (unfold CliC at hg; obtain ⟨τ, rfl⟩ := open_upd hg; clear hg)
  (refine acalls_F ok28 (by simp) ?_; unfold c28 r28)
  (repeat' (first | (simp +contextual -dsimp only [*, CliC, Msg.cells, noMsg, noView, noTx, SesS.view, TxS.view, ↓reduceIte, ↓evP, evQ, splice, Nat.reduceAdd, Nat.reduceEqDiff, Nat.reduceLeDiff, Nat.reduceMul, reduceCtorEq, Int.reduceLT, Int.reduceLE, Int.reduceGT, Int.reduceGE, Int.reduceEq, Int.reduceNeg]) | (refine condF_split (fun hc => ?_) (fun hc => ?_) <;> (try simp only [Bool.not_eq_true', Bool.not_eq_false', Bool.and_eq_true, Bool.or_eq_false_iff] at hc)) | refine callF_v (runs52 (c := c) (by first | rfl | (simp only [upd_same, upd_at, set_at, *, ↓reduceIte]; done) | (simp only [upd_same, upd_at, set_at, *, ↓reduceIte]; rfl)) _) ?_ | refine ccallF_of (runs52 (c := c) (by first | rfl | (simp only [upd_same, upd_at, set_at, *, ↓reduceIte]; done) | (simp only [upd_same, upd_at, set_at, *, ↓reduceIte]; rfl)) _) ?_ | refine gcallF_of (runs52 (c := c) (by first | rfl | (simp only [upd_same, upd_at, set_at, *, ↓reduceIte]; done) | (simp only [upd_same, upd_at, set_at, *, ↓reduceIte]; rfl)) _) ?_ | (intro _; intros) | (refine And.intro ?_ ?_; focus (first | omega | ((repeat (first | exact Sub.refl _ | (refine Sub.drop ?_ ?_; focus (simp only [evN, *]; done)) | refine Sub.both ?_)); done) | (simp_all; done) | (simp_all; omega)))))
  all_goals (refine endF_det ?_ ?_; (focus ((try simp only [noMsg, Msg.cells, cond_true, cond_false, *]) <;> ((try simp only [decide_eq_true_eq, decide_eq_false_iff_not] at *) <;> first | rfl | (simp [noMsg, Msg.cells]; done) | (simp_all [noMsg, Msg.cells]; done) | (simp [noMsg, Msg.cells]; omega) | (simp [noMsg, Msg.cells]; (rw [Bool.eq_iff_iff]); simp; omega) | (simp_all [noMsg, Msg.cells] <;> omega) | ((try unfold noMsg  Msg.cells); (rw [Value.bool.injEq, Bool.eq_iff_iff]); simp <;> omega) | ((try unfold noMsg  Msg.cells); (repeat' split) <;> simp_all <;> omega) | (simp_all [noMsg, Msg.cells] <;> (repeat' split) <;> simp_all <;> omega)))); (focus ((try simp only [noMsg, Msg.cells, cond_true, cond_false, set_same, *]); exact (by (repeat (first | exact Sub.refl _ | (refine Sub.drop ?_ ?_; focus (simp only [evN, *]; done)) | refine Sub.both ?_)); done))))
theorem session31g {σ : Hp} {g b n cap i : Nat} {c : Cfg} {vt vh : Value} {S : SesS} (hg : σ g = some (.cells (CliC c (.slice (some ⟨b, 0, none⟩) n cap) vt vh) 71)) (hi : i < n) (hf : rdn σ b (i * 8 + 1) 6 = some S.view) (hgb : ¬ b = g) :
    ACalls Tryz.prog 31 #[.pointer (some ⟨g, 0, none⟩), .int .i64 i] σ fun u σ' => u = .tuple #[.agg S.view.toArray, .bool true] ∧ σ' = σ := by
  have hb : decide ((i : Int) < (n : Int)) = true := by simp; omega
  unfold CliC at hg
  obtain ⟨τ, rfl⟩ := open_upd hg
  clear hg
  rw [rdn_ne _ _ _ _ hgb] at hf
  unfold SesS.view at hf
  have hn : ∀ x, τ x = none → ¬ b = x := fun x hx => rdn_apart hf hx
  (refine acalls_F ok31 (by simp) ?_; unfold c31 r31)
  (repeat' (first | (simp +contextual -dsimp only [*, CliC, Msg.cells, noMsg, noView, noTx, SesS.view, TxS.view, ↓reduceIte, ↓evP, evQ, splice, Nat.reduceAdd, Nat.reduceEqDiff, Nat.reduceLeDiff, Nat.reduceMul, reduceCtorEq, Int.reduceLT, Int.reduceLE, Int.reduceGT, Int.reduceGE, Int.reduceEq, Int.reduceNeg]) | (refine condF_split (fun hc => ?_) (fun hc => ?_) <;> (try simp only [Bool.not_eq_true', Bool.not_eq_false', Bool.and_eq_true, Bool.or_eq_false_iff] at hc)) | refine callF_v (has60 (c := c) (by first | rfl | (simp only [upd_same, upd_at, set_at, *, ↓reduceIte]; done) | (simp only [upd_same, upd_at, set_at, *, ↓reduceIte]; rfl)) _) ?_ | refine ccallF_of (has60 (c := c) (by first | rfl | (simp only [upd_same, upd_at, set_at, *, ↓reduceIte]; done) | (simp only [upd_same, upd_at, set_at, *, ↓reduceIte]; rfl)) _) ?_ | refine gcallF_of (has60 (c := c) (by first | rfl | (simp only [upd_same, upd_at, set_at, *, ↓reduceIte]; done) | (simp only [upd_same, upd_at, set_at, *, ↓reduceIte]; rfl)) _) ?_ | (intro _; intros) | (refine And.intro ?_ ?_; focus (first | omega | ((repeat (first | exact Sub.refl _ | (refine Sub.drop ?_ ?_; focus (simp only [evN, *]; done)) | refine Sub.both ?_)); done) | (simp_all; done) | (simp_all; omega)))))
  all_goals (refine endF_det ?_ ?_; (focus ((try simp only [SesS.view, cond_true, cond_false, *]) <;> ((try simp only [decide_eq_true_eq, decide_eq_false_iff_not] at *) <;> first | rfl | (simp [SesS.view]; done) | (simp_all [SesS.view]; done) | (simp [SesS.view]; omega) | (simp [SesS.view]; (rw [Bool.eq_iff_iff]); simp; omega) | (simp_all [SesS.view] <;> omega) | ((try unfold SesS.view); (rw [Value.bool.injEq, Bool.eq_iff_iff]); simp <;> omega) | ((try unfold SesS.view); (repeat' split) <;> simp_all <;> omega) | (simp_all [SesS.view] <;> (repeat' split) <;> simp_all <;> omega)))); (focus ((try simp only [SesS.view, cond_true, cond_false, set_same, *]); exact (by (repeat (first | exact Sub.refl _ | (refine Sub.drop ?_ ?_; focus (simp only [evN, *]; done)) | refine Sub.both ?_)); done))))
theorem session31x {σ : Hp} {g n cap : Nat} {A : Option Addr} {i : Int} {c : Cfg} {vt vh : Value} (hg : σ g = some (.cells (CliC c (.slice A n cap) vt vh) 71)) (hi : (decide (i ≥ 0) && decide (i < (n : Int))) = false) : ACalls Tryz.prog 31 #[.pointer (some ⟨g, 0, none⟩), .int .i64 i] σ fun u σ' => u = .tuple #[.agg noView.toArray, .bool false] ∧ σ' = σ := by
  (unfold CliC at hg; obtain ⟨τ, rfl⟩ := open_upd hg; clear hg)
  (refine acalls_F ok31 (by simp) ?_; unfold c31 r31)
  (repeat' (first | (simp +contextual -dsimp only [*, CliC, Msg.cells, noMsg, noView, noTx, SesS.view, TxS.view, ↓reduceIte, ↓evP, evQ, splice, Nat.reduceAdd, Nat.reduceEqDiff, Nat.reduceLeDiff, Nat.reduceMul, reduceCtorEq, Int.reduceLT, Int.reduceLE, Int.reduceGT, Int.reduceGE, Int.reduceEq, Int.reduceNeg]) | (refine condF_split (fun hc => ?_) (fun hc => ?_) <;> (try simp only [Bool.not_eq_true', Bool.not_eq_false', Bool.and_eq_true, Bool.or_eq_false_iff] at hc)) | refine callF_v (has60 (c := c) (by first | rfl | (simp only [upd_same, upd_at, set_at, *, ↓reduceIte]; done) | (simp only [upd_same, upd_at, set_at, *, ↓reduceIte]; rfl)) _) ?_ | refine ccallF_of (has60 (c := c) (by first | rfl | (simp only [upd_same, upd_at, set_at, *, ↓reduceIte]; done) | (simp only [upd_same, upd_at, set_at, *, ↓reduceIte]; rfl)) _) ?_ | refine gcallF_of (has60 (c := c) (by first | rfl | (simp only [upd_same, upd_at, set_at, *, ↓reduceIte]; done) | (simp only [upd_same, upd_at, set_at, *, ↓reduceIte]; rfl)) _) ?_ | (intro _; intros) | (refine And.intro ?_ ?_; focus (first | omega | ((repeat (first | exact Sub.refl _ | (refine Sub.drop ?_ ?_; focus (simp only [evN, *]; done)) | refine Sub.both ?_)); done) | (simp_all; done) | (simp_all; omega)))))
  all_goals (refine endF_det ?_ ?_; (focus ((try simp only [noView, cond_true, cond_false, *]) <;> ((try simp only [decide_eq_true_eq, decide_eq_false_iff_not] at *) <;> first | rfl | (simp [noView]; done) | (simp_all [noView]; done) | (simp [noView]; omega) | (simp [noView]; (rw [Bool.eq_iff_iff]); simp; omega) | (simp_all [noView] <;> omega) | ((try unfold noView); (rw [Value.bool.injEq, Bool.eq_iff_iff]); simp <;> omega) | ((try unfold noView); (repeat' split) <;> simp_all <;> omega) | (simp_all [noView] <;> (repeat' split) <;> simp_all <;> omega)))); (focus ((try simp only [noView, cond_true, cond_false, set_same, *]); exact (by (repeat (first | exact Sub.refl _ | (refine Sub.drop ?_ ?_; focus (simp only [evN, *]; done)) | refine Sub.both ?_)); done))))
theorem tx33r {σ : Hp} {g b n cap i : Nat} {c : Cfg} {vs vh : Value} {T : TxS} {v : Value} (hg : σ g = some (.cells (CliC c vs (.slice (some ⟨b, 0, none⟩) n cap) vh) 71)) (hi : i < n) (hf : rdn σ b (i * 10 + 2) 8 = some (T.view v)) (hv : one v = true) (hgb : ¬ b = g) :
    ACalls Tryz.prog 33 #[.pointer (some ⟨g, 0, none⟩), .int .i64 i] σ fun u σ' => u = .tuple #[.agg (T.view v).toArray, .bool true] ∧ σ' = σ := by
  have hb : decide ((i : Int) < (n : Int)) = true := by simp; omega
  unfold CliC at hg
  obtain ⟨τ, rfl⟩ := open_upd hg
  clear hg
  rw [rdn_ne _ _ _ _ hgb] at hf
  unfold TxS.view at hf
  have hn : ∀ x, τ x = none → ¬ b = x := fun x hx => rdn_apart hf hx
  (refine acalls_F ok33 (by simp) ?_; unfold c33 r33)
  (repeat' (first | (simp +contextual -dsimp only [*, CliC, Msg.cells, noMsg, noView, noTx, SesS.view, TxS.view, ↓reduceIte, ↓evP, evQ, splice, Nat.reduceAdd, Nat.reduceEqDiff, Nat.reduceLeDiff, Nat.reduceMul, reduceCtorEq, Int.reduceLT, Int.reduceLE, Int.reduceGT, Int.reduceGE, Int.reduceEq, Int.reduceNeg]) | (refine condF_split (fun hc => ?_) (fun hc => ?_) <;> (try simp only [Bool.not_eq_true', Bool.not_eq_false', Bool.and_eq_true, Bool.or_eq_false_iff] at hc)) | refine callF_v (runs52 (c := c) (by first | rfl | (simp only [upd_same, upd_at, set_at, *, ↓reduceIte]; done) | (simp only [upd_same, upd_at, set_at, *, ↓reduceIte]; rfl)) _) ?_ | refine ccallF_of (runs52 (c := c) (by first | rfl | (simp only [upd_same, upd_at, set_at, *, ↓reduceIte]; done) | (simp only [upd_same, upd_at, set_at, *, ↓reduceIte]; rfl)) _) ?_ | refine gcallF_of (runs52 (c := c) (by first | rfl | (simp only [upd_same, upd_at, set_at, *, ↓reduceIte]; done) | (simp only [upd_same, upd_at, set_at, *, ↓reduceIte]; rfl)) _) ?_ | (intro _; intros) | (refine And.intro ?_ ?_; focus (first | omega | ((repeat (first | exact Sub.refl _ | (refine Sub.drop ?_ ?_; focus (simp only [evN, *]; done)) | refine Sub.both ?_)); done) | (simp_all; done) | (simp_all; omega)))))
  all_goals (refine endF_det ?_ ?_; (focus ((try simp only [TxS.view, cond_true, cond_false, *]) <;> ((try simp only [decide_eq_true_eq, decide_eq_false_iff_not] at *) <;> first | rfl | (simp [TxS.view]; done) | (simp_all [TxS.view]; done) | (simp [TxS.view]; omega) | (simp [TxS.view]; (rw [Bool.eq_iff_iff]); simp; omega) | (simp_all [TxS.view] <;> omega) | ((try unfold TxS.view); (rw [Value.bool.injEq, Bool.eq_iff_iff]); simp <;> omega) | ((try unfold TxS.view); (repeat' split) <;> simp_all <;> omega) | (simp_all [TxS.view] <;> (repeat' split) <;> simp_all <;> omega)))); (focus ((try simp only [TxS.view, cond_true, cond_false, set_same, *]); exact (by (repeat (first | exact Sub.refl _ | (refine Sub.drop ?_ ?_; focus (simp only [evN, *]; done)) | refine Sub.both ?_)); done))))
theorem tx33rx {σ : Hp} {g n cap : Nat} {A : Option Addr} {i : Int} {c : Cfg} {vs vh : Value} (hg : σ g = some (.cells (CliC c vs (.slice A n cap) vh) 71)) (hi : (decide (i ≥ 0) && decide (i < (n : Int))) = false) : ACalls Tryz.prog 33 #[.pointer (some ⟨g, 0, none⟩), .int .i64 i] σ fun u σ' => u = .tuple #[.agg noTx.toArray, .bool false] ∧ σ' = σ := by
  (unfold CliC at hg; obtain ⟨τ, rfl⟩ := open_upd hg; clear hg)
  (refine acalls_F ok33 (by simp) ?_; unfold c33 r33)
  (repeat' (first | (simp +contextual -dsimp only [*, CliC, Msg.cells, noMsg, noView, noTx, SesS.view, TxS.view, ↓reduceIte, ↓evP, evQ, splice, Nat.reduceAdd, Nat.reduceEqDiff, Nat.reduceLeDiff, Nat.reduceMul, reduceCtorEq, Int.reduceLT, Int.reduceLE, Int.reduceGT, Int.reduceGE, Int.reduceEq, Int.reduceNeg]) | (refine condF_split (fun hc => ?_) (fun hc => ?_) <;> (try simp only [Bool.not_eq_true', Bool.not_eq_false', Bool.and_eq_true, Bool.or_eq_false_iff] at hc)) | refine callF_v (runs52 (c := c) (by first | rfl | (simp only [upd_same, upd_at, set_at, *, ↓reduceIte]; done) | (simp only [upd_same, upd_at, set_at, *, ↓reduceIte]; rfl)) _) ?_ | refine ccallF_of (runs52 (c := c) (by first | rfl | (simp only [upd_same, upd_at, set_at, *, ↓reduceIte]; done) | (simp only [upd_same, upd_at, set_at, *, ↓reduceIte]; rfl)) _) ?_ | refine gcallF_of (runs52 (c := c) (by first | rfl | (simp only [upd_same, upd_at, set_at, *, ↓reduceIte]; done) | (simp only [upd_same, upd_at, set_at, *, ↓reduceIte]; rfl)) _) ?_ | (intro _; intros) | (refine And.intro ?_ ?_; focus (first | omega | ((repeat (first | exact Sub.refl _ | (refine Sub.drop ?_ ?_; focus (simp only [evN, *]; done)) | refine Sub.both ?_)); done) | (simp_all; done) | (simp_all; omega)))))
  all_goals (refine endF_det ?_ ?_; (focus ((try simp only [noTx, cond_true, cond_false, *]) <;> ((try simp only [decide_eq_true_eq, decide_eq_false_iff_not] at *) <;> first | rfl | (simp [noTx]; done) | (simp_all [noTx]; done) | (simp [noTx]; omega) | (simp [noTx]; (rw [Bool.eq_iff_iff]); simp; omega) | (simp_all [noTx] <;> omega) | ((try unfold noTx); (rw [Value.bool.injEq, Bool.eq_iff_iff]); simp <;> omega) | ((try unfold noTx); (repeat' split) <;> simp_all <;> omega) | (simp_all [noTx] <;> (repeat' split) <;> simp_all <;> omega)))); (focus ((try simp only [noTx, cond_true, cond_false, set_same, *]); exact (by (repeat (first | exact Sub.refl _ | (refine Sub.drop ?_ ?_; focus (simp only [evN, *]; done)) | refine Sub.both ?_)); done))))
theorem finish27x {σ : Hp} {g n cap : Nat} {A : Option Addr} {i : Int} {c : Cfg} {vs vh : Value} (hg : σ g = some (.cells (CliC c vs (.slice A n cap) vh) 71)) (hi : (decide (i ≥ 0) && decide (i < (n : Int))) = false) : ACalls Tryz.prog 27 #[.pointer (some ⟨g, 0, none⟩), .int .i64 i] σ fun u σ' => u = .tuple #[.int .i64 0, .int .i64 3] ∧ σ' = σ := by
  (unfold CliC at hg; obtain ⟨τ, rfl⟩ := open_upd hg; clear hg)
  (refine acalls_F ok27 (by simp) ?_; unfold c27 r27)
  (repeat' (first | (simp +contextual -dsimp only [*, CliC, Msg.cells, noMsg, noView, noTx, SesS.view, TxS.view, ↓reduceIte, ↓evP, evQ, splice, Nat.reduceAdd, Nat.reduceEqDiff, Nat.reduceLeDiff, Nat.reduceMul, reduceCtorEq, Int.reduceLT, Int.reduceLE, Int.reduceGT, Int.reduceGE, Int.reduceEq, Int.reduceNeg]) | (refine condF_split (fun hc => ?_) (fun hc => ?_) <;> (try simp only [Bool.not_eq_true', Bool.not_eq_false', Bool.and_eq_true, Bool.or_eq_false_iff] at hc)) | refine callF_v (runs52 (c := c) (by first | rfl | (simp only [upd_same, upd_at, set_at, *, ↓reduceIte]; done) | (simp only [upd_same, upd_at, set_at, *, ↓reduceIte]; rfl)) _) ?_ | refine ccallF_of (runs52 (c := c) (by first | rfl | (simp only [upd_same, upd_at, set_at, *, ↓reduceIte]; done) | (simp only [upd_same, upd_at, set_at, *, ↓reduceIte]; rfl)) _) ?_ | refine gcallF_of (runs52 (c := c) (by first | rfl | (simp only [upd_same, upd_at, set_at, *, ↓reduceIte]; done) | (simp only [upd_same, upd_at, set_at, *, ↓reduceIte]; rfl)) _) ?_ | (intro _; intros) | (refine And.intro ?_ ?_; focus (first | omega | ((repeat (first | exact Sub.refl _ | (refine Sub.drop ?_ ?_; focus (simp only [evN, *]; done)) | refine Sub.both ?_)); done) | (simp_all; done) | (simp_all; omega)))))
  all_goals (refine endF_det ?_ ?_; (focus ((try simp only [cond_true, cond_false, *]) <;> ((try simp only [decide_eq_true_eq, decide_eq_false_iff_not] at *) <;> first | rfl | (simp []; done) | (simp_all []; done) | (simp []; omega) | (simp []; (rw [Bool.eq_iff_iff]); simp; omega) | (simp_all [] <;> omega) | ((try unfold id); (rw [Value.bool.injEq, Bool.eq_iff_iff]); simp <;> omega) | ((try unfold id); (repeat' split) <;> simp_all <;> omega) | (simp_all [] <;> (repeat' split) <;> simp_all <;> omega)))); (focus ((try simp only [cond_true, cond_false, set_same, *]); exact (by (repeat (first | exact Sub.refl _ | (refine Sub.drop ?_ ?_; focus (simp only [evN, *]; done)) | refine Sub.both ?_)); done))))
theorem open_4 {σ : Hp} {a b c d : Nat} {A B C D : Blk} (ha : σ a = some A) (hb : σ b = some B) (hc : σ c = some C) (hd : σ d = some D) : ∃ τ, σ = upd (upd (upd (upd τ d D) c C) b B) a A := ⟨σ, by rw [upd_self hd, upd_self hc, upd_self hb, upd_self ha]⟩
theorem row_ne {σ : Hp} {a b : Nat} {A B : List Value} {r r' : Nat} {t u : TypeId} (ha : σ a = some (.row A r t)) (hb : σ b = some (.row B r' u)) (h : t ≠ u) : ¬ a = b := fun e => by
  subst e; rw [ha] at hb; exact h (Blk.row.inj (Option.some.inj hb)).2.2
theorem crow_ne {σ : Hp} {a b : Nat} {A B : List Value} {r : Nat} {t u : TypeId} (ha : σ a = some (.cells A t)) (hb : σ b = some (.row B r u)) : ¬ a = b := fun e => by
  subst e; rw [ha] at hb; cases hb
theorem finish27g {σ : Hp} {g bs ns cs bt nt ct bh nh ch i k wn wn2 hr : Nat} {c : Cfg} {T : TxS} {S : SesS} {v w : Value} {A B A2 B2 hcs : List Value}
    (hg : σ g = some (.cells (CliC c (.slice (some ⟨bs, 0, none⟩) ns cs) (.slice (some ⟨bt, 0, none⟩) nt ct) (.slice (some ⟨bh, 0, none⟩) nh ch)) 71)) (hi : i < nt) (hi2 : i < nh) (hk : k < ns)
    (ht : σ bt = some (.row (win A (T.cells v) B) wn 112)) (hA : A.length = i * 10) (hh : σ bh = some (.row hcs hr 3)) (hh2 : hcs[i * 1]? = some (.int .i64 k)) (hs : σ bs = some (.row (win A2 (S.cells w) B2) wn2 118)) (hA2 : A2.length = k * 8) :
    ACalls Tryz.prog 27 #[.pointer (some ⟨g, 0, none⟩), .int .i64 i] σ fun u σ' => u = .tuple #[.int .i64 T.finish.2.1, .int .i64 T.finish.2.2] ∧
      σ' = cond (decide (T.finish.2.2 = 0)) (set (set σ bt (.row (win A (T.finish.1.cells v) B) wn 112)) bs (.row (win A2 ((S.raise T.finish.2.1).cells w) B2) wn2 118)) (set σ bt (.row (win A (T.finish.1.cells v) B) wn 112)) := by
  have hb : decide ((i : Int) < (nt : Int)) = true := by simp; omega
  have e1 := crow_ne hg ht
  have e2 := crow_ne hg hs
  have e3 := crow_ne hg hh
  have e4 := row_ne ht hs (by decide)
  have e5 := row_ne ht hh (by decide)
  have e6 := row_ne hs hh (by decide)
  have f1 : ¬ bt = g := fun e => e1 e.symm
  have f2 : ¬ bs = g := fun e => e2 e.symm
  have f3 : ¬ bh = g := fun e => e3 e.symm
  have f4 : ¬ bs = bt := fun e => e4 e.symm
  have f5 : ¬ bh = bt := fun e => e5 e.symm
  have f6 : ¬ bh = bs := fun e => e6 e.symm
  unfold CliC at hg
  have q1 := Hid.mk (finish32w ht)
  rw [hA] at q1
  have q2 : Hid (∀ σ', σ' bs = some (.row (win A2 (S.cells w) B2) wn2 118) → ACalls Tryz.prog 59 #[.pointer (some ⟨bs, k * 8, none⟩), .int .i64 T.finish.2.1] σ' fun u σ'' => u = .tuple #[] ∧ σ'' = set σ' bs (.row (win A2 ((S.raise T.finish.2.1).cells w) B2) wn2 118)) :=
    ⟨fun σ' h => by rw [← hA2]; exact raise56w h _⟩
  obtain ⟨τ, rfl⟩ := open_4 hg ht hs hh
  clear hg ht hs hh
  (refine acalls_F ok27 (by simp) ?_; unfold c27 r27)
  (repeat' (first | (simp +contextual -dsimp only [*, CliC, Msg.cells, noMsg, noView, noTx, SesS.view, TxS.view, ↓reduceIte, ↓evP, evQ, splice, Nat.reduceAdd, Nat.reduceEqDiff, Nat.reduceLeDiff, Nat.reduceMul, reduceCtorEq, Int.reduceLT, Int.reduceLE, Int.reduceGT, Int.reduceGE, Int.reduceEq, Int.reduceNeg]) | (refine condF_split (fun hc => ?_) (fun hc => ?_) <;> (try simp only [Bool.not_eq_true', Bool.not_eq_false', Bool.and_eq_true, Bool.or_eq_false_iff] at hc)) | refine callF_v (runs52 (c := c) (by first | rfl | (simp only [upd_same, upd_at, set_at, *, ↓reduceIte]; done) | (simp only [upd_same, upd_at, set_at, *, ↓reduceIte]; rfl)) _) ?_ | refine callF_v (q1.out) ?_ | refine callF_v (q2.out _ (by first | rfl | (simp only [upd_same, upd_at, set_at, *, ↓reduceIte]; done) | (simp only [upd_same, upd_at, set_at, *, ↓reduceIte]; rfl))) ?_ | refine ccallF_of (runs52 (c := c) (by first | rfl | (simp only [upd_same, upd_at, set_at, *, ↓reduceIte]; done) | (simp only [upd_same, upd_at, set_at, *, ↓reduceIte]; rfl)) _) ?_ | refine ccallF_of (q1.out) ?_ | refine ccallF_of (q2.out _ (by first | rfl | (simp only [upd_same, upd_at, set_at, *, ↓reduceIte]; done) | (simp only [upd_same, upd_at, set_at, *, ↓reduceIte]; rfl))) ?_ | refine gcallF_of (runs52 (c := c) (by first | rfl | (simp only [upd_same, upd_at, set_at, *, ↓reduceIte]; done) | (simp only [upd_same, upd_at, set_at, *, ↓reduceIte]; rfl)) _) ?_ | refine gcallF_of (q1.out) ?_ | refine gcallF_of (q2.out _ (by first | rfl | (simp only [upd_same, upd_at, set_at, *, ↓reduceIte]; done) | (simp only [upd_same, upd_at, set_at, *, ↓reduceIte]; rfl))) ?_ | (intro _; intros) | (refine And.intro ?_ ?_; focus (first | omega | ((repeat (first | exact Sub.refl _ | (refine Sub.drop ?_ ?_; focus (simp only [evN, *]; done)) | refine Sub.both ?_)); done) | (simp_all; done) | (simp_all; omega)))))
  all_goals (refine endF_det rfl ?_; simp only [cond_true, cond_false, *, set_same, set_ne, ↓reduceIte, not_false_eq_true]; exact (by (repeat (first | exact Sub.refl _ | (refine Sub.drop ?_ ?_; focus (simp only [evN, *]; done)) | refine Sub.both ?_)); done))
structure RS where
  S : SesS
  v : Value
  ws : List Wr
structure RT where
  T : TxS
  v : Value
  k : Nat
structure RL where
  g : Nat
  c : Cfg
  vs : Value
  vt : Value
  vh : Value
  ss : List RS
  ts : List RT
def sC (s : RS) : List Value := s.S.cells s.v
def tC (t : RT) : List Value := t.T.cells t.v
theorem sC_len (s : RS) : (sC s).length = 8 := rfl
theorem tC_len (t : RT) : (tC t).length = 10 := rfl
def RL.own (R : RL) (k : Nat) : Prop := k = R.g ∨ blk R.vs = some k ∨ blk R.vt = some k ∨ blk R.vh = some k
/-- What is only read, and may be another's too. -/
def RL.use (R : RL) (k : Nat) : Prop := (∃ s ∈ R.ss, blk s.v = some k) ∨ ∃ t ∈ R.ts, blk t.v = some k
structure RefAt (σ : Hp) (R : RL) : Prop where
  cli : σ R.g = some (.cells (CliC R.c R.vs R.vt R.vh) 71)
  vs : RowsAt 118 8 sC σ R.vs R.ss
  vt : RowsAt 112 10 tC σ R.vt R.ts
  vh : RowsAt 3 1 iC σ R.vh (R.ts.map fun t => (t.k : Int))
  ses : ∀ (i : Nat) s, R.ss[i]? = some s → RowsAt 52 3 Wr.cells σ s.v s.ws
  tx : ∀ (i : Nat) t, R.ts[i]? = some t → RowsAt 128 3 Got.cells σ t.v t.T.reads
  home : ∀ (i : Nat) t, R.ts[i]? = some t → t.k < R.ss.length
def RMoved (σ : Hp) (R : RL) (σ' : Hp) (R' : RL) : Prop := RefAt σ' R' ∧ Same R.own σ σ' ∧ (∀ k, R'.own k → R.own k ∨ σ k = none) ∧ ∀ k, R'.use k → R.use k ∨ R.own k ∨ σ k = none
theorem row_win {α : Type} {E sz : Nat} {f : α → List Value} {σ : Hp} {v : Value} {l : List α} {i : Nat} {x : α} (hf : ∀ x, (f x).length = sz) (h : RowsAt E sz f σ v l) (hx : l[i]? = some x) :
    ∃ b c A B, v = .slice (some ⟨b, 0, none⟩) l.length c ∧ l.length ≤ c ∧ σ b = some (.row (win A (f x) B) (c * sz) E) ∧ A.length = i * sz ∧ ∀ y, win A (f y) B = (l.set i y).flatMap f := by
  obtain ⟨hi, hx'⟩ := List.getElem?_eq_some_iff.1 hx
  rcases h with ⟨rfl, rfl⟩ | ⟨b, c, rfl, hc, hb⟩
  · cases hx
  · have hl : l = l.take i ++ x :: l.drop (i + 1) := by rw [← hx', ← List.drop_eq_getElem_cons hi, List.take_append_drop]
    have key : ∀ y, win ((l.take i).flatMap f) (f y) ((l.drop (i + 1)).flatMap f) = (l.set i y).flatMap f := fun y => by
      unfold win
      rw [List.set_eq_take_append_cons_drop, if_pos hi, List.flatMap_append, List.flatMap_cons, List.append_assoc]
    refine ⟨b, c, (l.take i).flatMap f, (l.drop (i + 1)).flatMap f, rfl, hc, ?_, ?_, key⟩
    · rw [key, ← hx', List.set_getElem_self]; exact hb
    · rw [flat_len hf, List.length_take, Nat.min_eq_left (by omega)]
theorem RefAt.known {σ : Hp} {R : RL} (h : RefAt σ R) {k : Nat} (hk : R.own k) : σ k ≠ none := by
  rcases hk with e | e | e | e
  · rw [e, h.cli]; simp
  · exact h.vs.known e
  · exact h.vt.known e
  · exact h.vh.known e
theorem RefAt.known2 {σ : Hp} {R : RL} (h : RefAt σ R) {k : Nat} (hk : R.use k) : σ k ≠ none := by
  rcases hk with ⟨x, hx, e⟩ | ⟨x, hx, e⟩
  · obtain ⟨i, hi⟩ := List.getElem?_of_mem hx
    exact (h.ses i x hi).known e
  · obtain ⟨i, hi⟩ := List.getElem?_of_mem hx
    exact (h.tx i x hi).known e
theorem RefAt.keep {σ σ' : Hp} {R : RL} {F : Nat → Prop} (h : RefAt σ R) (hs : Same F σ σ') (hF : ∀ k, R.own k → ¬ F k) (hU : ∀ k, R.use k → ¬ F k) : RefAt σ' R := by
  refine ⟨?_, h.vs.sameF hs fun k hk => hF k (.inr (.inl hk)), h.vt.sameF hs fun k hk => hF k (.inr (.inr (.inl hk))), h.vh.sameF hs fun k hk => hF k (.inr (.inr (.inr hk))), fun i s hi => ?_, fun i t hi => ?_, h.home⟩
  · rw [hs _ (by rw [h.cli]; simp) (hF _ (.inl rfl))]; exact h.cli
  · exact (h.ses i s hi).sameF hs fun k hk => hU k (.inl ⟨s, List.mem_of_getElem? hi, hk⟩)
  · exact (h.tx i t hi).sameF hs fun k hk => hU k (.inr ⟨t, List.mem_of_getElem? hi, hk⟩)
theorem RefAt.fresh {σ : Hp} {R : RL} (h : RefAt σ R) {b : Nat} (hb : σ b = none) (X : Blk) : RefAt (upd σ b X) R := h.keep (F := fun _ => False) (Same.updNew hb (Same.refl _ _)) (fun _ _ x => x) fun _ _ x => x
theorem RMoved.refl {σ : Hp} {R : RL} (h : RefAt σ R) : RMoved σ R σ R := ⟨h, Same.refl _ _, fun k hk => .inl hk, fun k hk => .inl hk⟩
theorem RMoved.trans {σ σ1 σ2 : Hp} {C C1 C2 : RL} (h : RMoved σ C σ1 C1) (k : RMoved σ1 C1 σ2 C2) : RMoved σ C σ2 C2 := by
  have back : ∀ i, σ1 i = none → C.own i ∨ σ i = none := fun i e => by
    by_cases e0 : σ i = none
    · exact .inr e0
    · by_cases e1 : C.own i
      · exact .inl e1
      · exact absurd ((h.2.1 i e0 e1).symm.trans e) e0
  refine ⟨k.1, h.2.1.trans k.2.1 fun i hi hG => (h.2.2.1 i hG).elim id fun e => absurd e hi, fun i hi => ?_, fun i hi => ?_⟩
  · rcases k.2.2.1 i hi with e | e
    · exact h.2.2.1 i e
    · exact back i e
  · rcases k.2.2.2 i hi with e | e | e
    · exact h.2.2.2 i e
    · exact .inr (h.2.2.1 i e)
    · exact .inr (back i e)
theorem RMoved.sub {σ σ' σ0 : Hp} {C C' : RL} (h : RMoved σ C σ' C') (hs : Sub σ0 σ) (hn : ∀ k, C.own k → σ0 k = none) : Sub σ0 σ' ∧ ∀ k, C'.own k → σ0 k = none :=
  ⟨hs.same h.2.1 hn, fun k hk => (h.2.2.1 k hk).elim (hn k) fun e => hs.noneAt e⟩
/-- One session has turned. -/
def RL.ses (R : RL) (i : Nat) (S' : SesS) (v' : Value) (ws' : List Wr) : RL := { R with ss := R.ss.set i ⟨S', v', ws'⟩ }
theorem rses_moved {σ σ' : Hp} {R : RL} {i b c : Nat} {s : RS} {A B : List Value} {S' : SesS} {v' : Value} {ws' : List Wr} (h : RefAt σ R) (hi : R.ss[i]? = some s) (hv : R.vs = .slice (some ⟨b, 0, none⟩) R.ss.length c) (hc : R.ss.length ≤ c)
    (hb : σ b = some (.row (win A (sC s) B) (c * 8) 118)) (hw : ∀ y, win A (sC y) B = (R.ss.set i y).flatMap sC) (hs : Same (fun k => k = b) σ σ') (hg : σ' b = some (.row (win A (S'.cells v') B) (c * 8) 118)) (hr : RowsAt 52 3 Wr.cells σ' v' ws')
    (hn : ∀ k, blk v' = some k → blk s.v = some k ∨ σ k = none) : RMoved σ R σ' (R.ses i S' v' ws') := by
  have one : ∀ k, σ k ≠ none → k ≠ b → σ' k = σ k := fun k h1 h2 => hs k h1 h2
  refine ⟨⟨?_, ?_, ?_, ?_, ?_, ?_, ?_⟩, ?_, ?_⟩
  · show σ' R.g = _
    rw [one R.g (by rw [h.cli]; simp) (crow_ne h.cli hb)]; exact h.cli
  · show RowsAt _ _ _ _ R.vs (R.ss.set i _)
    rw [hv]
    exact rows_mk (by rw [List.length_set]) hc (by rw [hg, ← hw]; rfl)
  · exact h.vt.sameF hs fun k hk e => h.vt.notRow hb (by decide) (by rw [hk, e])
  · exact h.vh.sameF hs fun k hk e => h.vh.notRow hb (by decide) (by rw [hk, e])
  · intro j x hx
    rcases get_set hx with ⟨rfl, rfl, _⟩ | ⟨hne, hx⟩
    · exact hr
    · have q := h.ses j x hx
      exact q.sameF hs fun k hk e => q.notRow hb (by decide) (by rw [hk, e])
  · intro j t ht
    have q := h.tx j t ht
    exact q.sameF hs fun k hk e => q.notRow hb (by decide) (by rw [hk, e])
  · intro j t ht
    show t.k < (R.ss.set i _).length
    rw [List.length_set]; exact h.home j t ht
  · exact fun k hk hf => one k hk fun e => hf (.inr (.inl (by rw [hv, e]; rfl)))
  · refine ⟨fun k hk => .inl hk, ?_⟩
    rintro k (⟨x, hx, e⟩ | e)
    · rcases List.mem_or_eq_of_mem_set hx with hx | rfl
      · exact .inl (.inl ⟨x, hx, e⟩)
      · rcases hn k e with e | e
        · exact .inl (.inl ⟨s, List.mem_of_getElem? hi, e⟩)
        · exact .inr (.inr e)
    · exact .inl (.inr e)
/-- One transaction has turned. -/
def RL.tx (R : RL) (i : Nat) (t : RT) (T' : TxS) (v' : Value) : RL := { R with ts := R.ts.set i ⟨T', v', t.k⟩ }
theorem rtx_moved {σ σ' : Hp} {R : RL} {i b c : Nat} {t : RT} {A B : List Value} {T' : TxS} {v' : Value} (h : RefAt σ R) (hi : R.ts[i]? = some t) (hv : R.vt = .slice (some ⟨b, 0, none⟩) R.ts.length c) (hc : R.ts.length ≤ c)
    (hb : σ b = some (.row (win A (tC t) B) (c * 10) 112)) (hw : ∀ y, win A (tC y) B = (R.ts.set i y).flatMap tC) (hs : Same (fun k => k = b) σ σ') (hg : σ' b = some (.row (win A (T'.cells v') B) (c * 10) 112)) (hr : RowsAt 128 3 Got.cells σ' v' T'.reads)
    (hn : ∀ k, blk v' = some k → blk t.v = some k ∨ σ k = none) : RMoved σ R σ' (R.tx i t T' v') := by
  have one : ∀ k, σ k ≠ none → k ≠ b → σ' k = σ k := fun k h1 h2 => hs k h1 h2
  refine ⟨⟨?_, ?_, ?_, ?_, ?_, ?_, ?_⟩, ?_, ?_⟩
  · show σ' R.g = _
    rw [one R.g (by rw [h.cli]; simp) (crow_ne h.cli hb)]; exact h.cli
  · exact h.vs.sameF hs fun k hk e => h.vs.notRow hb (by decide) (by rw [hk, e])
  · show RowsAt _ _ _ _ R.vt (R.ts.set i _)
    rw [hv]
    exact rows_mk (by rw [List.length_set]) hc (by rw [hg, ← hw]; rfl)
  · show RowsAt _ _ _ _ R.vh ((R.ts.set i _).map _)
    rw [show ∀ y : RT, (y.k : Int) = t.k → (R.ts.set i y).map (fun t => (t.k : Int)) = R.ts.map (fun t => (t.k : Int)) from fun y hy => map_set_same hi hy]
    rotate_left
    · rfl
    exact h.vh.sameF hs fun k hk e => h.vh.notRow hb (by decide) (by rw [hk, e])
  · intro j x hx
    have q := h.ses j x hx
    exact q.sameF hs fun k hk e => q.notRow hb (by decide) (by rw [hk, e])
  · intro j x hx
    rcases get_set hx with ⟨rfl, rfl, _⟩ | ⟨hne, hx⟩
    · exact hr
    · have q := h.tx j x hx
      exact q.sameF hs fun k hk e => q.notRow hb (by decide) (by rw [hk, e])
  · intro j x hx
    rcases get_set hx with ⟨rfl, rfl, _⟩ | ⟨hne, hx⟩
    · exact h.home j t hi
    · exact h.home j x hx
  · exact fun k hk hf => one k hk fun e => hf (.inr (.inr (.inl (by rw [hv, e]; rfl))))
  · refine ⟨fun k hk => .inl hk, ?_⟩
    rintro k (e | ⟨x, hx, e⟩)
    · exact .inl (.inl e)
    · rcases List.mem_or_eq_of_mem_set hx with hx | rfl
      · exact .inl (.inr ⟨x, hx, e⟩)
      · rcases hn k e with e | e
        · exact .inl (.inr ⟨t, List.mem_of_getElem? hi, e⟩)
        · exact .inr (.inr e)
/-- The reference's client beside what was there: σ0. -/
structure Ref (σ0 σ : Hp) (R : RL) : Prop where
  at_ : RefAt σ R
  sub : Sub σ0 σ
  new : ∀ k, R.own k → σ0 k = none
theorem Ref.on {σ0 σ σ' : Hp} {C C' : RL} (h : Ref σ0 σ C) (m : RMoved σ C σ' C') : Ref σ0 σ' C' := ⟨m.1, (m.sub h.sub h.new).1, (m.sub h.sub h.new).2⟩
theorem rd_at {σ : Hp} {b o r : Nat} {cs : List Value} {t : TypeId} (hb : σ b = some (.row cs r t)) : rd σ b o = cs[o]? := by unfold rd; rw [hb]
theorem rdn_at {σ : Hp} {b o n r : Nat} {cs : List Value} {t : TypeId} (hb : σ b = some (.row cs r t)) : rdn σ b o n = seg cs o n := by unfold rdn; rw [hb]
theorem set_off {σ : Hp} {g : Nat} {o : Blk} (h : σ g = some o) : upd (off σ g) g o = σ := (off_upd h).symm
/-- Where session i lies. -/
structure SesIn (σ : Hp) (R : RL) (i : Nat) (s : RS) (b c : Nat) (A B : List Value) : Prop where
  v : R.vs = .slice (some ⟨b, 0, none⟩) R.ss.length c
  le : R.ss.length ≤ c
  at_ : σ b = some (.row (win A (s.S.cells s.v) B) (c * 8) 118)
  len : A.length = i * 8
  set : ∀ y, win A (sC y) B = (R.ss.set i y).flatMap sC
theorem sesIn {σ : Hp} {R : RL} {i : Nat} {s : RS} (h : RefAt σ R) (hi : R.ss[i]? = some s) : ∃ b c A B, SesIn σ R i s b c A B := by
  obtain ⟨b, c, A, B, h1, h2, h3, h4, h5⟩ := row_win sC_len h.vs hi
  exact ⟨b, c, A, B, h1, h2, h3, h4, h5⟩
structure TxIn (σ : Hp) (R : RL) (i : Nat) (t : RT) (b c : Nat) (A B : List Value) : Prop where
  v : R.vt = .slice (some ⟨b, 0, none⟩) R.ts.length c
  le : R.ts.length ≤ c
  at_ : σ b = some (.row (win A (t.T.cells t.v) B) (c * 10) 112)
  len : A.length = i * 10
  set : ∀ y, win A (tC y) B = (R.ts.set i y).flatMap tC
theorem txIn {σ : Hp} {R : RL} {i : Nat} {t : RT} (h : RefAt σ R) (hi : R.ts[i]? = some t) : ∃ b c A B, TxIn σ R i t b c A B := by
  obtain ⟨b, c, A, B, h1, h2, h3, h4, h5⟩ := row_win tC_len h.vt hi
  exact ⟨b, c, A, B, h1, h2, h3, h4, h5⟩
theorem rses_set {σ : Hp} {R : RL} {i b c : Nat} {s : RS} {A B : List Value} (h : RefAt σ R) (hi : R.ss[i]? = some s) (p : SesIn σ R i s b c A B) (S' : SesS) : RMoved σ R (set σ b (.row (win A (S'.cells s.v) B) (c * 8) 118)) (R.ses i S' s.v s.ws) :=
  rses_moved h hi p.v p.le p.at_ p.set (same_set _ _ _) (upd_same _ _ _) ((h.ses i s hi).sameF (same_set _ _ _) fun k hk e => (h.ses i s hi).notRow p.at_ (by decide) (by rw [hk, e])) fun k hk => .inl hk
theorem rtx_set {σ : Hp} {R : RL} {i b c : Nat} {t : RT} {A B : List Value} (h : RefAt σ R) (hi : R.ts[i]? = some t) (p : TxIn σ R i t b c A B) (T' : TxS) (hr : T'.reads = t.T.reads) : RMoved σ R (set σ b (.row (win A (T'.cells t.v) B) (c * 10) 112)) (R.tx i t T' t.v) :=
  rtx_moved h hi p.v p.le p.at_ p.set (same_set _ _ _) (upd_same _ _ _) (by rw [hr]; exact (h.tx i t hi).sameF (same_set _ _ _) fun k hk e => (h.tx i t hi).notRow p.at_ (by decide) (by rw [hk, e])) fun k hk => .inl hk
theorem rtoken {σ : Hp} {R : RL} {i : Nat} {s : RS} (h : RefAt σ R) (hi : R.ss[i]? = some s) : ACalls Tryz.prog 67 #[.pointer (some ⟨R.g, 0, none⟩), .int .i64 i] σ fun u σ' => u = .tuple #[.string (tokV s.S.floor), .int .i64 (tokE s.S.floor)] ∧ σ' = σ := by
  obtain ⟨b, c, A, B, p⟩ := sesIn h hi
  have hg := h.cli
  rw [p.v] at hg
  exact token67g hg (List.getElem?_eq_some_iff.1 hi).1 (by rw [rd_at p.at_, ← p.len, win_get]; rfl) (fun e => crow_ne hg p.at_ e.symm) (token20 _ _)
theorem rjoin {σ : Hp} {R : RL} {i : Nat} {s : RS} (h : RefAt σ R) (hi : R.ss[i]? = some s) (t : ByteArray) (ht : t.size ≤ 281474976710656) :
    ACalls Tryz.prog 68 #[.pointer (some ⟨R.g, 0, none⟩), .int .i64 i, .string t] σ fun u σ' => u = .int .i64 (parE t) ∧ RMoved σ R σ' (R.ses i (s.S.joined t) s.v s.ws) := by
  obtain ⟨b, c, A, B, p⟩ := sesIn h hi
  have hg := h.cli
  rw [p.v] at hg
  have q := join57w p.at_ t ht
  rw [p.len] at q
  exact (join68g hg (List.getElem?_eq_some_iff.1 hi).1 q).mono fun u σ' ⟨h1, h2⟩ => ⟨h1, by rw [h2]; exact rses_set h hi p _⟩
theorem rack {σ : Hp} {R : RL} {i : Nat} {s : RS} {m : Msg} (h : RefAt σ R) (hi : R.ss[i]? = some s) (hm : m.kind = 2) (hs : m.session = i) :
    ACalls Tryz.prog 28 #[.pointer (some ⟨R.g, 0, none⟩), .agg m.cells.toArray] σ fun u σ' => u = .tuple #[.agg ({} : Msg).cells.toArray, .bool (s.S.hears m)] ∧ RMoved σ R σ' (cond (s.S.hears m) (R.ses i (s.S.acked m) s.v s.ws) R) := by
  obtain ⟨b, c, A, B, p⟩ := sesIn h hi
  have hg := h.cli
  rw [p.v] at hg
  have q := ack55w p.at_ m
  rw [p.len] at q
  refine (hear28a (R := fun b σ' => b = s.S.hears m ∧ RMoved σ R σ' (cond (s.S.hears m) (R.ses i (s.S.acked m) s.v s.ws) R)) hg (List.getElem?_eq_some_iff.1 hi).1 hm hs (q.mono ?_)).mono ?_
  · rintro u σ' ⟨h1, h2⟩
    refine ⟨_, h1, rfl, ?_⟩
    rw [h2]
    cases s.S.hears m
    · exact RMoved.refl h
    · exact rses_set h hi p _
  · rintro u σ' ⟨b, h1, h2, h3⟩
    exact ⟨by rw [h1, h2], h3⟩
theorem rview {σ : Hp} {R : RL} {i : Nat} {s : RS} (h : RefAt σ R) (hi : R.ss[i]? = some s) : ACalls Tryz.prog 31 #[.pointer (some ⟨R.g, 0, none⟩), .int .i64 i] σ fun u σ' => u = .tuple #[.agg s.S.view.toArray, .bool true] ∧ σ' = σ := by
  obtain ⟨b, c, A, B, p⟩ := sesIn h hi
  have hg := h.cli
  rw [p.v] at hg
  exact session31g hg (List.getElem?_eq_some_iff.1 hi).1 (by rw [rdn_at p.at_, ← p.len, win_seg]; simp only [SesS.cells, SesS.view, List.cons_append, List.nil_append, seg_skip, seg_cons, seg_zero, Option.map_some]) (fun e => crow_ne hg p.at_ e.symm)
theorem rtx {σ : Hp} {R : RL} {i : Nat} {t : RT} (h : RefAt σ R) (hi : R.ts[i]? = some t) : ACalls Tryz.prog 33 #[.pointer (some ⟨R.g, 0, none⟩), .int .i64 i] σ fun u σ' => u = .tuple #[.agg (t.T.view t.v).toArray, .bool true] ∧ σ' = σ := by
  obtain ⟨b, c, A, B, p⟩ := txIn h hi
  have hg := h.cli
  rw [p.v] at hg
  obtain ⟨a1, c1, hv⟩ := (h.tx i t hi).slice
  exact tx33r hg (List.getElem?_eq_some_iff.1 hi).1 (by rw [rdn_at p.at_, ← p.len, win_seg]; simp only [TxS.cells, TxS.view, List.cons_append, List.nil_append, seg_skip, seg_cons, seg_zero, Option.map_some]) (by rw [hv]; rfl) (fun e => crow_ne hg p.at_ e.symm)
theorem rread {σ : Hp} {R : RL} {i : Nat} {t : RT} (h : RefAt σ R) (hi : R.ts[i]? = some t) (key : ByteArray) (hk : key.size ≤ 140737488351232) (hn : t.T.reads.length ≤ 140737488351232) (hst : 0 ≤ t.T.st ∧ t.T.st ≤ 4) :
    ACalls Tryz.prog 23 #[.pointer (some ⟨R.g, 0, none⟩), .int .i64 i, .string key] σ fun u σ' => u = .tuple #[.agg #[.bool (t.T.read key).2.1.1, .string (t.T.read key).2.1.2], .agg (t.T.read key).2.2.1.cells.toArray, .int .i64 (t.T.read key).2.2.2] ∧ RMoved σ R σ' (R.tx i t (t.T.read key).1 t.v) := by
  obtain ⟨b, c, A, B, p⟩ := txIn h hi
  have hg := h.cli
  rw [p.v] at hg
  have k := read28w p.at_ (h.tx i t hi) key hk hn hst
  rw [p.len] at k
  have n1 : one (t.T.read key).2.2.1.writes = true := by rw [(nil_read t.T key).1]; rfl
  have n2 : one (t.T.read key).2.2.1.keys = true := by rw [(nil_read t.T key).2]; rfl
  have m := rtx_set h hi p (t.T.read key).1 (reads_read _ _)
  generalize t.T.read key = x at k n1 n2 m ⊢
  obtain ⟨T', ⟨x, d⟩, mm, e⟩ := x
  refine (read23g (R := fun x' d' m' e' σ' => x' = x ∧ d' = d ∧ m' = mm ∧ e' = e ∧ RMoved σ R σ' (R.tx i t T' t.v)) hg (List.getElem?_eq_some_iff.1 hi).1 (k.mono ?_)).mono ?_
  · rintro u σ' ⟨h1, rfl⟩
    exact ⟨x, d, mm, e, h1, n1, n2, rfl, rfl, rfl, rfl, m⟩
  · rintro u σ' ⟨x', d', m', e', h1, _, _, rfl, rfl, rfl, rfl, h6⟩
    exact ⟨h1, h6⟩
theorem rretry {σ : Hp} {R : RL} {i : Nat} {t : RT} (h : RefAt σ R) (hi : R.ts[i]? = some t) (hk : t.T.key.size ≤ 140737488351232) :
    ACalls Tryz.prog 26 #[.pointer (some ⟨R.g, 0, none⟩), .int .i64 i] σ fun u σ' => u = .tuple #[.agg (t.T.again R.c.retries).2.1.cells.toArray, .int .i64 (t.T.again R.c.retries).2.2] ∧ RMoved σ R σ' (R.tx i t (t.T.again R.c.retries).1 t.v) := by
  obtain ⟨b, c, A, B, p⟩ := txIn h hi
  have hg := h.cli
  rw [p.v] at hg
  have k := again31w p.at_ R.c.retries hk
  rw [p.len] at k
  have n1 : one (t.T.again R.c.retries).2.1.writes = true := by rw [(nil_again t.T _).1]; rfl
  have n2 : one (t.T.again R.c.retries).2.1.keys = true := by rw [(nil_again t.T _).2]; rfl
  have m := rtx_set h hi p (t.T.again R.c.retries).1 (reads_again _ _)
  generalize t.T.again R.c.retries = x at k n1 n2 m ⊢
  obtain ⟨T', mm, e⟩ := x
  refine (retry26g (R := fun m' e' σ' => m' = mm ∧ e' = e ∧ RMoved σ R σ' (R.tx i t T' t.v)) hg (List.getElem?_eq_some_iff.1 hi).1 (k.mono ?_)).mono ?_
  · rintro u σ' ⟨h1, rfl⟩
    exact ⟨mm, e, h1, n1, n2, rfl, rfl, m⟩
  · rintro u σ' ⟨m', b', h1, _, _, rfl, rfl, h6⟩
    exact ⟨h1, h6⟩
theorem rhear {σ : Hp} {R : RL} {i : Nat} {t : RT} {m : Msg} (h : RefAt σ R) (hi : R.ts[i]? = some t) (hm : m.kind ≠ 2) (hs : m.tx = i) (hk : t.T.key.size ≤ 140737488351232) (hn : (t.T.reads.length + 1) * 40 ≤ 140737488355328) :
    ACalls Tryz.prog 28 #[.pointer (some ⟨R.g, 0, none⟩), .agg m.cells.toArray] σ fun u σ' => u = .tuple #[.agg (t.T.hear m).2.1.cells.toArray, .bool (t.T.hear m).2.2] ∧ ∃ v', RMoved σ R σ' (R.tx i t (t.T.hear m).1 v') := by
  obtain ⟨b, c, A, B, p⟩ := txIn h hi
  have hg := h.cli
  rw [p.v] at hg
  have k := hear30w ⟨p.at_, h.tx i t hi⟩ m hk hn
  rw [p.len] at k
  have n1 : one (t.T.hear m).2.1.writes = true := by rw [(nil_hear t.T m).1]; rfl
  have n2 : one (t.T.hear m).2.1.keys = true := by rw [(nil_hear t.T m).2]; rfl
  generalize t.T.hear m = x at k n1 n2 ⊢
  obtain ⟨T', mm, e⟩ := x
  refine (hear28t (R := fun m' e' σ' => m' = mm ∧ e' = e ∧ ∃ v', RMoved σ R σ' (R.tx i t T' v')) hg (List.getElem?_eq_some_iff.1 hi).1 hm hs (k.mono ?_)).mono ?_
  · rintro u σ' ⟨h1, v', h2, h3⟩
    exact ⟨mm, e, h1, n1, n2, rfl, rfl, v', rtx_moved h hi p.v p.le p.at_ p.set h3.1 h2.1 h2.2 h3.2⟩
  · rintro u σ' ⟨m', b', h1, _, _, rfl, rfl, h6⟩
    exact ⟨h1, h6⟩
/-- What a finish leaves of the client. -/
def RL.fin (R : RL) (i : Nat) (t : RT) (s : RS) : RL := cond (decide (t.T.finish.2.2 = 0)) ((R.tx i t t.T.finish.1 t.v).ses t.k (s.S.raise t.T.finish.2.1) s.v s.ws) (R.tx i t t.T.finish.1 t.v)
theorem rfinish {σ : Hp} {R : RL} {i : Nat} {t : RT} {s : RS} (h : RefAt σ R) (hi : R.ts[i]? = some t) (hs : R.ss[t.k]? = some s) :
    ACalls Tryz.prog 27 #[.pointer (some ⟨R.g, 0, none⟩), .int .i64 i] σ fun u σ' => u = .tuple #[.int .i64 t.T.finish.2.1, .int .i64 t.T.finish.2.2] ∧ RMoved σ R σ' (R.fin i t s) := by
  obtain ⟨b, c, A, B, p⟩ := txIn h hi
  obtain ⟨b2, c2, A2, B2, p2⟩ := sesIn h hs
  have hlt := (List.getElem?_eq_some_iff.1 hi).1
  rcases hvh : h.vh with ⟨e1, e2⟩ | ⟨bh, ch, e1, e2, e3⟩
  · have := congrArg List.length e2
    simp only [List.length_map, List.length_nil] at this
    omega
  have hg := h.cli
  rw [p.v, p2.v, e1] at hg
  have hx : (R.ts.map fun t => (t.k : Int))[i]? = some (t.k : Int) := by rw [List.getElem?_map, hi]; rfl
  have hh := get_flat iC_len hx 0 (by omega)
  rw [Nat.add_zero] at hh
  refine (finish27g hg hlt (by rw [List.length_map]; exact hlt) (List.getElem?_eq_some_iff.1 hs).1 p.at_ p.len e3 (hh.trans rfl) p2.at_ p2.len).mono fun u σ' ⟨h1, h2⟩ => ⟨h1, ?_⟩
  rw [h2]
  have m1 := rtx_set h hi p t.T.finish.1 (reads_finish _)
  unfold RL.fin
  cases decide (t.T.finish.2.2 = 0)
  · exact m1
  · refine m1.trans (rses_set m1.1 hs ⟨p2.v, p2.le, ?_, p2.len, p2.set⟩ _)
    show set σ b _ b2 = _
    rw [set_at, if_neg (row_ne p2.at_ p.at_ (by decide))]; exact p2.at_
structure OpC where
  kind : Int
  s : Int
  t : Int
  key : ByteArray
  writes : Value
  msg : Msg
def OpC.cells (o : OpC) : List Value := [.int .u8 o.kind, .int .i64 o.s, .int .i64 o.t, .string o.key, o.writes] ++ o.msg.cells
theorem hear35ax {c : Value} {σ : Hp} {m : Msg} (hm : m.kind = 2) (h : NoS c m.session σ) : ACalls Tryz.prog 15 #[c, .agg m.cells.toArray] σ fun u σ' => u = .tuple #[.agg noMsg.toArray, .bool false] ∧ σ' = σ := by
  have H := Hid.mk h
  have hk : decide (m.kind = 2) = true := by simp [hm]
  clear h hm
  (refine acalls_F ok15 (by simp) ?_; unfold c15 r15)
  (repeat' (first | (simp +contextual -dsimp only [*, CliC, Msg.cells, noMsg, ↓reduceIte, ↓evP, evQ, splice, Nat.reduceAdd, Nat.reduceEqDiff, Nat.reduceLeDiff, Nat.reduceMul, reduceCtorEq, Int.reduceLT, Int.reduceLE, Int.reduceGT, Int.reduceGE, Int.reduceEq, Int.reduceNeg]) | (refine condF_split (fun hc => ?_) (fun hc => ?_) <;> (try simp only [Bool.not_eq_true', Bool.not_eq_false', Bool.and_eq_true, Bool.or_eq_false_iff] at hc)) | refine callF_v (H.out _ (by (repeat (first | exact Sub.refl _ | (refine Sub.drop ?_ ?_; focus (simp only [evN, *]; done)) | refine Sub.both ?_)); done)) ?_ | refine callF_v (ack25n _ m) ?_ | refine ccallF_of (H.out _ (by (repeat (first | exact Sub.refl _ | (refine Sub.drop ?_ ?_; focus (simp only [evN, *]; done)) | refine Sub.both ?_)); done)) ?_ | refine ccallF_of (ack25n _ m) ?_ | refine gcallF_of (H.out _ (by (repeat (first | exact Sub.refl _ | (refine Sub.drop ?_ ?_; focus (simp only [evN, *]; done)) | refine Sub.both ?_)); done)) ?_ | refine gcallF_of (ack25n _ m) ?_ | (intro _; intros) | (refine And.intro ?_ ?_; focus (first | omega | ((repeat (first | exact Sub.refl _ | (refine Sub.drop ?_ ?_; focus (simp only [evN, *]; done)) | refine Sub.both ?_)); done) | (simp_all; done) | (simp_all; omega)))))
  all_goals (refine endF_det ?_ ?_; (focus ((try simp only [noMsg, Msg.cells, cond_true, cond_false, *]) <;> ((try simp only [decide_eq_true_eq, decide_eq_false_iff_not] at *) <;> first | rfl | (simp [noMsg, Msg.cells]; done) | (simp_all [noMsg, Msg.cells]; done) | (simp [noMsg, Msg.cells]; omega) | (simp [noMsg, Msg.cells]; (rw [Bool.eq_iff_iff]); simp; omega) | (simp_all [noMsg, Msg.cells] <;> omega) | ((try unfold noMsg  Msg.cells); (rw [Value.bool.injEq, Bool.eq_iff_iff]); simp <;> omega) | ((try unfold noMsg  Msg.cells); (repeat' split) <;> simp_all <;> omega) | (simp_all [noMsg, Msg.cells] <;> (repeat' split) <;> simp_all <;> omega)))); (focus ((try simp only [noMsg, Msg.cells, cond_true, cond_false, set_same, *]); exact (by (repeat (first | exact Sub.refl _ | (refine Sub.drop ?_ ?_; focus (simp only [evN, *]; done)) | refine Sub.both ?_)); done))))
theorem hear35tx {c : Value} {σ : Hp} {m : Msg} (hm : m.kind ≠ 2) (h : NoT c m.tx σ) : ACalls Tryz.prog 15 #[c, .agg m.cells.toArray] σ fun u σ' => u = .tuple #[.agg noMsg.toArray, .bool false] ∧ σ' = σ := by
  have H := Hid.mk h
  have hk : decide (m.kind = 2) = false := by simp [hm]
  clear h hm
  (refine acalls_F ok15 (by simp) ?_; unfold c15 r15)
  (repeat' (first | (simp +contextual -dsimp only [*, CliC, Msg.cells, noMsg, ↓reduceIte, ↓evP, evQ, splice, Nat.reduceAdd, Nat.reduceEqDiff, Nat.reduceLeDiff, Nat.reduceMul, reduceCtorEq, Int.reduceLT, Int.reduceLE, Int.reduceGT, Int.reduceGE, Int.reduceEq, Int.reduceNeg]) | (refine condF_split (fun hc => ?_) (fun hc => ?_) <;> (try simp only [Bool.not_eq_true', Bool.not_eq_false', Bool.and_eq_true, Bool.or_eq_false_iff] at hc)) | refine callF_v (H.out _ (by (repeat (first | exact Sub.refl _ | (refine Sub.drop ?_ ?_; focus (simp only [evN, *]; done)) | refine Sub.both ?_)); done)) ?_ | refine callF_v (hear65n m _) ?_ | refine ccallF_of (H.out _ (by (repeat (first | exact Sub.refl _ | (refine Sub.drop ?_ ?_; focus (simp only [evN, *]; done)) | refine Sub.both ?_)); done)) ?_ | refine ccallF_of (hear65n m _) ?_ | refine gcallF_of (H.out _ (by (repeat (first | exact Sub.refl _ | (refine Sub.drop ?_ ?_; focus (simp only [evN, *]; done)) | refine Sub.both ?_)); done)) ?_ | refine gcallF_of (hear65n m _) ?_ | (intro _; intros) | (refine And.intro ?_ ?_; focus (first | omega | ((repeat (first | exact Sub.refl _ | (refine Sub.drop ?_ ?_; focus (simp only [evN, *]; done)) | refine Sub.both ?_)); done) | (simp_all; done) | (simp_all; omega)))))
  all_goals (refine endF_det ?_ ?_; (focus ((try simp only [noMsg, Msg.cells, cond_true, cond_false, *]) <;> ((try simp only [decide_eq_true_eq, decide_eq_false_iff_not] at *) <;> first | rfl | (simp [noMsg, Msg.cells]; done) | (simp_all [noMsg, Msg.cells]; done) | (simp [noMsg, Msg.cells]; omega) | (simp [noMsg, Msg.cells]; (rw [Bool.eq_iff_iff]); simp; omega) | (simp_all [noMsg, Msg.cells] <;> omega) | ((try unfold noMsg  Msg.cells); (rw [Value.bool.injEq, Bool.eq_iff_iff]); simp <;> omega) | ((try unfold noMsg  Msg.cells); (repeat' split) <;> simp_all <;> omega) | (simp_all [noMsg, Msg.cells] <;> (repeat' split) <;> simp_all <;> omega)))); (focus ((try simp only [noMsg, Msg.cells, cond_true, cond_false, set_same, *]); exact (by (repeat (first | exact Sub.refl _ | (refine Sub.drop ?_ ?_; focus (simp only [evN, *]; done)) | refine Sub.both ?_)); done))))
theorem msgE_no {P : Program} {f : FuncId} {args : Array Value} {σ : Hp} {e : Int} {R : Hp → Prop} (h : ACalls P f args σ fun u σ' => u = .tuple #[.agg noMsg.toArray, .int .i64 e] ∧ R σ') : ACalls P f args σ (MsgE fun m e' σ' => m = {} ∧ e' = e ∧ R σ') :=
  h.mono fun u σ' ⟨h1, h2⟩ => ⟨{}, e, h1, rfl, rfl, rfl, rfl, h2⟩
theorem msgE_of {P : Program} {f : FuncId} {args : Array Value} {σ : Hp} {e : Int} {R : Hp → Prop} (h : ACalls P f args σ (MsgE fun m e' σ' => m = {} ∧ e' = e ∧ R σ')) : ACalls P f args σ fun u σ' => u = .tuple #[.agg noMsg.toArray, .int .i64 e] ∧ R σ' :=
  h.mono fun u σ' ⟨m, e', h1, _, _, h2, h3, h4⟩ => ⟨by rw [h1, h2, h3]; rfl, h4⟩
theorem commitCx {σ : Hp} {C : CL} {i : Nat} {s : SR} {w : Value} {e : Int} (h : CliAt σ C) (hi : C.ss[i]? = some s) (hop : ACalls Tryz.prog 39 #[.pointer (some ⟨s.g, 0, none⟩), w] σ fun u σ' => u = .tuple #[.agg noMsg.toArray, .int .i64 e] ∧ σ' = σ) :
    ACalls Tryz.prog 13 #[.pointer (some ⟨C.g, 0, none⟩), .int .i64 i, w] σ fun u σ' => u = .tuple #[.agg noMsg.toArray, .int .i64 e] ∧ σ' = σ := msgE_of (commit39g (yesS h hi) (msgE_no hop))
theorem againC3 {σ : Hp} {C : CL} {i : Nat} {s : SR} (h : CliAt σ C) (hi : C.ss[i]? = some s) (hb : s.S.busy = false) :
    ACalls Tryz.prog 65 #[.pointer (some ⟨C.g, 0, none⟩), .int .i64 i] σ fun u σ' => u = .tuple #[.agg noMsg.toArray, .int .i64 3] ∧ σ' = σ := msgE_of (again40g (yesS h hi) (rtC h) (msgE_no (again17a (h.ses i s hi).1 _ hb)))
theorem againC41 {σ : Hp} {C : CL} {i : Nat} {s : SR} (h : CliAt σ C) (hi : C.ss[i]? = some s) (hb : s.S.busy = true) (ht : decide (s.S.tries ≥ C.c.retries) = true) :
    ACalls Tryz.prog 65 #[.pointer (some ⟨C.g, 0, none⟩), .int .i64 i] σ fun u σ' => u = .tuple #[.agg noMsg.toArray, .int .i64 41] ∧ Moved σ C σ' (C.ses i s (s.S.ended 41) (.slice none 0 0) []) :=
  msgE_of (again40g (yesS h hi) (rtC h) (msgE_no ((again17b (h.ses i s hi).1 _ hb ht).mono fun u σ' ⟨h1, h2⟩ => ⟨h1, by rw [h2]; exact ses_clear h hi _⟩)))
theorem againC0 {σ : Hp} {C : CL} {i : Nat} {s : SR} (h : CliAt σ C) (hi : C.ss[i]? = some s) (hn : s.ws.length * 40 ≤ 140737488355328) (hb : s.S.busy = true) (ht : decide (s.S.tries ≥ C.c.retries) = false) :
    ACalls Tryz.prog 65 #[.pointer (some ⟨C.g, 0, none⟩), .int .i64 i] σ fun u σ' => ∃ v', u = .tuple #[.agg (Msg.cells { kind := 1, session := s.S.id, seq := s.S.seq, writes := v' }).toArray, .int .i64 0] ∧ Moved σ C σ' (C.ses i s s.S.tried s.v s.ws) ∧ RowsAt 52 3 Wr.cells σ' v' s.ws ∧ New σ v' := by
  have hs := h.ses i s hi
  have hs1 := hs.1
  have k := again17 (v := s.v) (off_none σ s.g) (hs.2.offs (hs.2.notCells hs1)) hn C.c.retries hb ht
  rw [← off_upd hs1] at k
  refine (again40g (R := fun m e σ' => e = 0 ∧ ∃ v', m = { kind := 1, session := s.S.id, seq := s.S.seq, writes := v' } ∧ Moved σ C σ' (C.ses i s s.S.tried s.v s.ws) ∧ RowsAt 52 3 Wr.cells σ' v' s.ws ∧ New σ v') (yesS h hi) (rtC h) (k.mono ?_)).mono ?_
  · rintro u σ' ⟨v', τ', h1, rfl, h3, h4, h5, h6⟩
    obtain ⟨a, c, hv2⟩ := h4.slice
    rw [msg_cells] at h1
    have hk : τ' s.g = none := h3
    have hSame : Same (fun k => k = s.g) σ (upd τ' s.g (.cells (s.S.tried.cells s.v) 130)) := fun k hk hf => by
      have e : off σ s.g k = σ k := off_ne _ hf
      rw [upd_ne _ _ hf, h5 k (by rw [e]; exact hk) (fun x => x), e]
    refine ⟨{ kind := 1, session := s.S.id, seq := s.S.seq, writes := v' }, 0, h1, by show one v' = true; rw [hv2]; rfl, rfl, rfl, v', rfl, ses_moved h hi hSame (upd_same _ _ _) (hs.2.sameF hSame fun k hk e => hs.2.notCells hs1 (by rw [hk, e])) (fun k hk => .inl hk), h4.fresh h3 _, fun k hk => ?_⟩
    have := h6 k hk
    by_cases e : k = s.g
    · exact absurd (e ▸ hk) (h4.ne h3)
    · rwa [off_ne _ e] at this
  · rintro u σ' ⟨m, e, h1, _, _, rfl, v1, rfl, h2⟩
    exact ⟨v1, h1, h2⟩
theorem rcommitX {σ : Hp} {R : RL} {i b c : Nat} {s : RS} {A B : List Value} {w : Value} {e : Int} (h : RefAt σ R) (hi : R.ss[i]? = some s) (p : SesIn σ R i s b c A B) (hop : ACalls Tryz.prog 89 #[.pointer (some ⟨b, i * 8, none⟩), w] σ fun u σ' => u = .tuple #[.agg noMsg.toArray, .int .i64 e] ∧ σ' = σ) :
    ACalls Tryz.prog 64 #[.pointer (some ⟨R.g, 0, none⟩), .int .i64 i, w] σ fun u σ' => u = .tuple #[.agg noMsg.toArray, .int .i64 e] ∧ σ' = σ := by
  have hg := h.cli
  rw [p.v] at hg
  exact msgE_of (commit64g hg (List.getElem?_eq_some_iff.1 hi).1 (msgE_no hop))
theorem rcommitB {σ : Hp} {R : RL} {i : Nat} {s : RS} {w : Value} (h : RefAt σ R) (hi : R.ss[i]? = some s) (hb : s.S.busy = true) :
    ACalls Tryz.prog 64 #[.pointer (some ⟨R.g, 0, none⟩), .int .i64 i, w] σ fun u σ' => u = .tuple #[.agg noMsg.toArray, .int .i64 31] ∧ σ' = σ := by
  obtain ⟨b, c, A, B, p⟩ := sesIn h hi
  have q := send52aw (τ := σ) (Wa := A) (Wb := B) (wn := c * 8) (g := b) (v := s.v) (w := w) hb
  rw [upd_self p.at_, p.len] at q
  exact rcommitX h hi p q
theorem rcommitE {σ : Hp} {R : RL} {i : Nat} {s : RS} {w : Value} {ws : List Wr} (h : RefAt σ R) (hi : R.ss[i]? = some s) (hv : RoRows 3 Wr.cells σ w ws) (hn : ws.length ≤ 140737488355328) (hb : s.S.busy = false) (he : decide (checkV ws = 0) = false) :
    ACalls Tryz.prog 64 #[.pointer (some ⟨R.g, 0, none⟩), .int .i64 i, w] σ fun u σ' => u = .tuple #[.agg noMsg.toArray, .int .i64 (checkV ws)] ∧ σ' = σ := by
  obtain ⟨b, c, A, B, p⟩ := sesIn h hi
  have q := send52bw (τ := σ) (Wa := A) (Wb := B) (wn := c * 8) (g := b) (S := s.S) (v := s.v) (w := w) (by rw [upd_self p.at_]; exact hv) hn hb he
  rw [upd_self p.at_, p.len] at q
  exact rcommitX h hi p q
theorem same_off {σ τ' : Hp} {b : Nat} {X : Blk} (h : Same (fun _ => False) (off σ b) τ') : Same (fun k => k = b) σ (upd τ' b X) := fun k hk hf => by
  have e : off σ b k = σ k := off_ne _ hf
  rw [upd_ne _ _ hf, h k (by rw [e]; exact hk) (fun x => x), e]
theorem new_off {σ τ' : Hp} {b : Nat} {E sz : Nat} {α : Type} {f : α → List Value} {v : Value} {l : List α} (h : New (off σ b) v) (hr : RowsAt E sz f τ' v l) (hb : τ' b = none) : New σ v := fun k hk => by
  have := h k hk
  by_cases e : k = b
  · exact absurd (e ▸ hk) (hr.ne hb)
  · rwa [off_ne _ e] at this
theorem rcommit0 {σ0 σ : Hp} {R : RL} {i : Nat} {s : RS} {w : Value} {ws : List Wr} (h : Ref σ0 σ R) (hi : R.ss[i]? = some s) (hv : RoRows 3 Wr.cells σ0 w ws) (hn : ws.length * 40 ≤ 140737488355328) (hb : s.S.busy = false) (he : checkV ws = 0) :
    ACalls Tryz.prog 64 #[.pointer (some ⟨R.g, 0, none⟩), .int .i64 i, w] σ fun u σ' => ∃ v1 v2, u = .tuple #[.agg (Msg.cells { kind := 1, session := s.S.id, seq := s.S.sent.seq, writes := v2 }).toArray, .int .i64 0] ∧ RMoved σ R σ' (R.ses i s.S.sent v1 ws) ∧ RowsAt 52 3 Wr.cells σ' v2 ws ∧ New σ v2 := by
  obtain ⟨b, c, A, B, p⟩ := sesIn h.at_ hi
  have hg := h.at_.cli
  rw [p.v] at hg
  have hsub : Sub σ0 (off σ b) := fun k => by
    by_cases e : k = b
    · left; rw [e]; exact h.new _ (.inr (.inl (by rw [p.v]; rfl)))
    · rw [off_ne _ e]; exact h.sub k
  have k := send52w (τ := off σ b) (Wa := A) (Wb := B) (wn := c * 8) (g := b) (S := s.S) (v := s.v) (w := w) (off_none σ b) (hv.sub hsub) hn hb he
  rw [set_off p.at_, p.len] at k
  refine (commit64g (R := fun m e σ' => e = 0 ∧ ∃ v1 v2, m = { kind := 1, session := s.S.id, seq := s.S.sent.seq, writes := v2 } ∧ RMoved σ R σ' (R.ses i s.S.sent v1 ws) ∧ RowsAt 52 3 Wr.cells σ' v2 ws ∧ New σ v2) hg (List.getElem?_eq_some_iff.1 hi).1 (k.mono ?_)).mono ?_
  · rintro u σ' ⟨v1, v2, τ', h1, rfl, h3, h4, h5, h6, h7, h8, h9⟩
    obtain ⟨a, c', hv2⟩ := h5.slice
    rw [msg_cells] at h1
    refine ⟨{ kind := 1, session := s.S.id, seq := s.S.sent.seq, writes := v2 }, 0, h1, by show one v2 = true; rw [hv2]; rfl, rfl, rfl, v1, v2, rfl, rses_moved h.at_ hi p.v p.le p.at_ p.set (same_off h6) (upd_same _ _ _) (h4.fresh h3 _) (fun k hk => .inr (new_off h7 h4 h3 k hk)), h5.fresh h3 _, new_off h8 h5 h3⟩
  · rintro u σ' ⟨m, e, h1, _, _, rfl, v1, v2, rfl, h2⟩
    exact ⟨v1, v2, h1, h2⟩
theorem ragain3 {σ : Hp} {R : RL} {i : Nat} {s : RS} (h : RefAt σ R) (hi : R.ss[i]? = some s) (hb : s.S.busy = false) :
    ACalls Tryz.prog 66 #[.pointer (some ⟨R.g, 0, none⟩), .int .i64 i] σ fun u σ' => u = .tuple #[.agg noMsg.toArray, .int .i64 3] ∧ σ' = σ := by
  obtain ⟨b, c, A, B, p⟩ := sesIn h hi
  have hg := h.cli
  rw [p.v] at hg
  have q := again54aw (τ := σ) (Wa := A) (Wb := B) (wn := c * 8) (g := b) (v := s.v) R.c.retries hb
  rw [upd_self p.at_, p.len] at q
  exact msgE_of (again66g hg (List.getElem?_eq_some_iff.1 hi).1 (msgE_no q))
theorem ragain41 {σ : Hp} {R : RL} {i : Nat} {s : RS} (h : RefAt σ R) (hi : R.ss[i]? = some s) (hb : s.S.busy = true) (ht : decide (s.S.tries ≥ R.c.retries) = true) :
    ACalls Tryz.prog 66 #[.pointer (some ⟨R.g, 0, none⟩), .int .i64 i] σ fun u σ' => u = .tuple #[.agg noMsg.toArray, .int .i64 41] ∧ RMoved σ R σ' (R.ses i (s.S.ended 41) s.v s.ws) := by
  obtain ⟨b, c, A, B, p⟩ := sesIn h hi
  have hg := h.cli
  rw [p.v] at hg
  have q := again54bw (τ := σ) (Wa := A) (Wb := B) (wn := c * 8) (g := b) (v := s.v) R.c.retries hb ht
  rw [upd_self p.at_, p.len] at q
  exact msgE_of (again66g hg (List.getElem?_eq_some_iff.1 hi).1 (msgE_no (q.mono fun u σ' ⟨h1, h2⟩ => ⟨h1, by rw [h2]; exact rses_set h hi p _⟩)))
theorem ragain0 {σ : Hp} {R : RL} {i : Nat} {s : RS} (h : RefAt σ R) (hi : R.ss[i]? = some s) (hn : s.ws.length * 40 ≤ 140737488355328) (hb : s.S.busy = true) (ht : decide (s.S.tries ≥ R.c.retries) = false) :
    ACalls Tryz.prog 66 #[.pointer (some ⟨R.g, 0, none⟩), .int .i64 i] σ fun u σ' => ∃ v', u = .tuple #[.agg (Msg.cells { kind := 1, session := s.S.id, seq := s.S.seq, writes := v' }).toArray, .int .i64 0] ∧ RMoved σ R σ' (R.ses i s.S.tried s.v s.ws) ∧ RowsAt 52 3 Wr.cells σ' v' s.ws ∧ New σ v' := by
  obtain ⟨b, c, A, B, p⟩ := sesIn h hi
  have hg := h.cli
  rw [p.v] at hg
  have hs := h.ses i s hi
  have k := again54w (τ := off σ b) (Wa := A) (Wb := B) (wn := c * 8) (g := b) (S := s.S) (v := s.v) (off_none σ b) (hs.offs (hs.notRow p.at_ (by decide))) hn R.c.retries hb ht
  rw [set_off p.at_, p.len] at k
  refine (again66g (R := fun m e σ' => e = 0 ∧ ∃ v', m = { kind := 1, session := s.S.id, seq := s.S.seq, writes := v' } ∧ RMoved σ R σ' (R.ses i s.S.tried s.v s.ws) ∧ RowsAt 52 3 Wr.cells σ' v' s.ws ∧ New σ v') hg (List.getElem?_eq_some_iff.1 hi).1 (k.mono ?_)).mono ?_
  · rintro u σ' ⟨v', τ', h1, rfl, h3, h4, h5, h6⟩
    obtain ⟨a, c', hv2⟩ := h4.slice
    rw [msg_cells] at h1
    refine ⟨{ kind := 1, session := s.S.id, seq := s.S.seq, writes := v' }, 0, h1, by show one v' = true; rw [hv2]; rfl, rfl, rfl, v', rfl, rses_moved h hi p.v p.le p.at_ p.set (same_off h5) (upd_same _ _ _) (hs.sameF (same_off h5) fun k hk e => hs.notRow p.at_ (by decide) (by rw [hk, e])) (fun k hk => .inl hk), h4.fresh h3 _, new_off h6 h4 h3⟩
  · rintro u σ' ⟨m, e, h1, _, _, rfl, v1, rfl, h2⟩
    exact ⟨v1, h1, h2⟩
theorem held50 (n most least : Int) (hl : least ≤ most) (σ : Hp) : ACalls Tryz.prog 50 #[.int .i64 n, .int .i64 least, .int .i64 most] σ fun u σ' => u = .int .i64 (hd n most least) ∧ σ' = σ := by
  (refine acalls_F ok50 (by simp) ?_; unfold c50 r50)
  (repeat' (first | (simp +contextual -dsimp only [*, CliC, Msg.cells, ↓reduceIte, ↓evP, evQ, splice, Nat.reduceAdd, Nat.reduceEqDiff, Nat.reduceLeDiff, Nat.reduceMul, reduceCtorEq, Int.reduceLT, Int.reduceLE, Int.reduceGT, Int.reduceGE, Int.reduceEq, Int.reduceNeg]) | (refine condF_split (fun hc => ?_) (fun hc => ?_) <;> (try simp only [Bool.not_eq_true', Bool.not_eq_false', Bool.and_eq_true, Bool.or_eq_false_iff] at hc)) | (intro _; intros) | (refine And.intro ?_ ?_; focus (first | omega | ((repeat (first | exact Sub.refl _ | (refine Sub.drop ?_ ?_; focus (simp only [evN, *]; done)) | refine Sub.both ?_)); done) | (simp_all; done) | (simp_all; omega)))))
  all_goals (refine endF_det ?_ (Sub.refl _))
  all_goals (simp only [decide_eq_true_eq, decide_eq_false_iff_not] at *)
  all_goals (congr 1; unfold hd mnI mxI; (repeat' split) <;> omega)
set_option maxRecDepth 100000 in
theorem held21 (c : Cfg) (σ : Hp) : ACalls Tryz.prog 21 #[.agg c.cells.toArray] σ fun u σ' => u = .agg c.held.cells.toArray ∧ σ' = σ := by
  unfold Cfg.cells
  (refine acalls_F ok21 (by simp) ?_; unfold c21 r21)
  (repeat' (first | (simp +contextual -dsimp only [*, CliC, Msg.cells, ↓reduceIte, ↓evP, evQ, splice, Nat.reduceAdd, Nat.reduceEqDiff, Nat.reduceLeDiff, Nat.reduceMul, reduceCtorEq, Int.reduceLT, Int.reduceLE, Int.reduceGT, Int.reduceGE, Int.reduceEq, Int.reduceNeg]) | (refine condF_split (fun hc => ?_) (fun hc => ?_) <;> (try simp only [Bool.not_eq_true', Bool.not_eq_false', Bool.and_eq_true, Bool.or_eq_false_iff] at hc)) | refine callF_v (held50 _ _ _ (by decide) _) ?_ | refine ccallF_of (held50 _ _ _ (by decide) _) ?_ | refine gcallF_of (held50 _ _ _ (by decide) _) ?_ | (intro _; intros) | (refine And.intro ?_ ?_; focus (first | omega | ((repeat (first | exact Sub.refl _ | (refine Sub.drop ?_ ?_; focus (simp only [evN, *]; done)) | refine Sub.both ?_)); done) | (simp_all; done) | (simp_all; omega)))))
  all_goals (refine endF_det ?_ ?_; (focus ((try simp only [Cfg.held, Cfg.cells, cond_true, cond_false, *]) <;> ((try simp only [decide_eq_true_eq, decide_eq_false_iff_not] at *) <;> first | rfl | (simp [Cfg.held, Cfg.cells]; done) | (simp_all [Cfg.held, Cfg.cells]; done) | (simp [Cfg.held, Cfg.cells]; omega) | (simp [Cfg.held, Cfg.cells]; (rw [Bool.eq_iff_iff]); simp; omega) | (simp_all [Cfg.held, Cfg.cells] <;> omega) | ((try unfold Cfg.held  Cfg.cells); (rw [Value.bool.injEq, Bool.eq_iff_iff]); simp <;> omega) | ((try unfold Cfg.held  Cfg.cells); (repeat' split) <;> simp_all <;> omega) | (simp_all [Cfg.held, Cfg.cells] <;> (repeat' split) <;> simp_all <;> omega)))); (focus ((try simp only [Cfg.held, Cfg.cells, cond_true, cond_false, set_same, *]); exact (by (repeat (first | exact Sub.refl _ | (refine Sub.drop ?_ ?_; focus (simp only [evN, *]; done)) | refine Sub.both ?_)); done))))
theorem rnew7 (c : Cfg) (σ : Hp) : ACalls Tryz.prog 7 #[.agg c.cells.toArray] σ fun u σ' => ∃ g, σ g = none ∧ u = .pointer (some ⟨g, 0, none⟩) ∧ σ' = upd σ g (.cells (CliC c.held (.slice none 0 0) (.slice none 0 0) (.slice none 0 0)) 71) := by
  have h := held21 c
  unfold Cfg.cells at *
  (refine acalls_F ok7 (by simp) ?_; unfold c7 r7)
  (repeat' (first | (simp +contextual -dsimp only [*, CliC, Msg.cells, ↓reduceIte, ↓evP, evQ, splice, Nat.reduceAdd, Nat.reduceEqDiff, Nat.reduceLeDiff, Nat.reduceMul, reduceCtorEq, Int.reduceLT, Int.reduceLE, Int.reduceGT, Int.reduceGE, Int.reduceEq, Int.reduceNeg]) | (refine condF_split (fun hc => ?_) (fun hc => ?_) <;> (try simp only [Bool.not_eq_true', Bool.not_eq_false', Bool.and_eq_true, Bool.or_eq_false_iff] at hc)) | refine callF_v (h _) ?_ | refine ccallF_of (h _) ?_ | refine gcallF_of (h _) ?_ | (intro _; intros) | (refine And.intro ?_ ?_; focus (first | omega | ((repeat (first | exact Sub.refl _ | (refine Sub.drop ?_ ?_; focus (simp only [evN, *]; done)) | refine Sub.both ?_)); done) | (simp_all; done) | (simp_all; omega)))))
  rename_i b b0 d d1 d1' d0
  exact endF_sub (τ := upd σ d (.cells (CliC c.held (.slice none 0 0) (.slice none 0 0) (.slice none 0 0)) 71)) (by (repeat (first | exact Sub.refl _ | (refine Sub.drop ?_ ?_; focus (simp only [evN, *]; done)) | refine Sub.both ?_)); done) ⟨d, by assumption, rfl, rfl⟩
theorem rnewOwn {g : Nat} {c : Cfg} {k : Nat} (h : RL.own ⟨g, c, .slice none 0 0, .slice none 0 0, .slice none 0 0, [], []⟩ k) : k = g := by
  rcases h with e | e | e | e
  · exact e
  · cases e
  · cases e
  · cases e
theorem newRef (c : Cfg) (σ : Hp) : ACalls Tryz.prog 7 #[.agg c.cells.toArray] σ fun u σ' => ∃ g, u = .pointer (some ⟨g, 0, none⟩) ∧ Ref σ σ' ⟨g, c.held, .slice none 0 0, .slice none 0 0, .slice none 0 0, [], []⟩ :=
  (rnew7 c σ).mono fun u σ' ⟨g, hg, hu, hs⟩ => ⟨g, hu, ⟨by rw [hs]; exact upd_same _ _ _, .inl ⟨rfl, rfl⟩, .inl ⟨rfl, rfl⟩, .inl ⟨rfl, rfl⟩, fun i s h => by simp at h, fun i s h => by simp at h, fun i s h => by simp at h⟩, by rw [hs]; exact Sub.drop hg (Sub.refl _), fun k hk => by rw [rnewOwn hk]; exact hg⟩
/-- One session more. -/
def RL.opens (R : RL) (vs' : Value) : RL := { R with vs := vs', ss := R.ss ++ [⟨newS R.ss.length, .slice none 0 0, []⟩] }
def ROpened (σ : Hp) (g : Nat) (c : Cfg) (vs vt vh : Value) (ss : List RS) (σ' : Hp) : Prop :=
  ∃ vs', σ' g = some (.cells (CliC c vs' vt vh) 71) ∧ RowsAt 118 8 sC σ' vs' (ss ++ [⟨newS ss.length, .slice none 0 0, []⟩]) ∧ Same (fun i => i = g ∨ blk vs = some i) σ σ' ∧ (∀ i, blk vs' = some i → blk vs = some i ∨ σ i = none)
theorem sc_snoc (ss : List RS) (n : Int) : ss.flatMap sC ++ [.int .i64 n, .int .i64 0, .bool false, .int .i64 0, .int .i64 0, .int .i64 0, .int .i64 0, .slice none 0 0] = (ss ++ [(⟨newS n, .slice none 0 0, []⟩ : RS)]).flatMap sC := by simp [sC, newS, SesS.cells]
theorem ropen63f {σ : Hp} {g : Nat} {c : Cfg} {A : Option Addr} {cap : Nat} {vt vh : Value} (hg : σ g = some (.cells (CliC c (.slice A 64 cap) vt vh) 71)) :
    ACalls Tryz.prog 63 #[.pointer (some ⟨g, 0, none⟩)] σ fun u σ' => u = .tuple #[.int .i64 0, .int .i64 2] ∧ σ' = σ := by
  have h1 : decide (((64 : Nat) : Int) = 64) = true := by decide
  (unfold CliC at hg; obtain ⟨τ, rfl⟩ := open_upd hg; clear hg)
  (refine acalls_F ok63 (by simp) ?_; unfold c63 r63)
  (repeat' (first | (simp +contextual -dsimp only [*, CliC, Msg.cells, ↓reduceIte, ↓evP, evQ, splice, Nat.reduceAdd, Nat.reduceEqDiff, Nat.reduceLeDiff, Nat.reduceMul, reduceCtorEq, Int.reduceLT, Int.reduceLE, Int.reduceGT, Int.reduceGE, Int.reduceEq, Int.reduceNeg]) | (refine condF_split (fun hc => ?_) (fun hc => ?_) <;> (try simp only [Bool.not_eq_true', Bool.not_eq_false', Bool.and_eq_true, Bool.or_eq_false_iff] at hc)) | (intro _; intros) | (refine And.intro ?_ ?_; focus (first | omega | ((repeat (first | exact Sub.refl _ | (refine Sub.drop ?_ ?_; focus (simp only [evN, *]; done)) | refine Sub.both ?_)); done) | (simp_all; done) | (simp_all; omega)))))
  all_goals (refine endF_det ?_ ?_; (focus ((try simp only [cond_true, cond_false, *]) <;> ((try simp only [decide_eq_true_eq, decide_eq_false_iff_not] at *) <;> first | rfl | (simp []; done) | (simp_all []; done) | (simp []; omega) | (simp []; (rw [Bool.eq_iff_iff]); simp; omega) | (simp_all [] <;> omega) | ((try unfold id); (rw [Value.bool.injEq, Bool.eq_iff_iff]); simp <;> omega) | ((try unfold id); (repeat' split) <;> simp_all <;> omega) | (simp_all [] <;> (repeat' split) <;> simp_all <;> omega)))); (focus ((try simp only [cond_true, cond_false, set_same, *]); exact (by (repeat (first | exact Sub.refl _ | (refine Sub.drop ?_ ?_; focus (simp only [evN, *]; done)) | refine Sub.both ?_)); done))))
theorem ropen63 {σ : Hp} {g : Nat} {c : Cfg} {vs vt vh : Value} {ss : List RS} (hg : σ g = some (.cells (CliC c vs vt vh) 71)) (hr : RowsAt 118 8 sC σ vs ss) (hn : ss.length < 64) :
    ACalls Tryz.prog 63 #[.pointer (some ⟨g, 0, none⟩)] σ fun u σ' => u = .tuple #[.int .i64 ss.length, .int .i64 0] ∧ ROpened σ g c vs vt vh ss σ' := by
  have h1 : decide ((ss.length : Int) = 64) = false := by simp; omega
  rcases hr with ⟨rfl, rfl⟩ | ⟨b, q, rfl, hk, hb⟩
  · (unfold CliC at hg; obtain ⟨τ, rfl⟩ := open_upd hg; clear hg)
    (refine acalls_F ok63 (by simp) ?_; unfold c63 r63)
    (repeat' (first | (simp +contextual -dsimp only [*, CliC, Msg.cells, ↓reduceIte, ↓evP, evQ, splice, Nat.reduceAdd, Nat.reduceEqDiff, Nat.reduceLeDiff, Nat.reduceMul, reduceCtorEq, Int.reduceLT, Int.reduceLE, Int.reduceGT, Int.reduceGE, Int.reduceEq, Int.reduceNeg]) | (refine condF_split (fun hc => ?_) (fun hc => ?_) <;> (try simp only [Bool.not_eq_true', Bool.not_eq_false', Bool.and_eq_true, Bool.or_eq_false_iff] at hc)) | (intro _; intros) | (refine And.intro ?_ ?_; focus (first | omega | ((repeat (first | exact Sub.refl _ | (refine Sub.drop ?_ ?_; focus (simp only [evN, *]; done)) | refine Sub.both ?_)); done) | (simp_all; done) | (simp_all; omega)))))
    refine app_n (by first | (simp only [Nat.reduceMul, Nat.one_mul, Nat.zero_mul, rdn_row, rdn_same, rdn_ne, seg_zero, seg_cons, seg_skip, Option.map_some, not_false_eq_true, *]; done) | (simp only [Nat.reduceMul, Nat.one_mul, Nat.zero_mul, rdn_row, rdn_same, rdn_ne, seg_zero, seg_cons, seg_skip, Option.map_some, not_false_eq_true, *]; exact rfl)) rfl (by omega) (by omega) (by unfold maxLen; omega) ?_
    all_goals (try (repeat' (first | (simp +contextual -dsimp only [*, CliC, Msg.cells, ↓reduceIte, ↓evP, evQ, splice, Nat.reduceAdd, Nat.reduceEqDiff, Nat.reduceLeDiff, Nat.reduceMul, reduceCtorEq, Int.reduceLT, Int.reduceLE, Int.reduceGT, Int.reduceGE, Int.reduceEq, Int.reduceNeg]) | (refine condF_split (fun hc => ?_) (fun hc => ?_) <;> (try simp only [Bool.not_eq_true', Bool.not_eq_false', Bool.and_eq_true, Bool.or_eq_false_iff] at hc)) | (intro _; intros) | (refine And.intro ?_ ?_; focus (first | omega | ((repeat (first | exact Sub.refl _ | (refine Sub.drop ?_ ?_; focus (simp only [evN, *]; done)) | refine Sub.both ?_)); done) | (simp_all; done) | (simp_all; omega))))))
    all_goals (refine endF_at ⟨rfl, .slice (some ⟨_, 0, none⟩) 1 _, (by first | (simp only [upd_at, *, ↓reduceIte]; done) | (simp only [upd_at, *, ↓reduceIte]; rfl)), rows_mk (by simp) (by assumption) (by first | (simp only [upd_at, *, ↓reduceIte]; done) | (simp only [upd_at, *, ↓reduceIte]; rfl)), (by repeat (first | exact Same.refl _ _ | (refine Same.updNew ?_ ?_; focus (simp only [evN, *]; done)) | (refine Same.both ?_ ?_; focus (first | exact rfl | exact .inl rfl | exact .inr rfl)) | (refine Same.updIn ?_ ?_; focus (first | exact rfl | exact .inl rfl | exact .inr rfl)) | refine Same.eq ?_)), ?_⟩)
    all_goals (intro i hi; cases hi; first | exact .inl rfl | exact .inr (by simp only [evN, *]; done))
  · unfold CliC at hg
    obtain ⟨τ, rfl, hne1, hne2⟩ := open_two hg hb (by simp)
    clear hg hb
    (refine acalls_F ok63 (by simp) ?_; unfold c63 r63)
    (repeat' (first | (simp +contextual -dsimp only [*, CliC, Msg.cells, ↓reduceIte, ↓evP, evQ, splice, Nat.reduceAdd, Nat.reduceEqDiff, Nat.reduceLeDiff, Nat.reduceMul, reduceCtorEq, Int.reduceLT, Int.reduceLE, Int.reduceGT, Int.reduceGE, Int.reduceEq, Int.reduceNeg]) | (refine condF_split (fun hc => ?_) (fun hc => ?_) <;> (try simp only [Bool.not_eq_true', Bool.not_eq_false', Bool.and_eq_true, Bool.or_eq_false_iff] at hc)) | (intro _; intros) | (refine And.intro ?_ ?_; focus (first | omega | ((repeat (first | exact Sub.refl _ | (refine Sub.drop ?_ ?_; focus (simp only [evN, *]; done)) | refine Sub.both ?_)); done) | (simp_all; done) | (simp_all; omega)))))
    refine app_b (by first | (simp only [Nat.reduceMul, Nat.one_mul, Nat.zero_mul, rdn_row, rdn_same, rdn_ne, seg_zero, seg_cons, seg_skip, Option.map_some, not_false_eq_true, *]; done) | (simp only [Nat.reduceMul, Nat.one_mul, Nat.zero_mul, rdn_row, rdn_same, rdn_ne, seg_zero, seg_cons, seg_skip, Option.map_some, not_false_eq_true, *]; exact rfl)) rfl (by simp only [upd_at, *, ↓reduceIte]) (flat_len sC_len _) (by omega) (by omega) (by unfold maxLen; omega) ?_ ?_
    all_goals rw [sc_snoc]
    all_goals (repeat' (first | (simp +contextual -dsimp only [*, CliC, Msg.cells, ↓reduceIte, ↓evP, evQ, splice, Nat.reduceAdd, Nat.reduceEqDiff, Nat.reduceLeDiff, Nat.reduceMul, reduceCtorEq, Int.reduceLT, Int.reduceLE, Int.reduceGT, Int.reduceGE, Int.reduceEq, Int.reduceNeg]) | (refine condF_split (fun hc => ?_) (fun hc => ?_) <;> (try simp only [Bool.not_eq_true', Bool.not_eq_false', Bool.and_eq_true, Bool.or_eq_false_iff] at hc)) | (intro _; intros) | (refine And.intro ?_ ?_; focus (first | omega | ((repeat (first | exact Sub.refl _ | (refine Sub.drop ?_ ?_; focus (simp only [evN, *]; done)) | refine Sub.both ?_)); done) | (simp_all; done) | (simp_all; omega)))))
    all_goals (refine endF_at ⟨rfl, .slice (some ⟨_, 0, none⟩) (ss.length + 1) _, (by first | (simp only [upd_at, *, ↓reduceIte]; done) | (simp only [upd_at, *, ↓reduceIte]; rfl)), rows_mk (by simp) (by assumption) (by first | (simp only [upd_at, *, ↓reduceIte]; done) | (simp only [upd_at, *, ↓reduceIte]; rfl)), (by repeat (first | exact Same.refl _ _ | (refine Same.updNew ?_ ?_; focus (simp only [evN, *]; done)) | (refine Same.both ?_ ?_; focus (first | exact rfl | exact .inl rfl | exact .inr rfl)) | (refine Same.updIn ?_ ?_; focus (first | exact rfl | exact .inl rfl | exact .inr rfl)) | refine Same.eq ?_)), ?_⟩)
    all_goals (intro i hi; cases hi; first | exact .inl rfl | exact .inr (by simp only [evN, *]; done))
def RBegun (σ : Hp) (g : Nat) (c : Cfg) (vs vt vh : Value) (ts : List RT) (i : Nat) (floor : Int) (σ' : Hp) : Prop :=
  ∃ vt' vh', σ' g = some (.cells (CliC c vs vt' vh') 71) ∧ RowsAt 112 10 tC σ' vt' (ts ++ [⟨newT ts.length c.nodes floor, .slice none 0 0, i⟩]) ∧ RowsAt 3 1 iC σ' vh' ((ts ++ [(⟨newT ts.length c.nodes floor, .slice none 0 0, i⟩ : RT)]).map fun t => (t.k : Int)) ∧
    Same (fun j => j = g ∨ blk vt = some j ∨ blk vh = some j) σ σ' ∧ (∀ j, blk vt' = some j → blk vt = some j ∨ σ j = none) ∧ (∀ j, blk vh' = some j → blk vh = some j ∨ σ j = none)
theorem rbegin69f {σ : Hp} {g b n cap i : Nat} {c : Cfg} {A : Option Addr} {q : Nat} {vh : Value} (hg : σ g = some (.cells (CliC c (.slice (some ⟨b, 0, none⟩) n cap) (.slice A 256 q) vh) 71)) (hi : i < n) :
    ACalls Tryz.prog 69 #[.pointer (some ⟨g, 0, none⟩), .int .i64 i] σ fun u σ' => u = .tuple #[.int .i64 0, .int .i64 2] ∧ σ' = σ := by
  have hb : decide ((i : Int) < (n : Int)) = true := by simp; omega
  (unfold CliC at hg; obtain ⟨τ, rfl⟩ := open_upd hg; clear hg)
  (refine acalls_F ok69 (by simp) ?_; unfold c69 r69)
  (repeat' (first | (simp +contextual -dsimp only [*, CliC, Msg.cells, TxS.cells, newT, ↓reduceIte, ↓evP, evQ, splice, Nat.reduceAdd, Nat.reduceEqDiff, Nat.reduceLeDiff, Nat.reduceMul, reduceCtorEq, Int.reduceLT, Int.reduceLE, Int.reduceGT, Int.reduceGE, Int.reduceEq, Int.reduceNeg]) | (refine condF_split (fun hc => ?_) (fun hc => ?_) <;> (try simp only [Bool.not_eq_true', Bool.not_eq_false', Bool.and_eq_true, Bool.or_eq_false_iff] at hc)) | refine callF_v (has60 (c := c) (by first | rfl | (simp only [upd_same, upd_at, set_at, *, ↓reduceIte]; done) | (simp only [upd_same, upd_at, set_at, *, ↓reduceIte]; rfl)) _) ?_ | refine ccallF_of (has60 (c := c) (by first | rfl | (simp only [upd_same, upd_at, set_at, *, ↓reduceIte]; done) | (simp only [upd_same, upd_at, set_at, *, ↓reduceIte]; rfl)) _) ?_ | refine gcallF_of (has60 (c := c) (by first | rfl | (simp only [upd_same, upd_at, set_at, *, ↓reduceIte]; done) | (simp only [upd_same, upd_at, set_at, *, ↓reduceIte]; rfl)) _) ?_ | (intro _; intros) | (refine And.intro ?_ ?_; focus (first | omega | ((repeat (first | exact Sub.refl _ | (refine Sub.drop ?_ ?_; focus (simp only [evN, *]; done)) | refine Sub.both ?_)); done) | (simp_all; done) | (simp_all; omega)))))
  all_goals (refine endF_det ?_ ?_; (focus ((try simp only [cond_true, cond_false, *]) <;> ((try simp only [decide_eq_true_eq, decide_eq_false_iff_not] at *) <;> first | rfl | (simp []; done) | (simp_all []; done) | (simp []; omega) | (simp []; (rw [Bool.eq_iff_iff]); simp; omega) | (simp_all [] <;> omega) | ((try unfold id); (rw [Value.bool.injEq, Bool.eq_iff_iff]); simp <;> omega) | ((try unfold id); (repeat' split) <;> simp_all <;> omega) | (simp_all [] <;> (repeat' split) <;> simp_all <;> omega)))); (focus ((try simp only [cond_true, cond_false, set_same, *]); exact (by (repeat (first | exact Sub.refl _ | (refine Sub.drop ?_ ?_; focus (simp only [evN, *]; done)) | refine Sub.both ?_)); done))))
theorem rbegin69x {σ : Hp} {g n cap q m : Nat} {A A2 : Option Addr} {i : Int} {c : Cfg} {vh : Value} (hg : σ g = some (.cells (CliC c (.slice A n cap) (.slice A2 m q) vh) 71)) (hi : (decide (i ≥ 0) && decide (i < (n : Int))) = false) :
    ACalls Tryz.prog 69 #[.pointer (some ⟨g, 0, none⟩), .int .i64 i] σ fun u σ' => u = .tuple #[.int .i64 0, .int .i64 3] ∧ σ' = σ := by
  (unfold CliC at hg; obtain ⟨τ, rfl⟩ := open_upd hg; clear hg)
  (refine acalls_F ok69 (by simp) ?_; unfold c69 r69)
  (repeat' (first | (simp +contextual -dsimp only [*, CliC, Msg.cells, TxS.cells, newT, ↓reduceIte, ↓evP, evQ, splice, Nat.reduceAdd, Nat.reduceEqDiff, Nat.reduceLeDiff, Nat.reduceMul, reduceCtorEq, Int.reduceLT, Int.reduceLE, Int.reduceGT, Int.reduceGE, Int.reduceEq, Int.reduceNeg]) | (refine condF_split (fun hc => ?_) (fun hc => ?_) <;> (try simp only [Bool.not_eq_true', Bool.not_eq_false', Bool.and_eq_true, Bool.or_eq_false_iff] at hc)) | refine callF_v (has60 (c := c) (by first | rfl | (simp only [upd_same, upd_at, set_at, *, ↓reduceIte]; done) | (simp only [upd_same, upd_at, set_at, *, ↓reduceIte]; rfl)) _) ?_ | refine ccallF_of (has60 (c := c) (by first | rfl | (simp only [upd_same, upd_at, set_at, *, ↓reduceIte]; done) | (simp only [upd_same, upd_at, set_at, *, ↓reduceIte]; rfl)) _) ?_ | refine gcallF_of (has60 (c := c) (by first | rfl | (simp only [upd_same, upd_at, set_at, *, ↓reduceIte]; done) | (simp only [upd_same, upd_at, set_at, *, ↓reduceIte]; rfl)) _) ?_ | (intro _; intros) | (refine And.intro ?_ ?_; focus (first | omega | ((repeat (first | exact Sub.refl _ | (refine Sub.drop ?_ ?_; focus (simp only [evN, *]; done)) | refine Sub.both ?_)); done) | (simp_all; done) | (simp_all; omega)))))
  all_goals (refine endF_det ?_ ?_; (focus ((try simp only [cond_true, cond_false, *]) <;> ((try simp only [decide_eq_true_eq, decide_eq_false_iff_not] at *) <;> first | rfl | (simp []; done) | (simp_all []; done) | (simp []; omega) | (simp []; (rw [Bool.eq_iff_iff]); simp; omega) | (simp_all [] <;> omega) | ((try unfold id); (rw [Value.bool.injEq, Bool.eq_iff_iff]); simp <;> omega) | ((try unfold id); (repeat' split) <;> simp_all <;> omega) | (simp_all [] <;> (repeat' split) <;> simp_all <;> omega)))); (focus ((try simp only [cond_true, cond_false, set_same, *]); exact (by (repeat (first | exact Sub.refl _ | (refine Sub.drop ?_ ?_; focus (simp only [evN, *]; done)) | refine Sub.both ?_)); done))))
theorem tc_snoc2 (ts : List RT) (nodes f : Int) (k : Nat) : ts.flatMap tC ++ [.int .i64 ts.length, .int .i64 (mnI (mxI nodes 1) 8), .int .i64 0, .int .i64 0, .int .i64 (mnI (mxI f 0) 1099511627776), .int .i64 4611686018427387904, .string ⟨#[]⟩, .int .i64 0, .int .i64 0, .slice none 0 0] = (ts ++ [(⟨newT ts.length nodes f, .slice none 0 0, k⟩ : RT)]).flatMap tC := by simp [tC, newT, TxS.cells]
theorem ic_snoc (ts : List RT) (nodes f : Int) (k : Nat) : (ts.map fun t => (t.k : Int)).flatMap iC ++ [.int .i64 k] = ((ts ++ [(⟨newT ts.length nodes f, .slice none 0 0, k⟩ : RT)]).map fun t => (t.k : Int)).flatMap iC := by simp [iC]
set_option maxHeartbeats 2000000 in
theorem rbegin69 {σ : Hp} {g b n cap i : Nat} {c : Cfg} {vt vh : Value} {ts : List RT} {f : Int} (hg : σ g = some (.cells (CliC c (.slice (some ⟨b, 0, none⟩) n cap) vt vh) 71)) (ht : RowsAt 112 10 tC σ vt ts) (hh : RowsAt 3 1 iC σ vh (ts.map fun t => (t.k : Int)))
    (hi : i < n) (hf : rd σ b (i * 8 + 1) = some (.int .i64 f)) (hgb : ¬ b = g) (hbt : blk vt ≠ some b) (hbh : blk vh ≠ some b) (hn : ts.length < 256) :
    ACalls Tryz.prog 69 #[.pointer (some ⟨g, 0, none⟩), .int .i64 i] σ fun u σ' => u = .tuple #[.int .i64 ts.length, .int .i64 0] ∧ RBegun σ g c (.slice (some ⟨b, 0, none⟩) n cap) vt vh ts i f σ' := by
  have hb : decide ((i : Int) < (n : Int)) = true := by simp; omega
  have h1 : decide ((ts.length : Int) = 256) = false := by simp; omega
  unfold CliC at hg
  have tcs := tc_snoc2 ts c.nodes f i
  have ics := ic_snoc ts c.nodes f i
  have HS := Hid.mk (And.intro tcs ics)
  clear tcs ics
  generalize hls : ts.map (fun t => (t.k : Int)) = ls at hh
  have hll : ls.length = ts.length := by rw [← hls, List.length_map]
  rcases ht with ⟨rfl, htn⟩ | ⟨b1, q, rfl, hq, hb1⟩ <;> rcases hh with ⟨rfl, hl⟩ | ⟨b2, r, rfl, hr, hb2⟩
  · subst htn
    clear hls hll hl
    obtain ⟨τ, rfl⟩ := open_upd hg
    clear hg
    rw [rd_ne _ _ _ hgb] at hf
    (refine acalls_F ok69 (by simp) ?_; unfold c69 r69)
    (repeat' (first | (simp +contextual -dsimp only [*, CliC, Msg.cells, TxS.cells, newT, ↓reduceIte, ↓evP, evQ, splice, Nat.reduceAdd, Nat.reduceEqDiff, Nat.reduceLeDiff, Nat.reduceMul, reduceCtorEq, Int.reduceLT, Int.reduceLE, Int.reduceGT, Int.reduceGE, Int.reduceEq, Int.reduceNeg]) | (refine condF_split (fun hc => ?_) (fun hc => ?_) <;> (try simp only [Bool.not_eq_true', Bool.not_eq_false', Bool.and_eq_true, Bool.or_eq_false_iff] at hc)) | refine callF_v (has60 (c := c) (by first | rfl | (simp only [upd_same, upd_at, set_at, *, ↓reduceIte]; done) | (simp only [upd_same, upd_at, set_at, *, ↓reduceIte]; rfl)) _) ?_ | refine ccallF_of (has60 (c := c) (by first | rfl | (simp only [upd_same, upd_at, set_at, *, ↓reduceIte]; done) | (simp only [upd_same, upd_at, set_at, *, ↓reduceIte]; rfl)) _) ?_ | refine gcallF_of (has60 (c := c) (by first | rfl | (simp only [upd_same, upd_at, set_at, *, ↓reduceIte]; done) | (simp only [upd_same, upd_at, set_at, *, ↓reduceIte]; rfl)) _) ?_ | (intro _; intros) | (refine And.intro ?_ ?_; focus (first | omega | ((repeat (first | exact Sub.refl _ | (refine Sub.drop ?_ ?_; focus (simp only [evN, *]; done)) | refine Sub.both ?_)); done) | (simp_all; done) | (simp_all; omega)))))
    refine gcallF_first (new94r _ _ _ _) (fun u σ₁ h => ?_) ?_
    · obtain ⟨t, ht, _, rfl⟩ := h; exact Sub.drop ht (Sub.refl _)
    rintro u σ₁ ⟨t, ht0, rfl, rfl⟩
    simp only [none_upd] at ht0
    (repeat' (first | (simp +contextual -dsimp only [*, CliC, Msg.cells, TxS.cells, newT, ↓reduceIte, ↓evP, evQ, splice, Nat.reduceAdd, Nat.reduceEqDiff, Nat.reduceLeDiff, Nat.reduceMul, reduceCtorEq, Int.reduceLT, Int.reduceLE, Int.reduceGT, Int.reduceGE, Int.reduceEq, Int.reduceNeg]) | (refine condF_split (fun hc => ?_) (fun hc => ?_) <;> (try simp only [Bool.not_eq_true', Bool.not_eq_false', Bool.and_eq_true, Bool.or_eq_false_iff] at hc)) | (intro _; intros) | (refine And.intro ?_ ?_; focus (first | omega | ((repeat (first | exact Sub.refl _ | (refine Sub.drop ?_ ?_; focus (simp only [evN, *]; done)) | refine Sub.both ?_)); done) | (simp_all; done) | (simp_all; omega)))))
    all_goals (refine app_n (by first | (simp only [Nat.reduceMul, Nat.one_mul, Nat.zero_mul, rdn_row, rdn_same, rdn_ne, seg_zero, seg_cons, seg_skip, Option.map_some, not_false_eq_true, *]; done) | (simp only [Nat.reduceMul, Nat.one_mul, Nat.zero_mul, rdn_row, rdn_same, rdn_ne, seg_zero, seg_cons, seg_skip, Option.map_some, not_false_eq_true, *]; exact rfl)) rfl (by omega) (by omega) (by unfold maxLen; omega) ?_)
    all_goals (try (repeat' (first | (simp +contextual -dsimp only [*, CliC, Msg.cells, TxS.cells, newT, ↓reduceIte, ↓evP, evQ, splice, Nat.reduceAdd, Nat.reduceEqDiff, Nat.reduceLeDiff, Nat.reduceMul, reduceCtorEq, Int.reduceLT, Int.reduceLE, Int.reduceGT, Int.reduceGE, Int.reduceEq, Int.reduceNeg]) | (refine condF_split (fun hc => ?_) (fun hc => ?_) <;> (try simp only [Bool.not_eq_true', Bool.not_eq_false', Bool.and_eq_true, Bool.or_eq_false_iff] at hc)) | (intro _; intros) | (refine And.intro ?_ ?_; focus (first | omega | ((repeat (first | exact Sub.refl _ | (refine Sub.drop ?_ ?_; focus (simp only [evN, *]; done)) | refine Sub.both ?_)); done) | (simp_all; done) | (simp_all; omega))))))
    all_goals (refine app_n (by first | (simp only [Nat.reduceMul, Nat.one_mul, Nat.zero_mul, rdn_row, rdn_same, rdn_ne, seg_zero, seg_cons, seg_skip, Option.map_some, not_false_eq_true, *]; done) | (simp only [Nat.reduceMul, Nat.one_mul, Nat.zero_mul, rdn_row, rdn_same, rdn_ne, seg_zero, seg_cons, seg_skip, Option.map_some, not_false_eq_true, *]; exact rfl)) rfl (by omega) (by omega) (by unfold maxLen; omega) ?_)
    all_goals (try (repeat' (first | (simp +contextual -dsimp only [*, CliC, Msg.cells, TxS.cells, newT, ↓reduceIte, ↓evP, evQ, splice, Nat.reduceAdd, Nat.reduceEqDiff, Nat.reduceLeDiff, Nat.reduceMul, reduceCtorEq, Int.reduceLT, Int.reduceLE, Int.reduceGT, Int.reduceGE, Int.reduceEq, Int.reduceNeg]) | (refine condF_split (fun hc => ?_) (fun hc => ?_) <;> (try simp only [Bool.not_eq_true', Bool.not_eq_false', Bool.and_eq_true, Bool.or_eq_false_iff] at hc)) | (intro _; intros) | (refine And.intro ?_ ?_; focus (first | omega | ((repeat (first | exact Sub.refl _ | (refine Sub.drop ?_ ?_; focus (simp only [evN, *]; done)) | refine Sub.both ?_)); done) | (simp_all; done) | (simp_all; omega))))))
    all_goals (refine endF_at ⟨rfl, .slice (some ⟨_, 0, none⟩) 1 _, .slice (some ⟨_, 0, none⟩) 1 _, (by first | (simp only [upd_at, *, ↓reduceIte]; done) | (simp only [upd_at, *, ↓reduceIte]; rfl)), rows_mk (by simp) (by assumption) (by first | (simp only [upd_at, *, ↓reduceIte]; done) | (simp only [upd_at, *, ↓reduceIte]; rfl)), rows_mk (by simp) (by assumption) (by first | (simp only [upd_at, *, ↓reduceIte]; done) | (simp only [upd_at, *, ↓reduceIte]; rfl)), (by repeat (first | exact Same.refl _ _ | (refine Same.updNew ?_ ?_; focus (simp only [evN, *]; done)) | (refine Same.both ?_ ?_; focus (first | exact rfl | exact .inl rfl | exact .inr rfl | exact .inr (.inl rfl) | exact .inr (.inr rfl) | exact .inr (.inr (.inl rfl)) | exact .inr (.inr (.inr rfl)))) | (refine Same.updIn ?_ ?_; focus (first | exact rfl | exact .inl rfl | exact .inr rfl | exact .inr (.inl rfl) | exact .inr (.inr rfl) | exact .inr (.inr (.inl rfl)) | exact .inr (.inr (.inr rfl)))) | refine Same.eq ?_)), ?_, ?_⟩)
    all_goals (intro j hj; cases hj; first | exact .inl rfl | exact .inr (by simp only [evN, *]; done))
  · have e2 := crow_ne hg hb2
    have f2 : ¬ b2 = g := fun e => e2 e.symm
    have k2 : ¬ b = b2 := fun e => hbh (by rw [e]; rfl)
    subst htn
    obtain rfl : ls = [] := hls.symm
    simp only [List.flatMap_nil] at hb2
    obtain ⟨τ, rfl⟩ := open_2 hg hb2 e2
    clear hg hb2 hls hll
    rw [rd_ne _ _ _ hgb, rd_ne _ _ _ k2] at hf
    (refine acalls_F ok69 (by simp) ?_; unfold c69 r69)
    (repeat' (first | (simp +contextual -dsimp only [*, CliC, Msg.cells, TxS.cells, newT, ↓reduceIte, ↓evP, evQ, splice, Nat.reduceAdd, Nat.reduceEqDiff, Nat.reduceLeDiff, Nat.reduceMul, reduceCtorEq, Int.reduceLT, Int.reduceLE, Int.reduceGT, Int.reduceGE, Int.reduceEq, Int.reduceNeg]) | (refine condF_split (fun hc => ?_) (fun hc => ?_) <;> (try simp only [Bool.not_eq_true', Bool.not_eq_false', Bool.and_eq_true, Bool.or_eq_false_iff] at hc)) | refine callF_v (has60 (c := c) (by first | rfl | (simp only [upd_same, upd_at, set_at, *, ↓reduceIte]; done) | (simp only [upd_same, upd_at, set_at, *, ↓reduceIte]; rfl)) _) ?_ | refine ccallF_of (has60 (c := c) (by first | rfl | (simp only [upd_same, upd_at, set_at, *, ↓reduceIte]; done) | (simp only [upd_same, upd_at, set_at, *, ↓reduceIte]; rfl)) _) ?_ | refine gcallF_of (has60 (c := c) (by first | rfl | (simp only [upd_same, upd_at, set_at, *, ↓reduceIte]; done) | (simp only [upd_same, upd_at, set_at, *, ↓reduceIte]; rfl)) _) ?_ | (intro _; intros) | (refine And.intro ?_ ?_; focus (first | omega | ((repeat (first | exact Sub.refl _ | (refine Sub.drop ?_ ?_; focus (simp only [evN, *]; done)) | refine Sub.both ?_)); done) | (simp_all; done) | (simp_all; omega)))))
    refine gcallF_first (new94r _ _ _ _) (fun u σ₁ h => ?_) ?_
    · obtain ⟨t, ht, _, rfl⟩ := h; exact Sub.drop ht (Sub.refl _)
    rintro u σ₁ ⟨t, ht0, rfl, rfl⟩
    simp only [none_upd] at ht0
    (repeat' (first | (simp +contextual -dsimp only [*, CliC, Msg.cells, TxS.cells, newT, ↓reduceIte, ↓evP, evQ, splice, Nat.reduceAdd, Nat.reduceEqDiff, Nat.reduceLeDiff, Nat.reduceMul, reduceCtorEq, Int.reduceLT, Int.reduceLE, Int.reduceGT, Int.reduceGE, Int.reduceEq, Int.reduceNeg]) | (refine condF_split (fun hc => ?_) (fun hc => ?_) <;> (try simp only [Bool.not_eq_true', Bool.not_eq_false', Bool.and_eq_true, Bool.or_eq_false_iff] at hc)) | (intro _; intros) | (refine And.intro ?_ ?_; focus (first | omega | ((repeat (first | exact Sub.refl _ | (refine Sub.drop ?_ ?_; focus (simp only [evN, *]; done)) | refine Sub.both ?_)); done) | (simp_all; done) | (simp_all; omega)))))
    all_goals (refine app_n (by first | (simp only [Nat.reduceMul, Nat.one_mul, Nat.zero_mul, rdn_row, rdn_same, rdn_ne, seg_zero, seg_cons, seg_skip, Option.map_some, not_false_eq_true, *]; done) | (simp only [Nat.reduceMul, Nat.one_mul, Nat.zero_mul, rdn_row, rdn_same, rdn_ne, seg_zero, seg_cons, seg_skip, Option.map_some, not_false_eq_true, *]; exact rfl)) rfl (by omega) (by omega) (by unfold maxLen; omega) ?_)
    all_goals (try (repeat' (first | (simp +contextual -dsimp only [*, CliC, Msg.cells, TxS.cells, newT, ↓reduceIte, ↓evP, evQ, splice, Nat.reduceAdd, Nat.reduceEqDiff, Nat.reduceLeDiff, Nat.reduceMul, reduceCtorEq, Int.reduceLT, Int.reduceLE, Int.reduceGT, Int.reduceGE, Int.reduceEq, Int.reduceNeg]) | (refine condF_split (fun hc => ?_) (fun hc => ?_) <;> (try simp only [Bool.not_eq_true', Bool.not_eq_false', Bool.and_eq_true, Bool.or_eq_false_iff] at hc)) | (intro _; intros) | (refine And.intro ?_ ?_; focus (first | omega | ((repeat (first | exact Sub.refl _ | (refine Sub.drop ?_ ?_; focus (simp only [evN, *]; done)) | refine Sub.both ?_)); done) | (simp_all; done) | (simp_all; omega))))))
    all_goals (refine app_b (by first | (simp only [Nat.reduceMul, Nat.one_mul, Nat.zero_mul, rdn_row, rdn_same, rdn_ne, seg_zero, seg_cons, seg_skip, Option.map_some, not_false_eq_true, *]; done) | (simp only [Nat.reduceMul, Nat.one_mul, Nat.zero_mul, rdn_row, rdn_same, rdn_ne, seg_zero, seg_cons, seg_skip, Option.map_some, not_false_eq_true, *]; exact rfl)) rfl (by simp only [upd_at, *, ↓reduceIte]) (show ([] : List Value).length = 0 * 1 from rfl) (by omega) (by omega) (by unfold maxLen; omega) ?_ ?_)
    all_goals (try (repeat' (first | (simp +contextual -dsimp only [*, CliC, Msg.cells, TxS.cells, newT, ↓reduceIte, ↓evP, evQ, splice, Nat.reduceAdd, Nat.reduceEqDiff, Nat.reduceLeDiff, Nat.reduceMul, reduceCtorEq, Int.reduceLT, Int.reduceLE, Int.reduceGT, Int.reduceGE, Int.reduceEq, Int.reduceNeg]) | (refine condF_split (fun hc => ?_) (fun hc => ?_) <;> (try simp only [Bool.not_eq_true', Bool.not_eq_false', Bool.and_eq_true, Bool.or_eq_false_iff] at hc)) | (intro _; intros) | (refine And.intro ?_ ?_; focus (first | omega | ((repeat (first | exact Sub.refl _ | (refine Sub.drop ?_ ?_; focus (simp only [evN, *]; done)) | refine Sub.both ?_)); done) | (simp_all; done) | (simp_all; omega))))))
    all_goals (refine endF_at ⟨rfl, .slice (some ⟨_, 0, none⟩) 1 _, .slice (some ⟨_, 0, none⟩) 1 _, (by first | (simp only [upd_at, *, ↓reduceIte]; done) | (simp only [upd_at, *, ↓reduceIte]; rfl)), rows_mk (by simp) (by assumption) (by first | (simp only [upd_at, *, ↓reduceIte]; done) | (simp only [upd_at, *, ↓reduceIte]; rfl)), rows_mk (by simp) (by assumption) (by first | (simp only [upd_at, *, ↓reduceIte]; done) | (simp only [upd_at, *, ↓reduceIte]; rfl)), (by repeat (first | exact Same.refl _ _ | (refine Same.updNew ?_ ?_; focus (simp only [evN, *]; done)) | (refine Same.both ?_ ?_; focus (first | exact rfl | exact .inl rfl | exact .inr rfl | exact .inr (.inl rfl) | exact .inr (.inr rfl) | exact .inr (.inr (.inl rfl)) | exact .inr (.inr (.inr rfl)))) | (refine Same.updIn ?_ ?_; focus (first | exact rfl | exact .inl rfl | exact .inr rfl | exact .inr (.inl rfl) | exact .inr (.inr rfl) | exact .inr (.inr (.inl rfl)) | exact .inr (.inr (.inr rfl)))) | refine Same.eq ?_)), ?_, ?_⟩)
    all_goals (intro j hj; cases hj; first | exact .inl rfl | exact .inr (by simp only [evN, *]; done))
  · have e1 := crow_ne hg hb1
    have f1 : ¬ b1 = g := fun e => e1 e.symm
    have k1 : ¬ b = b1 := fun e => hbt (by rw [e]; rfl)
    have h0 : ts = [] := by rw [hl] at hll; exact List.length_eq_zero_iff.1 hll.symm
    subst h0
    clear hls hll hl
    simp only [List.flatMap_nil] at hb1
    obtain ⟨τ, rfl⟩ := open_2 hg hb1 e1
    clear hg hb1
    rw [rd_ne _ _ _ hgb, rd_ne _ _ _ k1] at hf
    (refine acalls_F ok69 (by simp) ?_; unfold c69 r69)
    (repeat' (first | (simp +contextual -dsimp only [*, CliC, Msg.cells, TxS.cells, newT, ↓reduceIte, ↓evP, evQ, splice, Nat.reduceAdd, Nat.reduceEqDiff, Nat.reduceLeDiff, Nat.reduceMul, reduceCtorEq, Int.reduceLT, Int.reduceLE, Int.reduceGT, Int.reduceGE, Int.reduceEq, Int.reduceNeg]) | (refine condF_split (fun hc => ?_) (fun hc => ?_) <;> (try simp only [Bool.not_eq_true', Bool.not_eq_false', Bool.and_eq_true, Bool.or_eq_false_iff] at hc)) | refine callF_v (has60 (c := c) (by first | rfl | (simp only [upd_same, upd_at, set_at, *, ↓reduceIte]; done) | (simp only [upd_same, upd_at, set_at, *, ↓reduceIte]; rfl)) _) ?_ | refine ccallF_of (has60 (c := c) (by first | rfl | (simp only [upd_same, upd_at, set_at, *, ↓reduceIte]; done) | (simp only [upd_same, upd_at, set_at, *, ↓reduceIte]; rfl)) _) ?_ | refine gcallF_of (has60 (c := c) (by first | rfl | (simp only [upd_same, upd_at, set_at, *, ↓reduceIte]; done) | (simp only [upd_same, upd_at, set_at, *, ↓reduceIte]; rfl)) _) ?_ | (intro _; intros) | (refine And.intro ?_ ?_; focus (first | omega | ((repeat (first | exact Sub.refl _ | (refine Sub.drop ?_ ?_; focus (simp only [evN, *]; done)) | refine Sub.both ?_)); done) | (simp_all; done) | (simp_all; omega)))))
    refine gcallF_first (new94r _ _ _ _) (fun u σ₁ h => ?_) ?_
    · obtain ⟨t, ht, _, rfl⟩ := h; exact Sub.drop ht (Sub.refl _)
    rintro u σ₁ ⟨t, ht0, rfl, rfl⟩
    simp only [none_upd] at ht0
    (repeat' (first | (simp +contextual -dsimp only [*, CliC, Msg.cells, TxS.cells, newT, ↓reduceIte, ↓evP, evQ, splice, Nat.reduceAdd, Nat.reduceEqDiff, Nat.reduceLeDiff, Nat.reduceMul, reduceCtorEq, Int.reduceLT, Int.reduceLE, Int.reduceGT, Int.reduceGE, Int.reduceEq, Int.reduceNeg]) | (refine condF_split (fun hc => ?_) (fun hc => ?_) <;> (try simp only [Bool.not_eq_true', Bool.not_eq_false', Bool.and_eq_true, Bool.or_eq_false_iff] at hc)) | (intro _; intros) | (refine And.intro ?_ ?_; focus (first | omega | ((repeat (first | exact Sub.refl _ | (refine Sub.drop ?_ ?_; focus (simp only [evN, *]; done)) | refine Sub.both ?_)); done) | (simp_all; done) | (simp_all; omega)))))
    all_goals (refine app_b (by first | (simp only [Nat.reduceMul, Nat.one_mul, Nat.zero_mul, rdn_row, rdn_same, rdn_ne, seg_zero, seg_cons, seg_skip, Option.map_some, not_false_eq_true, *]; done) | (simp only [Nat.reduceMul, Nat.one_mul, Nat.zero_mul, rdn_row, rdn_same, rdn_ne, seg_zero, seg_cons, seg_skip, Option.map_some, not_false_eq_true, *]; exact rfl)) rfl (by simp only [upd_at, *, ↓reduceIte]) (show ([] : List Value).length = 0 * 10 from rfl) (by omega) (by omega) (by unfold maxLen; omega) ?_ ?_)
    all_goals (try (repeat' (first | (simp +contextual -dsimp only [*, CliC, Msg.cells, TxS.cells, newT, ↓reduceIte, ↓evP, evQ, splice, Nat.reduceAdd, Nat.reduceEqDiff, Nat.reduceLeDiff, Nat.reduceMul, reduceCtorEq, Int.reduceLT, Int.reduceLE, Int.reduceGT, Int.reduceGE, Int.reduceEq, Int.reduceNeg]) | (refine condF_split (fun hc => ?_) (fun hc => ?_) <;> (try simp only [Bool.not_eq_true', Bool.not_eq_false', Bool.and_eq_true, Bool.or_eq_false_iff] at hc)) | (intro _; intros) | (refine And.intro ?_ ?_; focus (first | omega | ((repeat (first | exact Sub.refl _ | (refine Sub.drop ?_ ?_; focus (simp only [evN, *]; done)) | refine Sub.both ?_)); done) | (simp_all; done) | (simp_all; omega))))))
    all_goals (refine app_n (by first | (simp only [Nat.reduceMul, Nat.one_mul, Nat.zero_mul, rdn_row, rdn_same, rdn_ne, seg_zero, seg_cons, seg_skip, Option.map_some, not_false_eq_true, *]; done) | (simp only [Nat.reduceMul, Nat.one_mul, Nat.zero_mul, rdn_row, rdn_same, rdn_ne, seg_zero, seg_cons, seg_skip, Option.map_some, not_false_eq_true, *]; exact rfl)) rfl (by omega) (by omega) (by unfold maxLen; omega) ?_)
    all_goals (try (repeat' (first | (simp +contextual -dsimp only [*, CliC, Msg.cells, TxS.cells, newT, ↓reduceIte, ↓evP, evQ, splice, Nat.reduceAdd, Nat.reduceEqDiff, Nat.reduceLeDiff, Nat.reduceMul, reduceCtorEq, Int.reduceLT, Int.reduceLE, Int.reduceGT, Int.reduceGE, Int.reduceEq, Int.reduceNeg]) | (refine condF_split (fun hc => ?_) (fun hc => ?_) <;> (try simp only [Bool.not_eq_true', Bool.not_eq_false', Bool.and_eq_true, Bool.or_eq_false_iff] at hc)) | (intro _; intros) | (refine And.intro ?_ ?_; focus (first | omega | ((repeat (first | exact Sub.refl _ | (refine Sub.drop ?_ ?_; focus (simp only [evN, *]; done)) | refine Sub.both ?_)); done) | (simp_all; done) | (simp_all; omega))))))
    all_goals (refine endF_at ⟨rfl, .slice (some ⟨_, 0, none⟩) 1 _, .slice (some ⟨_, 0, none⟩) 1 _, (by first | (simp only [upd_at, *, ↓reduceIte]; done) | (simp only [upd_at, *, ↓reduceIte]; rfl)), rows_mk (by simp) (by assumption) (by first | (simp only [upd_at, *, ↓reduceIte]; done) | (simp only [upd_at, *, ↓reduceIte]; rfl)), rows_mk (by simp) (by assumption) (by first | (simp only [upd_at, *, ↓reduceIte]; done) | (simp only [upd_at, *, ↓reduceIte]; rfl)), (by repeat (first | exact Same.refl _ _ | (refine Same.updNew ?_ ?_; focus (simp only [evN, *]; done)) | (refine Same.both ?_ ?_; focus (first | exact rfl | exact .inl rfl | exact .inr rfl | exact .inr (.inl rfl) | exact .inr (.inr rfl) | exact .inr (.inr (.inl rfl)) | exact .inr (.inr (.inr rfl)))) | (refine Same.updIn ?_ ?_; focus (first | exact rfl | exact .inl rfl | exact .inr rfl | exact .inr (.inl rfl) | exact .inr (.inr rfl) | exact .inr (.inr (.inl rfl)) | exact .inr (.inr (.inr rfl)))) | refine Same.eq ?_)), ?_, ?_⟩)
    all_goals (intro j hj; cases hj; first | exact .inl rfl | exact .inr (by simp only [evN, *]; done))
  · have e1 := crow_ne hg hb1
    have e2 := crow_ne hg hb2
    have e3 := row_ne hb1 hb2 (by decide)
    have f1 : ¬ b1 = g := fun e => e1 e.symm
    have f2 : ¬ b2 = g := fun e => e2 e.symm
    have f3 : ¬ b2 = b1 := fun e => e3 e.symm
    have k1 : ¬ b = b1 := fun e => hbt (by rw [e]; rfl)
    have k2 : ¬ b = b2 := fun e => hbh (by rw [e]; rfl)
    obtain ⟨τ, rfl⟩ := open_3 hg hb1 hb2
    clear hg hb1 hb2
    rw [rd_ne _ _ _ hgb, rd_ne _ _ _ k1, rd_ne _ _ _ k2] at hf
    rw [hll] at hr ⊢
    (refine acalls_F ok69 (by simp) ?_; unfold c69 r69)
    (repeat' (first | (simp +contextual -dsimp only [*, CliC, Msg.cells, TxS.cells, newT, ↓reduceIte, ↓evP, evQ, splice, Nat.reduceAdd, Nat.reduceEqDiff, Nat.reduceLeDiff, Nat.reduceMul, reduceCtorEq, Int.reduceLT, Int.reduceLE, Int.reduceGT, Int.reduceGE, Int.reduceEq, Int.reduceNeg]) | (refine condF_split (fun hc => ?_) (fun hc => ?_) <;> (try simp only [Bool.not_eq_true', Bool.not_eq_false', Bool.and_eq_true, Bool.or_eq_false_iff] at hc)) | refine callF_v (has60 (c := c) (by first | rfl | (simp only [upd_same, upd_at, set_at, *, ↓reduceIte]; done) | (simp only [upd_same, upd_at, set_at, *, ↓reduceIte]; rfl)) _) ?_ | refine ccallF_of (has60 (c := c) (by first | rfl | (simp only [upd_same, upd_at, set_at, *, ↓reduceIte]; done) | (simp only [upd_same, upd_at, set_at, *, ↓reduceIte]; rfl)) _) ?_ | refine gcallF_of (has60 (c := c) (by first | rfl | (simp only [upd_same, upd_at, set_at, *, ↓reduceIte]; done) | (simp only [upd_same, upd_at, set_at, *, ↓reduceIte]; rfl)) _) ?_ | (intro _; intros) | (refine And.intro ?_ ?_; focus (first | omega | ((repeat (first | exact Sub.refl _ | (refine Sub.drop ?_ ?_; focus (simp only [evN, *]; done)) | refine Sub.both ?_)); done) | (simp_all; done) | (simp_all; omega)))))
    refine gcallF_first (new94r _ _ _ _) (fun u σ₁ h => ?_) ?_
    · obtain ⟨t, ht, _, rfl⟩ := h; exact Sub.drop ht (Sub.refl _)
    rintro u σ₁ ⟨t, ht0, rfl, rfl⟩
    simp only [none_upd] at ht0
    (repeat' (first | (simp +contextual -dsimp only [*, CliC, Msg.cells, TxS.cells, newT, ↓reduceIte, ↓evP, evQ, splice, Nat.reduceAdd, Nat.reduceEqDiff, Nat.reduceLeDiff, Nat.reduceMul, reduceCtorEq, Int.reduceLT, Int.reduceLE, Int.reduceGT, Int.reduceGE, Int.reduceEq, Int.reduceNeg]) | (refine condF_split (fun hc => ?_) (fun hc => ?_) <;> (try simp only [Bool.not_eq_true', Bool.not_eq_false', Bool.and_eq_true, Bool.or_eq_false_iff] at hc)) | (intro _; intros) | (refine And.intro ?_ ?_; focus (first | omega | ((repeat (first | exact Sub.refl _ | (refine Sub.drop ?_ ?_; focus (simp only [evN, *]; done)) | refine Sub.both ?_)); done) | (simp_all; done) | (simp_all; omega)))))
    all_goals (refine app_b (by first | (simp only [Nat.reduceMul, Nat.one_mul, Nat.zero_mul, rdn_row, rdn_same, rdn_ne, seg_zero, seg_cons, seg_skip, Option.map_some, not_false_eq_true, *]; done) | (simp only [Nat.reduceMul, Nat.one_mul, Nat.zero_mul, rdn_row, rdn_same, rdn_ne, seg_zero, seg_cons, seg_skip, Option.map_some, not_false_eq_true, *]; exact rfl)) rfl (by simp only [upd_at, *, ↓reduceIte]) (flat_len tC_len _) (by omega) (by omega) (by unfold maxLen; omega) ?_ ?_)
    all_goals rw [HS.out.1]
    all_goals (try (repeat' (first | (simp +contextual -dsimp only [*, CliC, Msg.cells, TxS.cells, newT, ↓reduceIte, ↓evP, evQ, splice, Nat.reduceAdd, Nat.reduceEqDiff, Nat.reduceLeDiff, Nat.reduceMul, reduceCtorEq, Int.reduceLT, Int.reduceLE, Int.reduceGT, Int.reduceGE, Int.reduceEq, Int.reduceNeg]) | (refine condF_split (fun hc => ?_) (fun hc => ?_) <;> (try simp only [Bool.not_eq_true', Bool.not_eq_false', Bool.and_eq_true, Bool.or_eq_false_iff] at hc)) | (intro _; intros) | (refine And.intro ?_ ?_; focus (first | omega | ((repeat (first | exact Sub.refl _ | (refine Sub.drop ?_ ?_; focus (simp only [evN, *]; done)) | refine Sub.both ?_)); done) | (simp_all; done) | (simp_all; omega))))))
    all_goals (refine app_b (by first | (simp only [Nat.reduceMul, Nat.one_mul, Nat.zero_mul, rdn_row, rdn_same, rdn_ne, seg_zero, seg_cons, seg_skip, Option.map_some, not_false_eq_true, *]; done) | (simp only [Nat.reduceMul, Nat.one_mul, Nat.zero_mul, rdn_row, rdn_same, rdn_ne, seg_zero, seg_cons, seg_skip, Option.map_some, not_false_eq_true, *]; exact rfl)) rfl (by simp only [upd_at, *, ↓reduceIte]) (show (ls.flatMap iC).length = ts.length * 1 by rw [flat_len iC_len, hll]) (by omega) (by omega) (by unfold maxLen; omega) ?_ ?_)
    all_goals rw [← hls, HS.out.2]
    all_goals (try (repeat' (first | (simp +contextual -dsimp only [*, CliC, Msg.cells, TxS.cells, newT, ↓reduceIte, ↓evP, evQ, splice, Nat.reduceAdd, Nat.reduceEqDiff, Nat.reduceLeDiff, Nat.reduceMul, reduceCtorEq, Int.reduceLT, Int.reduceLE, Int.reduceGT, Int.reduceGE, Int.reduceEq, Int.reduceNeg]) | (refine condF_split (fun hc => ?_) (fun hc => ?_) <;> (try simp only [Bool.not_eq_true', Bool.not_eq_false', Bool.and_eq_true, Bool.or_eq_false_iff] at hc)) | (intro _; intros) | (refine And.intro ?_ ?_; focus (first | omega | ((repeat (first | exact Sub.refl _ | (refine Sub.drop ?_ ?_; focus (simp only [evN, *]; done)) | refine Sub.both ?_)); done) | (simp_all; done) | (simp_all; omega))))))
    all_goals (refine endF_at ⟨rfl, .slice (some ⟨_, 0, none⟩) (ts.length + 1) _, .slice (some ⟨_, 0, none⟩) (ts.length + 1) _, (by first | (simp only [upd_at, *, ↓reduceIte]; done) | (simp only [upd_at, *, ↓reduceIte]; rfl)), rows_mk (by simp) (by assumption) (by first | (simp only [upd_at, *, ↓reduceIte]; done) | (simp only [upd_at, *, ↓reduceIte]; rfl)), rows_mk (by simp) (by assumption) (by first | (simp only [upd_at, *, ↓reduceIte]; done) | (simp only [upd_at, *, ↓reduceIte]; rfl)), (by repeat (first | exact Same.refl _ _ | (refine Same.updNew ?_ ?_; focus (simp only [evN, *]; done)) | (refine Same.both ?_ ?_; focus (first | exact rfl | exact .inl rfl | exact .inr rfl | exact .inr (.inl rfl) | exact .inr (.inr rfl) | exact .inr (.inr (.inl rfl)) | exact .inr (.inr (.inr rfl)))) | (refine Same.updIn ?_ ?_; focus (first | exact rfl | exact .inl rfl | exact .inr rfl | exact .inr (.inl rfl) | exact .inr (.inr rfl) | exact .inr (.inr (.inl rfl)) | exact .inr (.inr (.inr rfl)))) | refine Same.eq ?_)), ?_, ?_⟩)
    all_goals (intro j hj; cases hj; first | exact .inl rfl | exact .inr (by simp only [evN, *]; done))
theorem ropen_moved {σ σ' : Hp} {R : RL} (h : RefAt σ R) (ho : ROpened σ R.g R.c R.vs R.vt R.vh R.ss σ') : ∃ vs', RMoved σ R σ' (R.opens vs') := by
  obtain ⟨vs', hg, hr, hs, hv⟩ := ho
  have F : ∀ {α : Type} {E sz : Nat} {f : α → List Value} {v : Value} {l : List α}, RowsAt E sz f σ v l → E ≠ 118 → ∀ j, blk v = some j → ¬ (j = R.g ∨ blk R.vs = some j) := fun r e1 j hj e => by
    rcases e with e | e
    · exact r.notCells h.cli (by rw [hj, e])
    · exact r.apart h.vs e1 hj e
  refine ⟨vs', ⟨hg, hr, h.vt.sameF hs (F h.vt (by decide)), h.vh.sameF hs (F h.vh (by decide)), ?_, ?_, ?_⟩, ?_, ?_⟩
  · intro j x hx
    rcases snoc_get hx with ⟨rfl, rfl⟩ | ⟨_, hx⟩
    · exact .inl ⟨rfl, rfl⟩
    · exact (h.ses j x hx).sameF hs (F (h.ses j x hx) (by decide))
  · intro j x hx
    exact (h.tx j x hx).sameF hs (F (h.tx j x hx) (by decide))
  · intro j x hx
    show x.k < (R.ss ++ [_]).length
    rw [List.length_append]; exact Nat.lt_succ_of_lt (h.home j x hx)
  · exact fun i hi hf => hs i hi fun e => hf (e.imp id .inl)
  · refine ⟨?_, ?_⟩
    · rintro i (e | e | e | e)
      · exact .inl (.inl e)
      · exact (hv i e).imp (fun e => .inr (.inl e)) id
      · exact .inl (.inr (.inr (.inl e)))
      · exact .inl (.inr (.inr (.inr e)))
    · rintro i (⟨x, hx, e⟩ | e)
      · rcases List.mem_append.1 hx with hx | hx
        · exact .inl (.inl ⟨x, hx, e⟩)
        · obtain rfl := List.mem_singleton.1 hx
          cases e
      · exact .inl (.inr e)
theorem ropenR {σ : Hp} {R : RL} (h : RefAt σ R) (hn : R.ss.length < 64) : ACalls Tryz.prog 63 #[.pointer (some ⟨R.g, 0, none⟩)] σ fun u σ' => u = .tuple #[.int .i64 R.ss.length, .int .i64 0] ∧ ∃ vs', RMoved σ R σ' (R.opens vs') :=
  (ropen63 h.cli h.vs hn).mono fun u σ' ⟨h1, h2⟩ => ⟨h1, ropen_moved h h2⟩
theorem ropenF {σ : Hp} {R : RL} (h : RefAt σ R) (hn : R.ss.length = 64) : ACalls Tryz.prog 63 #[.pointer (some ⟨R.g, 0, none⟩)] σ fun u σ' => u = .tuple #[.int .i64 0, .int .i64 2] ∧ σ' = σ := by
  obtain ⟨a, c, hv⟩ := h.vs.slice
  have hg := h.cli
  rw [hv, hn] at hg
  exact ropen63f hg
/-- One transaction more. -/
def RL.begins (R : RL) (vt' vh' : Value) (i : Nat) (f : Int) : RL := { R with vt := vt', vh := vh', ts := R.ts ++ [⟨newT R.ts.length R.c.nodes f, .slice none 0 0, i⟩] }
theorem rbegin_moved {σ σ' : Hp} {R : RL} {i : Nat} {f : Int} (h : RefAt σ R) (hi : i < R.ss.length) (hb : RBegun σ R.g R.c R.vs R.vt R.vh R.ts i f σ') : ∃ vt' vh', RMoved σ R σ' (R.begins vt' vh' i f) := by
  obtain ⟨vt', vh', hg, hr1, hr2, hs, hv1, hv2⟩ := hb
  have F : ∀ {α : Type} {E sz : Nat} {f : α → List Value} {v : Value} {l : List α}, RowsAt E sz f σ v l → E ≠ 112 → E ≠ 3 → ∀ j, blk v = some j → ¬ (j = R.g ∨ blk R.vt = some j ∨ blk R.vh = some j) := fun r e1 e2 j hj e => by
    rcases e with e | e | e
    · exact r.notCells h.cli (by rw [hj, e])
    · exact r.apart h.vt e1 hj e
    · exact r.apart h.vh e2 hj e
  refine ⟨vt', vh', ⟨hg, h.vs.sameF hs (F h.vs (by decide) (by decide)), hr1, hr2, ?_, ?_, ?_⟩, ?_, ?_⟩
  · intro j x hx
    exact (h.ses j x hx).sameF hs (F (h.ses j x hx) (by decide) (by decide))
  · intro j x hx
    rcases snoc_get hx with ⟨rfl, rfl⟩ | ⟨_, hx⟩
    · exact .inl ⟨rfl, rfl⟩
    · exact (h.tx j x hx).sameF hs (F (h.tx j x hx) (by decide) (by decide))
  · intro j x hx
    rcases snoc_get hx with ⟨rfl, rfl⟩ | ⟨_, hx⟩
    · exact hi
    · exact h.home j x hx
  · exact fun i hi hf => hs i hi fun e => hf (e.imp id fun e => e.elim (fun e => .inr (.inl e)) fun e => .inr (.inr e))
  · refine ⟨?_, ?_⟩
    · rintro j (e | e | e | e)
      · exact .inl (.inl e)
      · exact .inl (.inr (.inl e))
      · exact (hv1 j e).imp (fun e => .inr (.inr (.inl e))) id
      · exact (hv2 j e).imp (fun e => .inr (.inr (.inr e))) id
    · rintro j (e | ⟨x, hx, e⟩)
      · exact .inl (.inl e)
      · rcases List.mem_append.1 hx with hx | hx
        · exact .inl (.inr ⟨x, hx, e⟩)
        · obtain rfl := List.mem_singleton.1 hx
          cases e
theorem rbeginR {σ : Hp} {R : RL} {i : Nat} {s : RS} (h : RefAt σ R) (hi : R.ss[i]? = some s) (hn : R.ts.length < 256) : ACalls Tryz.prog 69 #[.pointer (some ⟨R.g, 0, none⟩), .int .i64 i] σ fun u σ' => u = .tuple #[.int .i64 R.ts.length, .int .i64 0] ∧ ∃ vt' vh', RMoved σ R σ' (R.begins vt' vh' i s.S.floor) := by
  obtain ⟨b, c, A, B, p⟩ := sesIn h hi
  have hg := h.cli
  rw [p.v] at hg
  have hlt := (List.getElem?_eq_some_iff.1 hi).1
  refine (rbegin69 hg h.vt h.vh hlt (f := s.S.floor) (by rw [rd_at p.at_, ← p.len, win_get]; rfl) (fun e => crow_ne hg p.at_ e.symm) (h.vt.notRow p.at_ (by decide)) (h.vh.notRow p.at_ (by decide)) hn).mono fun u σ' ⟨h1, h2⟩ => ⟨h1, ?_⟩
  rw [← p.v] at h2
  exact rbegin_moved h hlt h2
theorem rbeginF {σ : Hp} {R : RL} {i : Nat} {s : RS} (h : RefAt σ R) (hi : R.ss[i]? = some s) (hn : R.ts.length = 256) : ACalls Tryz.prog 69 #[.pointer (some ⟨R.g, 0, none⟩), .int .i64 i] σ fun u σ' => u = .tuple #[.int .i64 0, .int .i64 2] ∧ σ' = σ := by
  obtain ⟨b, c, A, B, p⟩ := sesIn h hi
  obtain ⟨a, c2, hv⟩ := h.vt.slice
  have hg := h.cli
  rw [p.v, hv, hn] at hg
  exact rbegin69f hg (List.getElem?_eq_some_iff.1 hi).1
theorem rout {σ : Hp} {R : RL} (h : RefAt σ R) : ∃ A c A2 c2 vh, σ R.g = some (.cells (CliC R.c (.slice A R.ss.length c) (.slice A2 R.ts.length c2) vh) 71) := by
  obtain ⟨a, c, hv⟩ := h.vs.slice
  obtain ⟨a2, c2, hv2⟩ := h.vt.slice
  have hg := h.cli
  rw [hv, hv2] at hg
  exact ⟨_, _, _, _, _, hg⟩
/-- Client and reference, beside what was there: σ0. -/
structure Pair (σ0 σ : Hp) (C : CL) (R : RL) : Prop where
  c : CliAt σ C
  r : RefAt σ R
  sub : Sub σ0 σ
  newC : ∀ k, C.own k → σ0 k = none
  newR : ∀ k, R.own k → σ0 k = none
  apart : ∀ k, C.own k → ¬ R.own k
  apart2 : ∀ k, C.own k → ¬ R.use k
theorem Pair.cmove {σ0 σ σ1 : Hp} {C C' : CL} {R : RL} (h : Pair σ0 σ C R) (m : Moved σ C σ1 C') : Pair σ0 σ1 C' R :=
  ⟨m.1, h.r.keep m.2.1 (fun k hk e => h.apart k e hk) (fun k hk e => h.apart2 k e hk), (m.sub h.sub h.newC).1, (m.sub h.sub h.newC).2, h.newR, fun k hk hr => (m.2.2 k hk).elim (fun e => h.apart k e hr) fun e => h.r.known hr e, fun k hk hr => (m.2.2 k hk).elim (fun e => h.apart2 k e hr) fun e => h.r.known2 hr e⟩
theorem Pair.rmove {σ0 σ σ1 : Hp} {C : CL} {R R' : RL} (h : Pair σ0 σ C R) (m : RMoved σ R σ1 R') : Pair σ0 σ1 C R' :=
  ⟨h.c.keep m.2.1 fun k hk e => h.apart k hk e, m.1, (m.sub h.sub h.newR).1, h.newC, (m.sub h.sub h.newR).2, fun k hk hr => (m.2.2.1 k hr).elim (fun e => h.apart k hk e) fun e => h.c.known hk e, fun k hk hr => (m.2.2.2 k hr).elim (fun e => h.apart2 k hk e) fun e => e.elim (fun e => h.apart k hk e) fun e => h.c.known hk e⟩
theorem Pair.cli {σ0 σ : Hp} {C : CL} {R : RL} (h : Pair σ0 σ C R) : Cli σ0 σ C := ⟨h.c, h.sub, h.newC⟩
theorem Pair.ref {σ0 σ : Hp} {C : CL} {R : RL} (h : Pair σ0 σ C R) : Ref σ0 σ R := ⟨h.r, h.sub, h.newR⟩
theorem Pair.keep {σ0 σ σ1 : Hp} {C : CL} {R : RL} {F : Nat → Prop} (h : Pair σ0 σ C R) (hs : Same F σ σ1) (h1 : ∀ k, F k → ¬ C.own k) (h2 : ∀ k, F k → ¬ R.own k) (h4 : ∀ k, F k → ¬ R.use k) (h3 : ∀ k, F k → σ0 k = none) : Pair σ0 σ1 C R :=
  ⟨h.c.keep hs fun k hk e => h1 k e hk, h.r.keep hs (fun k hk e => h2 k e hk) (fun k hk e => h4 k e hk), h.sub.same hs h3, h.newC, h.newR, h.apart, h.apart2⟩
theorem Pair.fresh {σ0 σ : Hp} {C : CL} {R : RL} (h : Pair σ0 σ C R) {b : Nat} (hb : σ b = none) (X : Blk) : Pair σ0 (upd σ b X) C R :=
  h.keep (F := fun _ => False) (Same.updNew hb (Same.refl _ _)) (fun _ x => x.elim) (fun _ x => x.elim) (fun _ x => x.elim) (fun _ x => x.elim)
structure SesOk (S : SesS) (n : Nat) : Prop where
  q0 : 0 ≤ S.seq
  q1 : S.seq ≤ n
  t0 : 0 ≤ S.tries
  t1 : S.tries ≤ n
theorem SesOk.up {S : SesS} {n : Nat} (h : SesOk S n) : SesOk S (n + 1) := by
  obtain ⟨a, b, c, d⟩ := h
  exact ⟨a, by omega, c, by omega⟩
theorem raise_f (S : SesS) (n : Int) : (S.raise n).seq = S.seq ∧ (S.raise n).tries = S.tries ∧ (S.raise n).busy = S.busy := by
  unfold SesS.raise; cases decide (n ≤ 1099511627776) <;> exact ⟨rfl, rfl, rfl⟩
theorem joined_f (S : SesS) (s : ByteArray) : (S.joined s).seq = S.seq ∧ (S.joined s).tries = S.tries ∧ (S.joined s).busy = S.busy := by
  unfold SesS.joined; cases decide (parE s = 0)
  · exact ⟨rfl, rfl, rfl⟩
  · exact raise_f _ _
theorem acked_f (S : SesS) (m : Msg) : (S.acked m).seq = S.seq ∧ (S.acked m).tries = 0 ∧ (S.acked m).busy = false := by
  unfold SesS.acked; cases decide (m.err = 0)
  · exact ⟨rfl, rfl, rfl⟩
  · exact raise_f _ _
theorem SesOk.raise {S : SesS} {k : Nat} (h : SesOk S k) (n : Int) : SesOk (S.raise n) (k + 1) := by
  obtain ⟨e1, e2, _⟩ := raise_f S n
  obtain ⟨a, b, c, d⟩ := h
  exact ⟨by rw [e1]; exact a, by rw [e1]; omega, by rw [e2]; exact c, by rw [e2]; omega⟩
theorem SesOk.joined {S : SesS} {k : Nat} (h : SesOk S k) (s : ByteArray) : SesOk (S.joined s) (k + 1) := by
  obtain ⟨e1, e2, _⟩ := joined_f S s
  obtain ⟨a, b, c, d⟩ := h
  exact ⟨by rw [e1]; exact a, by rw [e1]; omega, by rw [e2]; exact c, by rw [e2]; omega⟩
theorem SesOk.acked {S : SesS} {k : Nat} (h : SesOk S k) (m : Msg) : SesOk (S.acked m) (k + 1) := by
  obtain ⟨e1, e2, _⟩ := acked_f S m
  obtain ⟨a, b, c, d⟩ := h
  exact ⟨by rw [e1]; exact a, by rw [e1]; omega, by rw [e2]; omega, by rw [e2]; omega⟩
theorem SesOk.sent {S : SesS} {k : Nat} (h : SesOk S k) (hk : k < 9223372036854775807) : SesOk S.sent (k + 1) := by
  obtain ⟨a, b, c, d⟩ := h
  have e : S.sent.seq = S.seq + 1 := wi64 (by omega)
  exact ⟨by rw [e]; omega, by rw [e]; omega, by show (0 : Int) ≤ 0; omega, by show (0 : Int) ≤ _; omega⟩
theorem SesOk.tried {S : SesS} {k : Nat} (h : SesOk S k) (hk : k < 9223372036854775807) : SesOk S.tried (k + 1) := by
  obtain ⟨a, b, c, d⟩ := h
  have e : S.tried.tries = S.tries + 1 := wi64 (by omega)
  exact ⟨a, by show S.seq ≤ _; omega, by rw [e]; omega, by rw [e]; omega⟩
theorem SesOk.ended {S : SesS} {k : Nat} (h : SesOk S k) (e : Int) : SesOk (S.ended e) (k + 1) := by
  obtain ⟨a, b, c, d⟩ := h
  exact ⟨a, by show S.seq ≤ _; omega, by show (0 : Int) ≤ 0; omega, by show (0 : Int) ≤ _; omega⟩
structure Inv (T : TxS) (n : Nat) : Prop where
  st : 0 ≤ T.st ∧ T.st ≤ 4
  key : T.key.size ≤ 140737488351232
  reads : T.reads.length ≤ n
theorem st0 : 0 ≤ (0 : Int) ∧ (0 : Int) ≤ 4 := by decide
theorem st1 : 0 ≤ (1 : Int) ∧ (1 : Int) ≤ 4 := by decide
theorem st2 : 0 ≤ (2 : Int) ∧ (2 : Int) ≤ 4 := by decide
theorem st3 : 0 ≤ (3 : Int) ∧ (3 : Int) ≤ 4 := by decide
theorem st4 : 0 ≤ (4 : Int) ∧ (4 : Int) ≤ 4 := by decide
theorem keyB_read {T : TxS} {key : ByteArray} (h : T.key.size ≤ 140737488351232) (hk : key.size ≤ 140737488351232) : (T.read key).1.key.size ≤ 140737488351232 := by
  unfold TxS.read
  cases decide (T.st ≥ 3) <;> cases T.busy <;> cases goodK key <;> first | exact h | (cases T.find key <;> first | exact h | exact hk)
theorem Inv.read {T : TxS} {n : Nat} (h : Inv T n) (key : ByteArray) (hk : key.size ≤ 140737488351232) : Inv (T.read key).1 n := by
  refine ⟨?_, keyB_read h.key hk, by rw [reads_read]; exact h.reads⟩
  unfold TxS.read
  cases decide (T.st ≥ 3) <;> cases T.busy <;> cases goodK key <;> first | exact h.st | (cases T.find key <;> first | exact h.st | first | exact st0 | exact st1 | exact st2 | exact st3 | exact st4)
theorem Inv.again {T : TxS} {n : Nat} (h : Inv T n) (r : Int) : Inv (T.again r).1 n := by
  refine ⟨?_, ?_, by rw [reads_again]; exact h.reads⟩
  all_goals unfold TxS.again
  · cases T.busy <;> cases decide (T.tr < r) <;> cases decide (T.st = 1) <;> first | exact h.st | first | exact st0 | exact st1 | exact st2 | exact st3 | exact st4
  · cases T.busy <;> cases decide (T.tr < r) <;> cases decide (T.st = 1) <;> first | exact h.key | (show (⟨#[]⟩ : ByteArray).size ≤ _; decide)
theorem Inv.finish {T : TxS} {n : Nat} (h : Inv T n) : Inv T.finish.1 n := by
  refine ⟨?_, ?_, by rw [reads_finish]; exact h.reads⟩
  all_goals unfold TxS.finish
  · cases decide (T.st = 3) <;> cases decide (T.st = 4) <;> cases T.busy <;> first | exact h.st | first | exact st0 | exact st1 | exact st2 | exact st3 | exact st4
  · cases decide (T.st = 3) <;> cases decide (T.st = 4) <;> cases T.busy <;> first | exact h.key | (show (⟨#[]⟩ : ByteArray).size ≤ _; decide)
theorem Inv.takes {T : TxS} {n : Nat} (h : Inv T n) (has : Bool) (data : ByteArray) (lo hi : Int) : Inv (T.takes has data lo hi) (n + 1) := by
  unfold TxS.takes
  cases T.fits lo hi with
  | false => exact ⟨h.st, h.key, Nat.le_succ_of_le h.reads⟩
  | true => exact ⟨st0, (by show (⟨#[]⟩ : ByteArray).size ≤ _; decide), by show (T.reads ++ [_]).length ≤ _; rw [List.length_append]; exact Nat.succ_le_succ h.reads⟩
theorem Inv.up {T : TxS} {n : Nat} (h : Inv T n) : Inv T (n + 1) := ⟨h.st, h.key, Nat.le_succ_of_le h.reads⟩
theorem Inv.hear {T : TxS} {n : Nat} (h : Inv T n) (m : Msg) : Inv (T.hear m).1 (n + 1) := by
  have a : Inv (T.asks 2 T.key) (n + 1) := ⟨st2, h.key, Nat.le_succ_of_le h.reads⟩
  have b : Inv (T.rests 4 m.err) (n + 1) := ⟨st4, (by show (⟨#[]⟩ : ByteArray).size ≤ _; decide), Nat.le_succ_of_le h.reads⟩
  have c := h.takes m.has m.data m.lo m.hi
  unfold TxS.hear
  cases (T.busy && decide (m.tx = T.id) && decide (m.seq = T.seq)) <;> cases (decide (m.kind = 4) && decide (T.st = 1)) <;> cases (decide (m.kind = 6) && decide (T.st = 2)) <;> cases (m.hit && T.fits m.lo m.hi) <;> cases decide (m.err = 0) <;> first | exact h.up | exact a | exact b | exact c
structure Alike (C : CL) (R : RL) (n : Nat) : Prop where
  cfg : R.c = C.c
  nS : R.ss.length = C.ss.length
  nS64 : C.ss.length ≤ 64
  nT : R.ts.length = C.ts.length
  nT256 : C.ts.length ≤ 256
  ses : ∀ (i : Nat) s r, C.ss[i]? = some s → R.ss[i]? = some r → r.S = s.S ∧ (s.S.busy = true → r.ws = s.ws) ∧ SesOk s.S n ∧ s.ws.length ≤ 8
  tx : ∀ (i : Nat) t q, C.ts[i]? = some t → R.ts[i]? = some q → q.T = t.T ∧ q.k = t.k ∧ Inv t.T n
theorem Alike.up {C : CL} {R : RL} {n : Nat} (h : Alike C R n) : Alike C R (n + 1) :=
  ⟨h.cfg, h.nS, h.nS64, h.nT, h.nT256, fun i s r h1 h2 => by obtain ⟨a, b, c, d⟩ := h.ses i s r h1 h2; exact ⟨a, b, c.up, d⟩, fun i t q h1 h2 => by obtain ⟨a, b, c⟩ := h.tx i t q h1 h2; exact ⟨a, b, c.up⟩⟩
theorem Alike.ses_ {C : CL} {R : RL} {n i : Nat} {s : SR} {S' : SesS} {v v' : Value} {ws ws' : List Wr} (h : Alike C R n) (hs : SesOk S' (n + 1)) (hb : S'.busy = true → ws' = ws) (hl : ws.length ≤ 8) : Alike (C.ses i s S' v ws) (R.ses i S' v' ws') (n + 1) := by
  have h := h.up
  refine ⟨h.cfg, ?_, ?_, h.nT, h.nT256, ?_, h.tx⟩
  · show (R.ss.set i _).length = (C.ss.set i _).length
    rw [List.length_set, List.length_set]; exact h.nS
  · show (C.ss.set i _).length ≤ 64
    rw [List.length_set]; exact h.nS64
  · intro j x y hx hy
    rcases get_set hx with ⟨e1, rfl, _⟩ | ⟨e1, hx'⟩ <;> rcases get_set hy with ⟨e2, rfl, _⟩ | ⟨e2, hy'⟩
    · exact ⟨rfl, hb, hs, hl⟩
    · exact absurd e1 e2
    · exact absurd e2 e1
    · exact h.ses j x y hx' hy'
theorem Alike.tx_ {C : CL} {R : RL} {n i : Nat} {t : TR} {q : RT} {T' : TxS} {v v' : Value} (h : Alike C R n) (hk : q.k = t.k) (hT : Inv T' (n + 1)) : Alike (C.tx i t T' v) (R.tx i q T' v') (n + 1) := by
  have h := h.up
  refine ⟨h.cfg, h.nS, h.nS64, ?_, ?_, h.ses, ?_⟩
  · show (R.ts.set i _).length = (C.ts.set i _).length
    rw [List.length_set, List.length_set]; exact h.nT
  · show (C.ts.set i _).length ≤ 256
    rw [List.length_set]; exact h.nT256
  · intro j x y hx hy
    rcases get_set hx with ⟨e1, rfl, _⟩ | ⟨e1, hx'⟩ <;> rcases get_set hy with ⟨e2, rfl, _⟩ | ⟨e2, hy'⟩
    · exact ⟨rfl, hk, hT⟩
    · exact absurd e1 e2
    · exact absurd e2 e1
    · exact h.tx j x y hx' hy'
theorem Alike.opens_ {C : CL} {R : RL} {n k : Nat} {vs vs' : Value} (h : Alike C R n) (hn : C.ss.length < 64) : Alike (C.opens k vs) (R.opens vs') (n + 1) := by
  have h := h.up
  refine ⟨h.cfg, ?_, ?_, h.nT, h.nT256, ?_, h.tx⟩
  · show (R.ss ++ [_]).length = (C.ss ++ [_]).length
    rw [List.length_append, List.length_append, h.nS]; rfl
  · show (C.ss ++ [_]).length ≤ 64
    rw [List.length_append]; show _ + 1 ≤ 64; omega
  · intro j x y hx hy
    rcases snoc_get hx with ⟨e1, rfl⟩ | ⟨e1, hx'⟩ <;> rcases snoc_get hy with ⟨e2, rfl⟩ | ⟨e2, hy'⟩
    · exact ⟨by rw [h.nS], fun e => (by cases e), ⟨by show (0 : Int) ≤ 0; omega, by show (0 : Int) ≤ _; omega, by show (0 : Int) ≤ 0; omega, by show (0 : Int) ≤ _; omega⟩, Nat.zero_le _⟩
    · have := h.nS; omega
    · have := h.nS; omega
    · exact h.ses j x y hx' hy'
theorem Alike.begins_ {C : CL} {R : RL} {n k i : Nat} {s : SR} {vt vh vt' vh' : Value} (h : Alike C R n) (hn : C.ts.length < 256) : Alike (C.begins k vt vh i s) (R.begins vt' vh' i s.S.floor) (n + 1) := by
  have h := h.up
  refine ⟨h.cfg, h.nS, h.nS64, ?_, ?_, h.ses, ?_⟩
  · show (R.ts ++ [_]).length = (C.ts ++ [_]).length
    rw [List.length_append, List.length_append, h.nT]; rfl
  · show (C.ts ++ [_]).length ≤ 256
    rw [List.length_append]; show _ + 1 ≤ 256; omega
  · intro j x y hx hy
    rcases snoc_get hx with ⟨e1, rfl⟩ | ⟨e1, hx'⟩ <;> rcases snoc_get hy with ⟨e2, rfl⟩ | ⟨e2, hy'⟩
    · exact ⟨by rw [h.nT, h.cfg], rfl, ⟨⟨by show (0 : Int) ≤ 0; omega, by show (0 : Int) ≤ 4; omega⟩, by show (⟨#[]⟩ : ByteArray).size ≤ _; decide, Nat.zero_le _⟩⟩
    · have := h.nT; omega
    · have := h.nT; omega
    · exact h.tx j x y hx' hy'
theorem Alike.fin_ {C : CL} {R : RL} {n i : Nat} {t : TR} {q : RT} {s : SR} {r : RS} (h : Alike C R n) (ht : C.ts[i]? = some t) (hq : R.ts[i]? = some q) (hs : C.ss[t.k]? = some s) (hr : R.ss[q.k]? = some r) : Alike (C.fin i t s) (R.fin i q r) (n + 1) := by
  obtain ⟨e1, e2, hI⟩ := h.tx i t q ht hq
  rw [e2] at hr
  obtain ⟨a, b, c, d⟩ := h.ses t.k s r hs hr
  have m : Alike (C.tx i t t.T.finish.1 t.v) (R.tx i q t.T.finish.1 q.v) (n + 1) := h.tx_ e2 hI.finish.up
  unfold CL.fin RL.fin
  rw [e1, e2, a]
  cases decide (t.T.finish.2.2 = 0)
  · exact m
  · have hu := m
    refine ⟨m.cfg, ?_, ?_, m.nT, m.nT256, ?_, m.tx⟩
    · show (R.ss.set _ _).length = (C.ss.set _ _).length
      rw [List.length_set, List.length_set]; exact h.nS
    · show (C.ss.set _ _).length ≤ 64
      rw [List.length_set]; exact h.nS64
    · intro j x y hx hy
      rcases get_set hx with ⟨f1, rfl, _⟩ | ⟨f1, hx'⟩ <;> rcases get_set hy with ⟨f2, rfl, _⟩ | ⟨f2, hy'⟩
      · exact ⟨rfl, fun hb => b (by rw [← (raise_f s.S t.T.finish.2.1).2.2]; exact hb), c.raise _, d⟩
      · exact absurd f1 f2
      · exact absurd f2 f1
      · exact m.ses j x y hx' hy'
set_option maxRecDepth 100000
/-- vouch/vouchlaw18.ClientPlays -/
def c3 : C := (.seq (.reg [(rO 2 (.box 23 (.tmp 0))),
 (rO 4 (.mv (.const (.bool false))))])
 (.seq (.seq (.reg [(rO 8 (.call 5 [])),
 (rO 9 (.nt (.tmp 8)))])
 (.cond (.tmp 9) (.seq (.reg [(rO 4 (.mv (.const (.bool false))))])
 .ret)
 .skip))
 (.seq (.draw [⟨(rO 10 (.ld (some 8) (.tmp 2))), .l⟩,
 ⟨(rO 11 (.call 6 [(.tmp 10)])), .g⟩,
 ⟨(rO 12 (.ld (some 8) (.tmp 2))), .l⟩,
 ⟨(rO 13 (.call 7 [(.tmp 12)])), .m⟩,
 ⟨(rO 5 (.mv (.tmp 11))), .p⟩,
 ⟨(rO 6 (.mv (.tmp 13))), .p⟩])
 (.seq (.seq (.reg [(rO 14 (.mv (.tmp 5))),
 (rO 15 (.eqs false .ptr (.tmp 14) (.const (.pointer none))))])
 (.cond (.tmp 15) (.seq (.reg [(rO 4 (.mv (.const (.bool false))))])
 .ret)
 .skip))
 (.seq (.seq (.reg [(rO 7 (.mv (.const (.int .i64 0))))])
 (.block 0 (.loop (.seq (.seq (.reg [(rO 16 (.mv (.tmp 7))),
 (rO 17 (.mv (.tmp 1))),
 (rO 18 (.len true (.tmp 17))),
 (rO 19 (.bin .lss (.tmp 16) (.tmp 18)))])
 (.cond (.tmp 19) .skip
 (.exit 0)))
 (.seq (.block 1 (.seq (.draw [⟨(rO 22 (.mv (.tmp 5))), .p⟩,
 ⟨(rO 23 (.mv (.tmp 6))), .p⟩,
 ⟨(rO 24 (.mv (.tmp 1))), .p⟩,
 ⟨(rO 25 (.mv (.tmp 7))), .p⟩,
 ⟨(rO 26 (.ia 21 (.tmp 24) (.tmp 25))), .p⟩,
 ⟨(rO 27 (.ld (some 21) (.tmp 26))), .l⟩,
 ⟨(rO 28 (.call 8 [(.tmp 22), (.tmp 23), (.tmp 27)])), .m⟩,
 ⟨(rO 29 (.nt (.tmp 28))), .p⟩,
 ⟨(rO 30 (.mv (.tmp 29))), .p⟩,
 ⟨⟨(some 31), (.mv (.tmp 5)), (some (30, false))⟩, .p⟩,
 ⟨⟨(some 32), (.mv (.tmp 6)), (some (30, false))⟩, .p⟩,
 ⟨⟨(some 33), (.mv (.tmp 1)), (some (30, false))⟩, .p⟩,
 ⟨⟨(some 34), (.mv (.tmp 7)), (some (30, false))⟩, .p⟩,
 ⟨⟨(some 35), (.ia 21 (.tmp 33) (.tmp 34)), (some (30, false))⟩, .p⟩,
 ⟨⟨(some 36), (.fa 1 (.tmp 35)), (some (30, false))⟩, .p⟩,
 ⟨⟨(some 37), (.ld none (.tmp 36)), (some (30, false))⟩, .l⟩,
 ⟨⟨(some 38), (.mv (.tmp 1)), (some (30, false))⟩, .p⟩,
 ⟨⟨(some 39), (.mv (.tmp 7)), (some (30, false))⟩, .p⟩,
 ⟨⟨(some 40), (.ia 21 (.tmp 38) (.tmp 39)), (some (30, false))⟩, .p⟩,
 ⟨⟨(some 41), (.fa 2 (.tmp 40)), (some (30, false))⟩, .p⟩,
 ⟨⟨(some 42), (.ld none (.tmp 41)), (some (30, false))⟩, .l⟩,
 ⟨⟨(some 43), (.call 9 [(.tmp 31), (.tmp 32), (.tmp 37), (.tmp 42)]), (some (30, false))⟩, .m⟩,
 ⟨⟨(some 44), (.nt (.tmp 43)), (some (30, false))⟩, .p⟩,
 ⟨(rO 45 (.pick (.tmp 30) (.const (.bool true)) (.tmp 44))), .p⟩])
 (.cond (.tmp 45) (.seq (.reg [(rO 4 (.mv (.const (.bool false))))])
 .ret)
 .skip)))
 (.reg [(rO 20 (.mv (.tmp 7))),
 (rO 21 (.bin .add (.tmp 20) (.const (.int .i64 1)))),
 (rO 7 (.mv (.tmp 21)))]))))))
 (.seq (.reg [(rO 4 (.mv (.const (.bool true))))])
 .ret))))))
def r3 : List RV := [.tmp 4]
/-- vouch/vouchlaw18.step -/
def c8 : C := (.seq (.reg [(rO 5 (.box 41 (.tmp 2))),
 (rO 6 (.mv (.const (.bool false))))])
 (.seq (.seq (.reg [(rO 25 (.fa 0 (.tmp 5))),
 (rO 26 (.ld none (.tmp 25))),
 (rO 27 (.bin .rem (.tmp 26) (.const (.int .u8 10))))])
 (.block 0 (.seq (.reg [(rO 29 (.bin .eql (.tmp 27) (.const (.int .u8 6)))),
 (rO 28 (.mv (.tmp 29)))])
 (.cond (.tmp 28) (.seq (.reg [(rO 31 (.mv (.tmp 0))),
 (rO 32 (.fa 2 (.tmp 5))),
 (rO 33 (.ld none (.tmp 32))),
 (rO 34 (.fa 3 (.tmp 5))),
 (rO 35 (.ld none (.tmp 34))),
 (rO 36 (.call 22 [(.tmp 31), (.tmp 33), (.tmp 35)])),
 (rO 30 (.mv (.tmp 36))),
 (rO 37 (.ext 0 (.tmp 30))),
 (rO 38 (.ext 1 (.tmp 30))),
 (rO 39 (.ext 2 (.tmp 30))),
 (rO 7 (.new 35 [.bool false, .string ⟨#[]⟩])),
 (rO 8 (.new 39 [.int .i64 (0), .int .i64 (0), .int .i64 (0), .int .i64 (0), .int .i64 (0), .int .i64 (0), .string ⟨#[]⟩, .int .i64 (0), .int .i64 (0), .bool false, .string ⟨#[]⟩, .bool false, .int .i64 (0), .int .i64 (0), .slice none 0 0, .slice none 0 0])),
 ⟨none, (.st 2 (.tmp 7) (.tmp 37)), none⟩,
 ⟨none, (.st 16 (.tmp 8) (.tmp 38)), none⟩,
 (rO 9 (.mv (.tmp 39)))])
 (.seq (.reg [(rO 41 (.mv (.tmp 1))),
 (rO 42 (.fa 2 (.tmp 5))),
 (rO 43 (.ld none (.tmp 42))),
 (rO 44 (.fa 3 (.tmp 5))),
 (rO 45 (.ld none (.tmp 44))),
 (rO 46 (.call 23 [(.tmp 41), (.tmp 43), (.tmp 45)])),
 (rO 40 (.mv (.tmp 46))),
 (rO 47 (.ext 0 (.tmp 40))),
 (rO 48 (.ext 1 (.tmp 40))),
 (rO 49 (.ext 2 (.tmp 40))),
 (rO 10 (.new 35 [.bool false, .string ⟨#[]⟩])),
 (rO 11 (.new 39 [.int .i64 (0), .int .i64 (0), .int .i64 (0), .int .i64 (0), .int .i64 (0), .int .i64 (0), .string ⟨#[]⟩, .int .i64 (0), .int .i64 (0), .bool false, .string ⟨#[]⟩, .bool false, .int .i64 (0), .int .i64 (0), .slice none 0 0, .slice none 0 0])),
 ⟨none, (.st 2 (.tmp 10) (.tmp 47)), none⟩,
 ⟨none, (.st 16 (.tmp 11) (.tmp 48)), none⟩,
 (rO 12 (.mv (.tmp 49)))])
 (.seq (.reg [(rO 50 (.ld (some 2) (.tmp 7))),
 (rO 51 (.ld (some 2) (.tmp 10))),
 (rO 52 (.eqa false [.truth, .text] (.tmp 50) (.tmp 51))),
 (rO 53 (.mv (.tmp 52))),
 ⟨(some 54), (.ld (some 16) (.tmp 8)), (some (53, true))⟩,
 ⟨(some 55), (.ld (some 16) (.tmp 11)), (some (53, true))⟩,
 ⟨(some 56), (.call 24 [(.tmp 54), (.tmp 55)]), (some (53, true))⟩,
 (rO 57 (.pick (.tmp 53) (.tmp 56) (.const (.bool false)))),
 (rO 58 (.mv (.tmp 57))),
 ⟨(some 59), (.mv (.tmp 9)), (some (58, true))⟩,
 ⟨(some 60), (.mv (.tmp 12)), (some (58, true))⟩,
 ⟨(some 61), (.bin .eql (.tmp 59) (.tmp 60)), (some (58, true))⟩,
 (rO 62 (.pick (.tmp 58) (.tmp 61) (.const (.bool false)))),
 (rO 6 (.mv (.tmp 62)))])
 .ret)))
 (.seq (.reg [(rO 64 (.bin .eql (.tmp 27) (.const (.int .u8 7)))),
 (rO 63 (.mv (.tmp 64)))])
 (.cond (.tmp 63) (.seq (.reg [(rO 66 (.mv (.tmp 0))),
 (rO 67 (.fa 2 (.tmp 5))),
 (rO 68 (.ld none (.tmp 67))),
 (rO 69 (.call 25 [(.tmp 66), (.tmp 68)])),
 (rO 65 (.mv (.tmp 69))),
 (rO 70 (.ext 0 (.tmp 65))),
 (rO 71 (.ext 1 (.tmp 65))),
 (rO 13 (.new 39 [.int .i64 (0), .int .i64 (0), .int .i64 (0), .int .i64 (0), .int .i64 (0), .int .i64 (0), .string ⟨#[]⟩, .int .i64 (0), .int .i64 (0), .bool false, .string ⟨#[]⟩, .bool false, .int .i64 (0), .int .i64 (0), .slice none 0 0, .slice none 0 0])),
 ⟨none, (.st 16 (.tmp 13) (.tmp 70)), none⟩,
 (rO 14 (.mv (.tmp 71)))])
 (.seq (.reg [(rO 73 (.mv (.tmp 1))),
 (rO 74 (.fa 2 (.tmp 5))),
 (rO 75 (.ld none (.tmp 74))),
 (rO 76 (.call 26 [(.tmp 73), (.tmp 75)])),
 (rO 72 (.mv (.tmp 76))),
 (rO 77 (.ext 0 (.tmp 72))),
 (rO 78 (.ext 1 (.tmp 72))),
 (rO 15 (.new 39 [.int .i64 (0), .int .i64 (0), .int .i64 (0), .int .i64 (0), .int .i64 (0), .int .i64 (0), .string ⟨#[]⟩, .int .i64 (0), .int .i64 (0), .bool false, .string ⟨#[]⟩, .bool false, .int .i64 (0), .int .i64 (0), .slice none 0 0, .slice none 0 0])),
 ⟨none, (.st 16 (.tmp 15) (.tmp 77)), none⟩,
 (rO 16 (.mv (.tmp 78)))])
 (.seq (.reg [(rO 79 (.ld (some 16) (.tmp 13))),
 (rO 80 (.ld (some 16) (.tmp 15))),
 (rO 81 (.call 24 [(.tmp 79), (.tmp 80)])),
 (rO 82 (.mv (.tmp 81))),
 ⟨(some 83), (.mv (.tmp 14)), (some (82, true))⟩,
 ⟨(some 84), (.mv (.tmp 16)), (some (82, true))⟩,
 ⟨(some 85), (.bin .eql (.tmp 83) (.tmp 84)), (some (82, true))⟩,
 (rO 86 (.pick (.tmp 82) (.tmp 85) (.const (.bool false)))),
 (rO 6 (.mv (.tmp 86)))])
 .ret)))
 (.seq (.reg [(rO 88 (.bin .eql (.tmp 27) (.const (.int .u8 8)))),
 (rO 87 (.mv (.tmp 88)))])
 (.cond (.tmp 87) (.seq (.reg [(rO 90 (.mv (.tmp 0))),
 (rO 91 (.fa 2 (.tmp 5))),
 (rO 92 (.ld none (.tmp 91))),
 (rO 93 (.call 19 [(.tmp 90), (.tmp 92)])),
 (rO 89 (.mv (.tmp 93))),
 (rO 94 (.ext 0 (.tmp 89))),
 (rO 95 (.ext 1 (.tmp 89))),
 (rO 17 (.mv (.tmp 94))),
 (rO 18 (.mv (.tmp 95)))])
 (.seq (.reg [(rO 97 (.mv (.tmp 1))),
 (rO 98 (.fa 2 (.tmp 5))),
 (rO 99 (.ld none (.tmp 98))),
 (rO 100 (.call 27 [(.tmp 97), (.tmp 99)])),
 (rO 96 (.mv (.tmp 100))),
 (rO 101 (.ext 0 (.tmp 96))),
 (rO 102 (.ext 1 (.tmp 96))),
 (rO 19 (.mv (.tmp 101))),
 (rO 20 (.mv (.tmp 102)))])
 (.seq (.reg [(rO 103 (.mv (.tmp 17))),
 (rO 104 (.mv (.tmp 19))),
 (rO 105 (.bin .eql (.tmp 103) (.tmp 104))),
 (rO 106 (.mv (.tmp 105))),
 ⟨(some 107), (.mv (.tmp 18)), (some (106, true))⟩,
 ⟨(some 108), (.mv (.tmp 20)), (some (106, true))⟩,
 ⟨(some 109), (.bin .eql (.tmp 107) (.tmp 108)), (some (106, true))⟩,
 (rO 110 (.pick (.tmp 106) (.tmp 109) (.const (.bool false)))),
 (rO 6 (.mv (.tmp 110)))])
 .ret)))
 (.seq (.reg [(rO 112 (.bin .eql (.tmp 27) (.const (.int .u8 9)))),
 (rO 111 (.mv (.tmp 112)))])
 (.cond (.tmp 111) (.seq (.reg [(rO 114 (.mv (.tmp 0))),
 (rO 115 (.fa 5 (.tmp 5))),
 (rO 116 (.ld (some 16) (.tmp 115))),
 (rO 117 (.call 15 [(.tmp 114), (.tmp 116)])),
 (rO 113 (.mv (.tmp 117))),
 (rO 118 (.ext 0 (.tmp 113))),
 (rO 119 (.ext 1 (.tmp 113))),
 (rO 21 (.new 39 [.int .i64 (0), .int .i64 (0), .int .i64 (0), .int .i64 (0), .int .i64 (0), .int .i64 (0), .string ⟨#[]⟩, .int .i64 (0), .int .i64 (0), .bool false, .string ⟨#[]⟩, .bool false, .int .i64 (0), .int .i64 (0), .slice none 0 0, .slice none 0 0])),
 ⟨none, (.st 16 (.tmp 21) (.tmp 118)), none⟩,
 (rO 22 (.mv (.tmp 119)))])
 (.seq (.reg [(rO 121 (.mv (.tmp 1))),
 (rO 122 (.fa 5 (.tmp 5))),
 (rO 123 (.ld (some 16) (.tmp 122))),
 (rO 124 (.call 28 [(.tmp 121), (.tmp 123)])),
 (rO 120 (.mv (.tmp 124))),
 (rO 125 (.ext 0 (.tmp 120))),
 (rO 126 (.ext 1 (.tmp 120))),
 (rO 23 (.new 39 [.int .i64 (0), .int .i64 (0), .int .i64 (0), .int .i64 (0), .int .i64 (0), .int .i64 (0), .string ⟨#[]⟩, .int .i64 (0), .int .i64 (0), .bool false, .string ⟨#[]⟩, .bool false, .int .i64 (0), .int .i64 (0), .slice none 0 0, .slice none 0 0])),
 ⟨none, (.st 16 (.tmp 23) (.tmp 125)), none⟩,
 (rO 24 (.mv (.tmp 126)))])
 (.seq (.reg [(rO 127 (.ld (some 16) (.tmp 21))),
 (rO 128 (.ld (some 16) (.tmp 23))),
 (rO 129 (.call 24 [(.tmp 127), (.tmp 128)])),
 (rO 130 (.mv (.tmp 129))),
 ⟨(some 131), (.mv (.tmp 22)), (some (130, true))⟩,
 ⟨(some 132), (.mv (.tmp 24)), (some (130, true))⟩,
 ⟨(some 133), (.eqs false .bool (.tmp 131) (.tmp 132)), (some (130, true))⟩,
 (rO 134 (.pick (.tmp 130) (.tmp 133) (.const (.bool false)))),
 (rO 6 (.mv (.tmp 134)))])
 .ret)))
 .skip))))))))))
 (.seq (.reg [(rO 135 (.mv (.tmp 0))),
 (rO 136 (.mv (.tmp 1))),
 (rO 137 (.ld (some 21) (.tmp 5))),
 (rO 138 (.call 29 [(.tmp 135), (.tmp 136), (.tmp 137)])),
 (rO 6 (.mv (.tmp 138)))])
 .ret)))
def r8 : List RV := [.tmp 6]
theorem ok8 : FnOk Tryz.prog 8 139 c8 r8 := ⟨[40, 45, 17, 68], _, _, Tryz.func8, rfl, rfl, by kernel_rfl, by kernel_rfl, by kernel_rfl⟩
/-- vouch/vouchlaw18.seen -/
def c9 : C := (.seq (.reg [(rO 8 (.mv (.const (.bool false))))])
 (.seq (.reg [(rO 18 (.mv (.tmp 0))),
 (rO 19 (.mv (.tmp 2))),
 (rO 20 (.call 30 [(.tmp 18), (.tmp 19)])),
 (rO 17 (.mv (.tmp 20))),
 (rO 21 (.ext 0 (.tmp 17))),
 (rO 22 (.ext 1 (.tmp 17))),
 (rO 9 (.new 83 [.int .i64 (0), .bool false, .int .i64 (0), .int .i64 (0), .int .i64 (0), .int .i64 (0)])),
 ⟨none, (.st 6 (.tmp 9) (.tmp 21)), none⟩,
 (rO 10 (.mv (.tmp 22)))])
 (.seq (.reg [(rO 24 (.mv (.tmp 1))),
 (rO 25 (.mv (.tmp 2))),
 (rO 26 (.call 31 [(.tmp 24), (.tmp 25)])),
 (rO 23 (.mv (.tmp 26))),
 (rO 27 (.ext 0 (.tmp 23))),
 (rO 28 (.ext 1 (.tmp 23))),
 (rO 11 (.new 83 [.int .i64 (0), .bool false, .int .i64 (0), .int .i64 (0), .int .i64 (0), .int .i64 (0)])),
 ⟨none, (.st 6 (.tmp 11) (.tmp 27)), none⟩,
 (rO 12 (.mv (.tmp 28)))])
 (.seq (.reg [(rO 30 (.mv (.tmp 0))),
 (rO 31 (.mv (.tmp 3))),
 (rO 32 (.call 32 [(.tmp 30), (.tmp 31)])),
 (rO 29 (.mv (.tmp 32))),
 (rO 33 (.ext 0 (.tmp 29))),
 (rO 34 (.ext 1 (.tmp 29))),
 (rO 13 (.new 88 [.int .i64 (0), .int .i64 (0), .int .i64 (0), .int .i64 (0), .string ⟨#[]⟩, .int .i64 (0), .int .i64 (0), .slice none 0 0])),
 ⟨none, (.st 8 (.tmp 13) (.tmp 33)), none⟩,
 (rO 14 (.mv (.tmp 34)))])
 (.seq (.reg [(rO 36 (.mv (.tmp 1))),
 (rO 37 (.mv (.tmp 3))),
 (rO 38 (.call 33 [(.tmp 36), (.tmp 37)])),
 (rO 35 (.mv (.tmp 38))),
 (rO 39 (.ext 0 (.tmp 35))),
 (rO 40 (.ext 1 (.tmp 35))),
 (rO 15 (.new 88 [.int .i64 (0), .int .i64 (0), .int .i64 (0), .int .i64 (0), .string ⟨#[]⟩, .int .i64 (0), .int .i64 (0), .slice none 0 0])),
 ⟨none, (.st 8 (.tmp 15) (.tmp 39)), none⟩,
 (rO 16 (.mv (.tmp 40)))])
 (.seq (.reg [(rO 41 (.ld (some 6) (.tmp 9))),
 (rO 42 (.ld (some 6) (.tmp 11))),
 (rO 43 (.eqa false [.num, .truth, .num, .num, .num, .num] (.tmp 41) (.tmp 42))),
 (rO 44 (.mv (.tmp 43))),
 ⟨(some 45), (.mv (.tmp 10)), (some (44, true))⟩,
 ⟨(some 46), (.mv (.tmp 12)), (some (44, true))⟩,
 ⟨(some 47), (.eqs false .bool (.tmp 45) (.tmp 46)), (some (44, true))⟩,
 (rO 48 (.pick (.tmp 44) (.tmp 47) (.const (.bool false)))),
 (rO 49 (.mv (.tmp 48))),
 ⟨(some 50), (.ld (some 8) (.tmp 13)), (some (49, true))⟩,
 ⟨(some 51), (.ld (some 8) (.tmp 15)), (some (49, true))⟩,
 ⟨(some 52), (.call 34 [(.tmp 50), (.tmp 51)]), (some (49, true))⟩,
 (rO 53 (.pick (.tmp 49) (.tmp 52) (.const (.bool false)))),
 (rO 54 (.mv (.tmp 53))),
 ⟨(some 55), (.mv (.tmp 14)), (some (54, true))⟩,
 ⟨(some 56), (.mv (.tmp 16)), (some (54, true))⟩,
 ⟨(some 57), (.eqs false .bool (.tmp 55) (.tmp 56)), (some (54, true))⟩,
 (rO 58 (.pick (.tmp 54) (.tmp 57) (.const (.bool false)))),
 (rO 8 (.mv (.tmp 58)))])
 .ret))))))
def r9 : List RV := [.tmp 8]
theorem ok9 : FnOk Tryz.prog 9 59 c9 r9 := ⟨[40, 45, 17, 68], _, _, Tryz.func9, rfl, rfl, by kernel_rfl, by kernel_rfl, by kernel_rfl⟩
/-- vouch/vouchlaw18.session -/
def c29 : C := (.seq (.reg [(rO 5 (.box 41 (.tmp 2))),
 (rO 6 (.mv (.const (.bool false))))])
 (.seq (.seq (.reg [(rO 27 (.fa 0 (.tmp 5))),
 (rO 28 (.ld none (.tmp 27))),
 (rO 29 (.bin .rem (.tmp 28) (.const (.int .u8 10))))])
 (.block 0 (.seq (.reg [(rO 31 (.bin .eql (.tmp 29) (.const (.int .u8 0)))),
 (rO 30 (.mv (.tmp 31)))])
 (.cond (.tmp 30) (.seq (.reg [(rO 33 (.mv (.tmp 0))),
 (rO 34 (.call 12 [(.tmp 33)])),
 (rO 32 (.mv (.tmp 34))),
 (rO 35 (.ext 0 (.tmp 32))),
 (rO 36 (.ext 1 (.tmp 32))),
 (rO 7 (.mv (.tmp 35))),
 (rO 8 (.mv (.tmp 36)))])
 (.seq (.reg [(rO 38 (.mv (.tmp 1))),
 (rO 39 (.call 63 [(.tmp 38)])),
 (rO 37 (.mv (.tmp 39))),
 (rO 40 (.ext 0 (.tmp 37))),
 (rO 41 (.ext 1 (.tmp 37))),
 (rO 9 (.mv (.tmp 40))),
 (rO 10 (.mv (.tmp 41)))])
 (.seq (.reg [(rO 42 (.mv (.tmp 7))),
 (rO 43 (.mv (.tmp 9))),
 (rO 44 (.bin .eql (.tmp 42) (.tmp 43))),
 (rO 45 (.mv (.tmp 44))),
 ⟨(some 46), (.mv (.tmp 8)), (some (45, true))⟩,
 ⟨(some 47), (.mv (.tmp 10)), (some (45, true))⟩,
 ⟨(some 48), (.bin .eql (.tmp 46) (.tmp 47)), (some (45, true))⟩,
 (rO 49 (.pick (.tmp 45) (.tmp 48) (.const (.bool false)))),
 (rO 6 (.mv (.tmp 49)))])
 .ret)))
 (.seq (.reg [(rO 51 (.bin .eql (.tmp 29) (.const (.int .u8 1)))),
 (rO 50 (.mv (.tmp 51)))])
 (.cond (.tmp 50) (.seq (.reg [(rO 53 (.mv (.tmp 0))),
 (rO 54 (.fa 1 (.tmp 5))),
 (rO 55 (.ld none (.tmp 54))),
 (rO 56 (.fa 4 (.tmp 5))),
 (rO 57 (.ld none (.tmp 56))),
 (rO 58 (.call 13 [(.tmp 53), (.tmp 55), (.tmp 57)])),
 (rO 52 (.mv (.tmp 58))),
 (rO 59 (.ext 0 (.tmp 52))),
 (rO 60 (.ext 1 (.tmp 52))),
 (rO 11 (.new 39 [.int .i64 (0), .int .i64 (0), .int .i64 (0), .int .i64 (0), .int .i64 (0), .int .i64 (0), .string ⟨#[]⟩, .int .i64 (0), .int .i64 (0), .bool false, .string ⟨#[]⟩, .bool false, .int .i64 (0), .int .i64 (0), .slice none 0 0, .slice none 0 0])),
 ⟨none, (.st 16 (.tmp 11) (.tmp 59)), none⟩,
 (rO 12 (.mv (.tmp 60)))])
 (.seq (.reg [(rO 62 (.mv (.tmp 1))),
 (rO 63 (.fa 1 (.tmp 5))),
 (rO 64 (.ld none (.tmp 63))),
 (rO 65 (.fa 4 (.tmp 5))),
 (rO 66 (.ld none (.tmp 65))),
 (rO 67 (.call 64 [(.tmp 62), (.tmp 64), (.tmp 66)])),
 (rO 61 (.mv (.tmp 67))),
 (rO 68 (.ext 0 (.tmp 61))),
 (rO 69 (.ext 1 (.tmp 61))),
 (rO 13 (.new 39 [.int .i64 (0), .int .i64 (0), .int .i64 (0), .int .i64 (0), .int .i64 (0), .int .i64 (0), .string ⟨#[]⟩, .int .i64 (0), .int .i64 (0), .bool false, .string ⟨#[]⟩, .bool false, .int .i64 (0), .int .i64 (0), .slice none 0 0, .slice none 0 0])),
 ⟨none, (.st 16 (.tmp 13) (.tmp 68)), none⟩,
 (rO 14 (.mv (.tmp 69)))])
 (.seq (.reg [(rO 70 (.ld (some 16) (.tmp 11))),
 (rO 71 (.ld (some 16) (.tmp 13))),
 (rO 72 (.call 24 [(.tmp 70), (.tmp 71)])),
 (rO 73 (.mv (.tmp 72))),
 ⟨(some 74), (.mv (.tmp 12)), (some (73, true))⟩,
 ⟨(some 75), (.mv (.tmp 14)), (some (73, true))⟩,
 ⟨(some 76), (.bin .eql (.tmp 74) (.tmp 75)), (some (73, true))⟩,
 (rO 77 (.pick (.tmp 73) (.tmp 76) (.const (.bool false)))),
 (rO 6 (.mv (.tmp 77)))])
 .ret)))
 (.seq (.reg [(rO 79 (.bin .eql (.tmp 29) (.const (.int .u8 2)))),
 (rO 78 (.mv (.tmp 79)))])
 (.cond (.tmp 78) (.seq (.reg [(rO 81 (.mv (.tmp 0))),
 (rO 82 (.fa 1 (.tmp 5))),
 (rO 83 (.ld none (.tmp 82))),
 (rO 84 (.call 65 [(.tmp 81), (.tmp 83)])),
 (rO 80 (.mv (.tmp 84))),
 (rO 85 (.ext 0 (.tmp 80))),
 (rO 86 (.ext 1 (.tmp 80))),
 (rO 15 (.new 39 [.int .i64 (0), .int .i64 (0), .int .i64 (0), .int .i64 (0), .int .i64 (0), .int .i64 (0), .string ⟨#[]⟩, .int .i64 (0), .int .i64 (0), .bool false, .string ⟨#[]⟩, .bool false, .int .i64 (0), .int .i64 (0), .slice none 0 0, .slice none 0 0])),
 ⟨none, (.st 16 (.tmp 15) (.tmp 85)), none⟩,
 (rO 16 (.mv (.tmp 86)))])
 (.seq (.reg [(rO 88 (.mv (.tmp 1))),
 (rO 89 (.fa 1 (.tmp 5))),
 (rO 90 (.ld none (.tmp 89))),
 (rO 91 (.call 66 [(.tmp 88), (.tmp 90)])),
 (rO 87 (.mv (.tmp 91))),
 (rO 92 (.ext 0 (.tmp 87))),
 (rO 93 (.ext 1 (.tmp 87))),
 (rO 17 (.new 39 [.int .i64 (0), .int .i64 (0), .int .i64 (0), .int .i64 (0), .int .i64 (0), .int .i64 (0), .string ⟨#[]⟩, .int .i64 (0), .int .i64 (0), .bool false, .string ⟨#[]⟩, .bool false, .int .i64 (0), .int .i64 (0), .slice none 0 0, .slice none 0 0])),
 ⟨none, (.st 16 (.tmp 17) (.tmp 92)), none⟩,
 (rO 18 (.mv (.tmp 93)))])
 (.seq (.reg [(rO 94 (.ld (some 16) (.tmp 15))),
 (rO 95 (.ld (some 16) (.tmp 17))),
 (rO 96 (.call 24 [(.tmp 94), (.tmp 95)])),
 (rO 97 (.mv (.tmp 96))),
 ⟨(some 98), (.mv (.tmp 16)), (some (97, true))⟩,
 ⟨(some 99), (.mv (.tmp 18)), (some (97, true))⟩,
 ⟨(some 100), (.bin .eql (.tmp 98) (.tmp 99)), (some (97, true))⟩,
 (rO 101 (.pick (.tmp 97) (.tmp 100) (.const (.bool false)))),
 (rO 6 (.mv (.tmp 101)))])
 .ret)))
 (.seq (.reg [(rO 103 (.bin .eql (.tmp 29) (.const (.int .u8 3)))),
 (rO 102 (.mv (.tmp 103)))])
 (.cond (.tmp 102) (.seq (.reg [(rO 105 (.mv (.tmp 0))),
 (rO 106 (.fa 1 (.tmp 5))),
 (rO 107 (.ld none (.tmp 106))),
 (rO 108 (.call 16 [(.tmp 105), (.tmp 107)])),
 (rO 104 (.mv (.tmp 108))),
 (rO 109 (.ext 0 (.tmp 104))),
 (rO 110 (.ext 1 (.tmp 104))),
 (rO 19 (.mv (.tmp 109))),
 (rO 20 (.mv (.tmp 110)))])
 (.seq (.reg [(rO 112 (.mv (.tmp 1))),
 (rO 113 (.fa 1 (.tmp 5))),
 (rO 114 (.ld none (.tmp 113))),
 (rO 115 (.call 67 [(.tmp 112), (.tmp 114)])),
 (rO 111 (.mv (.tmp 115))),
 (rO 116 (.ext 0 (.tmp 111))),
 (rO 117 (.ext 1 (.tmp 111))),
 (rO 21 (.mv (.tmp 116))),
 (rO 22 (.mv (.tmp 117)))])
 (.seq (.reg [(rO 118 (.mv (.tmp 19))),
 (rO 119 (.mv (.tmp 21))),
 (rO 120 (.bin .eql (.tmp 118) (.tmp 119))),
 (rO 121 (.mv (.tmp 120))),
 ⟨(some 122), (.mv (.tmp 20)), (some (121, true))⟩,
 ⟨(some 123), (.mv (.tmp 22)), (some (121, true))⟩,
 ⟨(some 124), (.bin .eql (.tmp 122) (.tmp 123)), (some (121, true))⟩,
 (rO 125 (.pick (.tmp 121) (.tmp 124) (.const (.bool false)))),
 (rO 6 (.mv (.tmp 125)))])
 .ret)))
 (.seq (.reg [(rO 127 (.bin .eql (.tmp 29) (.const (.int .u8 4)))),
 (rO 126 (.mv (.tmp 127)))])
 (.cond (.tmp 126) (.seq (.draw [⟨(rO 128 (.mv (.tmp 0))), .p⟩,
 ⟨(rO 129 (.fa 1 (.tmp 5))), .p⟩,
 ⟨(rO 130 (.ld none (.tmp 129))), .l⟩,
 ⟨(rO 131 (.fa 3 (.tmp 5))), .p⟩,
 ⟨(rO 132 (.ld none (.tmp 131))), .l⟩,
 ⟨(rO 133 (.call 17 [(.tmp 128), (.tmp 130), (.tmp 132)])), .u⟩,
 ⟨(rO 134 (.mv (.tmp 1))), .p⟩,
 ⟨(rO 135 (.fa 1 (.tmp 5))), .p⟩,
 ⟨(rO 136 (.ld none (.tmp 135))), .l⟩,
 ⟨(rO 137 (.fa 3 (.tmp 5))), .p⟩,
 ⟨(rO 138 (.ld none (.tmp 137))), .l⟩,
 ⟨(rO 139 (.call 68 [(.tmp 134), (.tmp 136), (.tmp 138)])), .m⟩,
 ⟨(rO 140 (.bin .eql (.tmp 133) (.tmp 139))), .p⟩,
 ⟨(rO 6 (.mv (.tmp 140))), .p⟩])
 .ret)
 .skip))))))))))))
 (.seq (.reg [(rO 142 (.mv (.tmp 0))),
 (rO 143 (.fa 1 (.tmp 5))),
 (rO 144 (.ld none (.tmp 143))),
 (rO 145 (.call 18 [(.tmp 142), (.tmp 144)])),
 (rO 141 (.mv (.tmp 145))),
 (rO 146 (.ext 0 (.tmp 141))),
 (rO 147 (.ext 1 (.tmp 141))),
 (rO 23 (.mv (.tmp 146))),
 (rO 24 (.mv (.tmp 147)))])
 (.seq (.reg [(rO 149 (.mv (.tmp 1))),
 (rO 150 (.fa 1 (.tmp 5))),
 (rO 151 (.ld none (.tmp 150))),
 (rO 152 (.call 69 [(.tmp 149), (.tmp 151)])),
 (rO 148 (.mv (.tmp 152))),
 (rO 153 (.ext 0 (.tmp 148))),
 (rO 154 (.ext 1 (.tmp 148))),
 (rO 25 (.mv (.tmp 153))),
 (rO 26 (.mv (.tmp 154)))])
 (.seq (.reg [(rO 155 (.mv (.tmp 23))),
 (rO 156 (.mv (.tmp 25))),
 (rO 157 (.bin .eql (.tmp 155) (.tmp 156))),
 (rO 158 (.mv (.tmp 157))),
 ⟨(some 159), (.mv (.tmp 24)), (some (158, true))⟩,
 ⟨(some 160), (.mv (.tmp 26)), (some (158, true))⟩,
 ⟨(some 161), (.bin .eql (.tmp 159) (.tmp 160)), (some (158, true))⟩,
 (rO 162 (.pick (.tmp 158) (.tmp 161) (.const (.bool false)))),
 (rO 6 (.mv (.tmp 162)))])
 .ret)))))
def r29 : List RV := [.tmp 6]
theorem ok29 : FnOk Tryz.prog 29 163 c29 r29 := ⟨[40, 45, 17, 68], _, _, Tryz.func29, rfl, rfl, by kernel_rfl, by kernel_rfl, by kernel_rfl⟩
structure OpCOk (σ0 : Hp) (o : OpC) : Prop where
  key : o.key.size ≤ 140737488351232
  mw : one o.msg.writes = true
  mks : one o.msg.keys = true
  ws : ∃ os, RoRows 3 Wr.cells σ0 o.writes os ∧ os.length * 40 ≤ 140737488355328
theorem OpCOk.w1 {σ0 : Hp} {o : OpC} (h : OpCOk σ0 o) : one o.writes = true := by
  obtain ⟨os, ⟨A, c, e, _⟩, _⟩ := h.ws
  rw [e]; rfl
def StepTo (σ0 : Hp) (C : CL) (R : RL) (n : Nat) (u : Value) (σ' : Hp) : Prop := u = .bool true ∧ ∃ C' R', C'.g = C.g ∧ R'.g = R.g ∧ Pair σ0 σ' C' R' ∧ Alike C' R' (n + 1)
theorem step29_0 {σ0 σ : Hp} {C : CL} {R : RL} {n : Nat} {o : OpC} (P : Pair σ0 σ C R) (A : Alike C R n) (ho : OpCOk σ0 o) (hk : o.kind.tmod 10 = 0) :
    ACalls Tryz.prog 29 #[.pointer (some ⟨C.g, 0, none⟩), .pointer (some ⟨R.g, 0, none⟩), .agg o.cells.toArray] σ (StepTo σ0 C R n) := by
  have HP := Hid.mk (And.intro P A)
  clear P A
  have ho1 := ho.mw
  have ho2 := ho.mks
  have ho3 := ho.w1
  obtain ⟨kd, sn, tn, key, ws, m⟩ := o
  simp only at hk ho1 ho2 ho3
  by_cases hn : C.ss.length < 64
  · have q := openC HP.out.1.c hn
    (refine acalls_F ok29 (by simp) ?_; unfold c29 r29)
    (repeat' (first | (simp +contextual -dsimp only [*, CliC, Msg.cells, noMsg, OpC.cells, ↓reduceIte, ↓evP, evQ, splice, Nat.reduceAdd, Nat.reduceEqDiff, Nat.reduceLeDiff, Nat.reduceMul, reduceCtorEq, Int.reduceLT, Int.reduceLE, Int.reduceGT, Int.reduceGE, Int.reduceEq, Int.reduceNeg]) | (refine condF_split (fun hc => ?_) (fun hc => ?_) <;> (try simp only [Bool.not_eq_true', Bool.not_eq_false', Bool.and_eq_true, Bool.or_eq_false_iff] at hc)) | (intro _; intros) | (refine And.intro ?_ ?_; focus (first | omega | ((repeat (first | exact Sub.refl _ | (refine Sub.drop ?_ ?_; focus (simp only [evN, *]; done)) | refine Sub.both ?_)); done) | (simp_all; done) | (simp_all; omega)))))
    refine callF_of (ACalls.beside ?_ q) ?_
    · (simp only [evN, *]; done)
    clear q
    rintro u _ ⟨σ1, ⟨rfl, k, vs, mv⟩, n1, rfl⟩
    have H1 := Hid.mk (HP.out.1.cmove mv)
    clear mv
    (repeat' (first | (simp +contextual -dsimp only [*, CliC, Msg.cells, noMsg, OpC.cells, ↓reduceIte, ↓evP, evQ, splice, Nat.reduceAdd, Nat.reduceEqDiff, Nat.reduceLeDiff, Nat.reduceMul, reduceCtorEq, Int.reduceLT, Int.reduceLE, Int.reduceGT, Int.reduceGE, Int.reduceEq, Int.reduceNeg]) | (refine condF_split (fun hc => ?_) (fun hc => ?_) <;> (try simp only [Bool.not_eq_true', Bool.not_eq_false', Bool.and_eq_true, Bool.or_eq_false_iff] at hc)) | (intro _; intros) | (refine And.intro ?_ ?_; focus (first | omega | ((repeat (first | exact Sub.refl _ | (refine Sub.drop ?_ ?_; focus (simp only [evN, *]; done)) | refine Sub.both ?_)); done) | (simp_all; done) | (simp_all; omega)))))
    have q := ropenR H1.out.r (by rw [HP.out.2.nS]; exact hn)
    rw [HP.out.2.nS] at q
    refine callF_of (ACalls.beside n1 q) ?_
    clear q
    rintro u _ ⟨σ2, ⟨rfl, vs2, mv⟩, n2, rfl⟩
    have H2 := Hid.mk (H1.out.rmove mv)
    clear mv
    (repeat' (first | (simp +contextual -dsimp only [*, CliC, Msg.cells, noMsg, OpC.cells, ↓reduceIte, ↓evP, evQ, splice, Nat.reduceAdd, Nat.reduceEqDiff, Nat.reduceLeDiff, Nat.reduceMul, reduceCtorEq, Int.reduceLT, Int.reduceLE, Int.reduceGT, Int.reduceGE, Int.reduceEq, Int.reduceNeg]) | (refine condF_split (fun hc => ?_) (fun hc => ?_) <;> (try simp only [Bool.not_eq_true', Bool.not_eq_false', Bool.and_eq_true, Bool.or_eq_false_iff] at hc)) | (intro _; intros) | (refine And.intro ?_ ?_; focus (first | omega | ((repeat (first | exact Sub.refl _ | (refine Sub.drop ?_ ?_; focus (simp only [evN, *]; done)) | refine Sub.both ?_)); done) | (simp_all; done) | (simp_all; omega)))))
    refine endF_sub (τ := σ2) (by (repeat (first | exact Sub.refl _ | (refine Sub.drop ?_ ?_; focus (simp only [evN, *]; done)) | refine Sub.both ?_)); done) ⟨?_, C.opens k vs, R.opens vs2, rfl, rfl, H2.out, HP.out.2.opens_ hn⟩
    simp
  · have q := openF HP.out.1.c (by omega)
    have q2 := ropenF HP.out.1.r (by have := HP.out.2.nS; have := HP.out.2.nS64; omega)
    (refine acalls_F ok29 (by simp) ?_; unfold c29 r29)
    (repeat' (first | (simp +contextual -dsimp only [*, CliC, Msg.cells, noMsg, OpC.cells, ↓reduceIte, ↓evP, evQ, splice, Nat.reduceAdd, Nat.reduceEqDiff, Nat.reduceLeDiff, Nat.reduceMul, reduceCtorEq, Int.reduceLT, Int.reduceLE, Int.reduceGT, Int.reduceGE, Int.reduceEq, Int.reduceNeg]) | (refine condF_split (fun hc => ?_) (fun hc => ?_) <;> (try simp only [Bool.not_eq_true', Bool.not_eq_false', Bool.and_eq_true, Bool.or_eq_false_iff] at hc)) | (intro _; intros) | (refine And.intro ?_ ?_; focus (first | omega | ((repeat (first | exact Sub.refl _ | (refine Sub.drop ?_ ?_; focus (simp only [evN, *]; done)) | refine Sub.both ?_)); done) | (simp_all; done) | (simp_all; omega)))))
    refine callF_of (ACalls.beside ?_ q) ?_
    · (simp only [evN, *]; done)
    clear q
    rintro u _ ⟨_, ⟨rfl, rfl⟩, n1, rfl⟩
    (repeat' (first | (simp +contextual -dsimp only [*, CliC, Msg.cells, noMsg, OpC.cells, ↓reduceIte, ↓evP, evQ, splice, Nat.reduceAdd, Nat.reduceEqDiff, Nat.reduceLeDiff, Nat.reduceMul, reduceCtorEq, Int.reduceLT, Int.reduceLE, Int.reduceGT, Int.reduceGE, Int.reduceEq, Int.reduceNeg]) | (refine condF_split (fun hc => ?_) (fun hc => ?_) <;> (try simp only [Bool.not_eq_true', Bool.not_eq_false', Bool.and_eq_true, Bool.or_eq_false_iff] at hc)) | (intro _; intros) | (refine And.intro ?_ ?_; focus (first | omega | ((repeat (first | exact Sub.refl _ | (refine Sub.drop ?_ ?_; focus (simp only [evN, *]; done)) | refine Sub.both ?_)); done) | (simp_all; done) | (simp_all; omega)))))
    refine callF_of (ACalls.beside n1 q2) ?_
    clear q2
    rintro u _ ⟨_, ⟨rfl, rfl⟩, n2, rfl⟩
    (repeat' (first | (simp +contextual -dsimp only [*, CliC, Msg.cells, noMsg, OpC.cells, ↓reduceIte, ↓evP, evQ, splice, Nat.reduceAdd, Nat.reduceEqDiff, Nat.reduceLeDiff, Nat.reduceMul, reduceCtorEq, Int.reduceLT, Int.reduceLE, Int.reduceGT, Int.reduceGE, Int.reduceEq, Int.reduceNeg]) | (refine condF_split (fun hc => ?_) (fun hc => ?_) <;> (try simp only [Bool.not_eq_true', Bool.not_eq_false', Bool.and_eq_true, Bool.or_eq_false_iff] at hc)) | (intro _; intros) | (refine And.intro ?_ ?_; focus (first | omega | ((repeat (first | exact Sub.refl _ | (refine Sub.drop ?_ ?_; focus (simp only [evN, *]; done)) | refine Sub.both ?_)); done) | (simp_all; done) | (simp_all; omega)))))
    refine endF_sub (τ := _) (Sub.drop n2 (Sub.refl _)) ⟨?_, C, R, rfl, rfl, HP.out.1, HP.out.2.up⟩
    simp
theorem nil_ro' {sz : Nat} {α : Type} {f : α → List Value} (σ : Hp) : RoRows sz f σ (.slice none 0 0) [] := ⟨none, 0, rfl, fun i x hx => by simp at hx⟩
theorem sameWr {σ : Hp} (m : Msg) {w1 w2 : Value} {ws : List Wr} (h1 : RoRows 3 Wr.cells σ w1 ws) (h2 : RoRows 3 Wr.cells σ w2 ws) (hn : ws.length ≤ 140737488355328) :
    ACalls Tryz.prog 24 #[.agg ({ m with writes := w1, keys := .slice none 0 0 } : Msg).cells.toArray, .agg ({ m with writes := w2, keys := .slice none 0 0 } : Msg).cells.toArray] σ fun u σ' => u = .bool true ∧ σ' = σ :=
  same53 m h1 h2 (nil_ro' σ) (nil_ro' σ) hn (by decide)
theorem in_or (x : Int) (n : Nat) : ((decide (x < 0) || decide (x ≥ (n : Int))) = true ∧ (decide (x ≥ 0) && decide (x < (n : Int))) = false) ∨ ∃ i : Nat, x = i ∧ i < n := by
  by_cases h : 0 ≤ x ∧ x < n
  · exact .inr ⟨x.toNat, by omega, by omega⟩
  · left
    constructor
    · simp; omega
    · simp; omega
theorem seq_ok {S : SesS} {n : Nat} (h : SesOk S n) (hn : n < 2147483647) : decide (S.seq ≥ 2147483647) = false := by
  have := h.q1; simp; omega
/-- What a call of the client leaves: the client, and a message with its writes. -/
def CDid (σ : Hp) (C : CL) (G : CL → Prop) (m : Msg) (ws : List Wr) (F : Msg → Value) (u : Value) (σ' : Hp) : Prop := ∃ C' v, G C' ∧ C'.g = C.g ∧ Moved σ C σ' C' ∧ u = F { m with writes := v, keys := .slice none 0 0 } ∧ RowsAt 52 3 Wr.cells σ' v ws ∧ New σ v
def RDid (σ : Hp) (C : CL) (R : RL) (n : Nat) (m : Msg) (ws : List Wr) (F : Msg → Value) (u : Value) (σ' : Hp) : Prop := ∃ R' v, R'.g = R.g ∧ RMoved σ R σ' R' ∧ Alike C R' (n + 1) ∧ u = F { m with writes := v, keys := .slice none 0 0 } ∧ RowsAt 52 3 Wr.cells σ' v ws ∧ New σ v
def meF (e : Int) (m : Msg) : Value := .tuple #[.agg m.cells.toArray, .int .i64 e]
theorem CDid.no {f : FuncId} {args : Array Value} {σ : Hp} {C : CL} {e : Int} (h : CliAt σ C) (q : ACalls Tryz.prog f args σ fun u σ' => u = .tuple #[.agg noMsg.toArray, .int .i64 e] ∧ σ' = σ) : ACalls Tryz.prog f args σ (CDid σ C (fun C' => C' = C) {} [] (meF e)) :=
  q.mono fun u σ' ⟨h1, h2⟩ => ⟨C, .slice none 0 0, rfl, rfl, by rw [h2]; exact Moved.refl h, h1, .inl ⟨rfl, rfl⟩, fun k hk => by cases hk⟩
theorem RDid.no {f : FuncId} {args : Array Value} {σ : Hp} {C : CL} {R : RL} {n : Nat} {e : Int} (h : RefAt σ R) (A : Alike C R n) (q : ACalls Tryz.prog f args σ fun u σ' => u = .tuple #[.agg noMsg.toArray, .int .i64 e] ∧ σ' = σ) : ACalls Tryz.prog f args σ (RDid σ C R n {} [] (meF e)) :=
  q.mono fun u σ' ⟨h1, h2⟩ => ⟨R, .slice none 0 0, rfl, by rw [h2]; exact RMoved.refl h, A.up, h1, .inl ⟨rfl, rfl⟩, fun k hk => by cases hk⟩
set_option maxHeartbeats 1000000 in
theorem step29_1 {σ0 σ : Hp} {C : CL} {R : RL} {n : Nat} {o : OpC} {G : CL → Prop} {m : Msg} {ws : List Wr} {e : Int} (P : Pair σ0 σ C R) (ho : OpCOk σ0 o) (hk : o.kind.tmod 10 = 1) (hn : ws.length ≤ 140737488355328)
    (q1 : ACalls Tryz.prog 13 #[.pointer (some ⟨C.g, 0, none⟩), .int .i64 o.s, o.writes] σ (CDid σ C G m ws (meF e)))
    (q2 : ∀ σ1 C', Pair σ0 σ1 C' R → G C' → ACalls Tryz.prog 64 #[.pointer (some ⟨R.g, 0, none⟩), .int .i64 o.s, o.writes] σ1 (RDid σ1 C' R n m ws (meF e))) :
    ACalls Tryz.prog 29 #[.pointer (some ⟨C.g, 0, none⟩), .pointer (some ⟨R.g, 0, none⟩), .agg o.cells.toArray] σ (StepTo σ0 C R n) := by
  have HP := Hid.mk P
  have HQ := Hid.mk (And.intro q1 q2)
  clear P q1 q2
  have ho1 := ho.mw
  have ho2 := ho.mks
  have ho3 := ho.w1
  obtain ⟨kd, sn, tn, key, wv, mm⟩ := o
  simp only at hk ho1 ho2 ho3
  (refine acalls_F ok29 (by simp) ?_; unfold c29 r29)
  (repeat' (first | (simp +contextual -dsimp only [*, CliC, Msg.cells, noMsg, OpC.cells, ↓reduceIte, ↓evP, evQ, splice, Nat.reduceAdd, Nat.reduceEqDiff, Nat.reduceLeDiff, Nat.reduceMul, reduceCtorEq, Int.reduceLT, Int.reduceLE, Int.reduceGT, Int.reduceGE, Int.reduceEq, Int.reduceNeg]) | (refine condF_split (fun hc => ?_) (fun hc => ?_) <;> (try simp only [Bool.not_eq_true', Bool.not_eq_false', Bool.and_eq_true, Bool.or_eq_false_iff] at hc)) | (intro _; intros) | (refine And.intro ?_ ?_; focus (first | omega | ((repeat (first | exact Sub.refl _ | (refine Sub.drop ?_ ?_; focus (simp only [evN, *]; done)) | refine Sub.both ?_)); done) | (simp_all; done) | (simp_all; omega)))))
  refine callF_of (ACalls.beside ?_ HQ.out.1) ?_
  · (simp only [evN, *]; done)
  rintro u _ ⟨σ1, ⟨C', v1, hG, hg, mv, rfl, hr1, hn1⟩, n1, rfl⟩
  obtain ⟨x1, y1, rfl⟩ := hr1.slice
  have H1 := Hid.mk (HP.out.cmove mv)
  have HG := Hid.mk (And.intro hG (And.intro hg (And.intro hr1 hn1)))
  clear hG hg mv hr1 hn1
  unfold meF at *
  (repeat' (first | (simp +contextual -dsimp only [*, CliC, Msg.cells, noMsg, OpC.cells, ↓reduceIte, ↓evP, evQ, splice, Nat.reduceAdd, Nat.reduceEqDiff, Nat.reduceLeDiff, Nat.reduceMul, reduceCtorEq, Int.reduceLT, Int.reduceLE, Int.reduceGT, Int.reduceGE, Int.reduceEq, Int.reduceNeg]) | (refine condF_split (fun hc => ?_) (fun hc => ?_) <;> (try simp only [Bool.not_eq_true', Bool.not_eq_false', Bool.and_eq_true, Bool.or_eq_false_iff] at hc)) | (intro _; intros) | (refine And.intro ?_ ?_; focus (first | omega | ((repeat (first | exact Sub.refl _ | (refine Sub.drop ?_ ?_; focus (simp only [evN, *]; done)) | refine Sub.both ?_)); done) | (simp_all; done) | (simp_all; omega)))))
  rename_i b b0 d d1 d1' d0
  refine callF_of (ACalls.beside ?_ (ACalls.beside ?_ (HQ.out.2 σ1 C' H1.out HG.out.1))) ?_
  · (simp only [evN, *]; done)
  · (simp only [evN, *]; done)
  rintro u _ ⟨_, ⟨σ2, ⟨R', v2, hg2, mv2, hA, rfl, hr2, hn2⟩, n2, rfl⟩, n3, rfl⟩
  obtain ⟨x2, y2, rfl⟩ := hr2.slice
  simp only [none_upd] at n3
  have H2 := Hid.mk (H1.out.rmove mv2)
  have hk1 : RowsAt 52 3 Wr.cells σ2 (.slice x1 ws.length y1) ws := HG.out.2.2.1.sameF mv2.2.1 fun k hk e => HP.out.r.known e (HG.out.2.2.2 k hk)
  have HR := Hid.mk (And.intro hg2 (And.intro hA (And.intro (hk1.ro Wr.cells_len) (hr2.ro Wr.cells_len))))
  clear hg2 mv2 hA hr2 hn2 hk1
  (repeat' (first | (simp +contextual -dsimp only [*, CliC, Msg.cells, noMsg, OpC.cells, ↓reduceIte, ↓evP, evQ, splice, Nat.reduceAdd, Nat.reduceEqDiff, Nat.reduceLeDiff, Nat.reduceMul, reduceCtorEq, Int.reduceLT, Int.reduceLE, Int.reduceGT, Int.reduceGE, Int.reduceEq, Int.reduceNeg]) | (refine condF_split (fun hc => ?_) (fun hc => ?_) <;> (try simp only [Bool.not_eq_true', Bool.not_eq_false', Bool.and_eq_true, Bool.or_eq_false_iff] at hc)) | (intro _; intros) | (refine And.intro ?_ ?_; focus (first | omega | ((repeat (first | exact Sub.refl _ | (refine Sub.drop ?_ ?_; focus (simp only [evN, *]; done)) | refine Sub.both ?_)); done) | (simp_all; done) | (simp_all; omega)))))
  refine callF_v (sameWr m (HR.out.2.2.1.sub (by (repeat (first | exact Sub.refl _ | (refine Sub.drop ?_ ?_; focus (simp only [evN, *]; done)) | refine Sub.both ?_)); done)) (HR.out.2.2.2.sub (by (repeat (first | exact Sub.refl _ | (refine Sub.drop ?_ ?_; focus (simp only [evN, *]; done)) | refine Sub.both ?_)); done)) hn) ?_
  (repeat' (first | (simp +contextual -dsimp only [*, CliC, Msg.cells, noMsg, OpC.cells, ↓reduceIte, ↓evP, evQ, splice, Nat.reduceAdd, Nat.reduceEqDiff, Nat.reduceLeDiff, Nat.reduceMul, reduceCtorEq, Int.reduceLT, Int.reduceLE, Int.reduceGT, Int.reduceGE, Int.reduceEq, Int.reduceNeg]) | (refine condF_split (fun hc => ?_) (fun hc => ?_) <;> (try simp only [Bool.not_eq_true', Bool.not_eq_false', Bool.and_eq_true, Bool.or_eq_false_iff] at hc)) | (intro _; intros) | (refine And.intro ?_ ?_; focus (first | omega | ((repeat (first | exact Sub.refl _ | (refine Sub.drop ?_ ?_; focus (simp only [evN, *]; done)) | refine Sub.both ?_)); done) | (simp_all; done) | (simp_all; omega)))))
  refine endF_sub (τ := σ2) (by (repeat (first | exact Sub.refl _ | (refine Sub.drop ?_ ?_; focus (simp only [evN, *]; done)) | refine Sub.both ?_)); done) ⟨?_, C', R', HG.out.2.1, HR.out.1, H2.out, HR.out.2.1⟩
  simp
set_option maxHeartbeats 1000000 in
theorem step29_2 {σ0 σ : Hp} {C : CL} {R : RL} {n : Nat} {o : OpC} {G : CL → Prop} {m : Msg} {ws : List Wr} {e : Int} (P : Pair σ0 σ C R) (ho : OpCOk σ0 o) (hk : o.kind.tmod 10 = 2) (hn : ws.length ≤ 140737488355328)
    (q1 : ACalls Tryz.prog 65 #[.pointer (some ⟨C.g, 0, none⟩), .int .i64 o.s] σ (CDid σ C G m ws (meF e)))
    (q2 : ∀ σ1 C', Pair σ0 σ1 C' R → G C' → ACalls Tryz.prog 66 #[.pointer (some ⟨R.g, 0, none⟩), .int .i64 o.s] σ1 (RDid σ1 C' R n m ws (meF e))) :
    ACalls Tryz.prog 29 #[.pointer (some ⟨C.g, 0, none⟩), .pointer (some ⟨R.g, 0, none⟩), .agg o.cells.toArray] σ (StepTo σ0 C R n) := by
  have HP := Hid.mk P
  have HQ := Hid.mk (And.intro q1 q2)
  clear P q1 q2
  have ho1 := ho.mw
  have ho2 := ho.mks
  have ho3 := ho.w1
  obtain ⟨kd, sn, tn, key, wv, mm⟩ := o
  simp only at hk ho1 ho2 ho3
  (refine acalls_F ok29 (by simp) ?_; unfold c29 r29)
  (repeat' (first | (simp +contextual -dsimp only [*, CliC, Msg.cells, noMsg, OpC.cells, ↓reduceIte, ↓evP, evQ, splice, Nat.reduceAdd, Nat.reduceEqDiff, Nat.reduceLeDiff, Nat.reduceMul, reduceCtorEq, Int.reduceLT, Int.reduceLE, Int.reduceGT, Int.reduceGE, Int.reduceEq, Int.reduceNeg]) | (refine condF_split (fun hc => ?_) (fun hc => ?_) <;> (try simp only [Bool.not_eq_true', Bool.not_eq_false', Bool.and_eq_true, Bool.or_eq_false_iff] at hc)) | (intro _; intros) | (refine And.intro ?_ ?_; focus (first | omega | ((repeat (first | exact Sub.refl _ | (refine Sub.drop ?_ ?_; focus (simp only [evN, *]; done)) | refine Sub.both ?_)); done) | (simp_all; done) | (simp_all; omega)))))
  refine callF_of (ACalls.beside ?_ HQ.out.1) ?_
  · (simp only [evN, *]; done)
  rintro u _ ⟨σ1, ⟨C', v1, hG, hg, mv, rfl, hr1, hn1⟩, n1, rfl⟩
  obtain ⟨x1, y1, rfl⟩ := hr1.slice
  have H1 := Hid.mk (HP.out.cmove mv)
  have HG := Hid.mk (And.intro hG (And.intro hg (And.intro hr1 hn1)))
  clear hG hg mv hr1 hn1
  unfold meF at *
  (repeat' (first | (simp +contextual -dsimp only [*, CliC, Msg.cells, noMsg, OpC.cells, ↓reduceIte, ↓evP, evQ, splice, Nat.reduceAdd, Nat.reduceEqDiff, Nat.reduceLeDiff, Nat.reduceMul, reduceCtorEq, Int.reduceLT, Int.reduceLE, Int.reduceGT, Int.reduceGE, Int.reduceEq, Int.reduceNeg]) | (refine condF_split (fun hc => ?_) (fun hc => ?_) <;> (try simp only [Bool.not_eq_true', Bool.not_eq_false', Bool.and_eq_true, Bool.or_eq_false_iff] at hc)) | (intro _; intros) | (refine And.intro ?_ ?_; focus (first | omega | ((repeat (first | exact Sub.refl _ | (refine Sub.drop ?_ ?_; focus (simp only [evN, *]; done)) | refine Sub.both ?_)); done) | (simp_all; done) | (simp_all; omega)))))
  rename_i b b0 d d1 d1' d0
  refine callF_of (ACalls.beside ?_ (ACalls.beside ?_ (HQ.out.2 σ1 C' H1.out HG.out.1))) ?_
  · (simp only [evN, *]; done)
  · (simp only [evN, *]; done)
  rintro u _ ⟨_, ⟨σ2, ⟨R', v2, hg2, mv2, hA, rfl, hr2, hn2⟩, n2, rfl⟩, n3, rfl⟩
  obtain ⟨x2, y2, rfl⟩ := hr2.slice
  simp only [none_upd] at n3
  have H2 := Hid.mk (H1.out.rmove mv2)
  have hk1 : RowsAt 52 3 Wr.cells σ2 (.slice x1 ws.length y1) ws := HG.out.2.2.1.sameF mv2.2.1 fun k hk e => HP.out.r.known e (HG.out.2.2.2 k hk)
  have HR := Hid.mk (And.intro hg2 (And.intro hA (And.intro (hk1.ro Wr.cells_len) (hr2.ro Wr.cells_len))))
  clear hg2 mv2 hA hr2 hn2 hk1
  (repeat' (first | (simp +contextual -dsimp only [*, CliC, Msg.cells, noMsg, OpC.cells, ↓reduceIte, ↓evP, evQ, splice, Nat.reduceAdd, Nat.reduceEqDiff, Nat.reduceLeDiff, Nat.reduceMul, reduceCtorEq, Int.reduceLT, Int.reduceLE, Int.reduceGT, Int.reduceGE, Int.reduceEq, Int.reduceNeg]) | (refine condF_split (fun hc => ?_) (fun hc => ?_) <;> (try simp only [Bool.not_eq_true', Bool.not_eq_false', Bool.and_eq_true, Bool.or_eq_false_iff] at hc)) | (intro _; intros) | (refine And.intro ?_ ?_; focus (first | omega | ((repeat (first | exact Sub.refl _ | (refine Sub.drop ?_ ?_; focus (simp only [evN, *]; done)) | refine Sub.both ?_)); done) | (simp_all; done) | (simp_all; omega)))))
  refine callF_v (sameWr m (HR.out.2.2.1.sub (by (repeat (first | exact Sub.refl _ | (refine Sub.drop ?_ ?_; focus (simp only [evN, *]; done)) | refine Sub.both ?_)); done)) (HR.out.2.2.2.sub (by (repeat (first | exact Sub.refl _ | (refine Sub.drop ?_ ?_; focus (simp only [evN, *]; done)) | refine Sub.both ?_)); done)) hn) ?_
  (repeat' (first | (simp +contextual -dsimp only [*, CliC, Msg.cells, noMsg, OpC.cells, ↓reduceIte, ↓evP, evQ, splice, Nat.reduceAdd, Nat.reduceEqDiff, Nat.reduceLeDiff, Nat.reduceMul, reduceCtorEq, Int.reduceLT, Int.reduceLE, Int.reduceGT, Int.reduceGE, Int.reduceEq, Int.reduceNeg]) | (refine condF_split (fun hc => ?_) (fun hc => ?_) <;> (try simp only [Bool.not_eq_true', Bool.not_eq_false', Bool.and_eq_true, Bool.or_eq_false_iff] at hc)) | (intro _; intros) | (refine And.intro ?_ ?_; focus (first | omega | ((repeat (first | exact Sub.refl _ | (refine Sub.drop ?_ ?_; focus (simp only [evN, *]; done)) | refine Sub.both ?_)); done) | (simp_all; done) | (simp_all; omega)))))
  refine endF_sub (τ := σ2) (by (repeat (first | exact Sub.refl _ | (refine Sub.drop ?_ ?_; focus (simp only [evN, *]; done)) | refine Sub.both ?_)); done) ⟨?_, C', R', HG.out.2.1, HR.out.1, H2.out, HR.out.2.1⟩
  simp
set_option maxHeartbeats 1000000 in
theorem step8_7 {σ0 σ : Hp} {C : CL} {R : RL} {n : Nat} {o : OpC} {G : CL → Prop} {m : Msg} {ws : List Wr} {e : Int} (P : Pair σ0 σ C R) (ho : OpCOk σ0 o) (hk : o.kind.tmod 10 = 7) (hn : ws.length ≤ 140737488355328)
    (q1 : ACalls Tryz.prog 25 #[.pointer (some ⟨C.g, 0, none⟩), .int .i64 o.t] σ (CDid σ C G m ws (meF e)))
    (q2 : ∀ σ1 C', Pair σ0 σ1 C' R → G C' → ACalls Tryz.prog 26 #[.pointer (some ⟨R.g, 0, none⟩), .int .i64 o.t] σ1 (RDid σ1 C' R n m ws (meF e))) :
    ACalls Tryz.prog 8 #[.pointer (some ⟨C.g, 0, none⟩), .pointer (some ⟨R.g, 0, none⟩), .agg o.cells.toArray] σ (StepTo σ0 C R n) := by
  have HP := Hid.mk P
  have HQ := Hid.mk (And.intro q1 q2)
  clear P q1 q2
  have ho1 := ho.mw
  have ho2 := ho.mks
  have ho3 := ho.w1
  obtain ⟨kd, sn, tn, key, wv, mm⟩ := o
  simp only at hk ho1 ho2 ho3
  (refine acalls_F ok8 (by simp) ?_; unfold c8 r8)
  (repeat' (first | (simp +contextual -dsimp only [*, CliC, Msg.cells, noMsg, OpC.cells, ↓reduceIte, ↓evP, evQ, splice, Nat.reduceAdd, Nat.reduceEqDiff, Nat.reduceLeDiff, Nat.reduceMul, reduceCtorEq, Int.reduceLT, Int.reduceLE, Int.reduceGT, Int.reduceGE, Int.reduceEq, Int.reduceNeg]) | (refine condF_split (fun hc => ?_) (fun hc => ?_) <;> (try simp only [Bool.not_eq_true', Bool.not_eq_false', Bool.and_eq_true, Bool.or_eq_false_iff] at hc)) | (intro _; intros) | (refine And.intro ?_ ?_; focus (first | omega | ((repeat (first | exact Sub.refl _ | (refine Sub.drop ?_ ?_; focus (simp only [evN, *]; done)) | refine Sub.both ?_)); done) | (simp_all; done) | (simp_all; omega)))))
  refine callF_of (ACalls.beside ?_ HQ.out.1) ?_
  · (simp only [evN, *]; done)
  rintro u _ ⟨σ1, ⟨C', v1, hG, hg, mv, rfl, hr1, hn1⟩, n1, rfl⟩
  obtain ⟨x1, y1, rfl⟩ := hr1.slice
  have H1 := Hid.mk (HP.out.cmove mv)
  have HG := Hid.mk (And.intro hG (And.intro hg (And.intro hr1 hn1)))
  clear hG hg mv hr1 hn1
  unfold meF at *
  (repeat' (first | (simp +contextual -dsimp only [*, CliC, Msg.cells, noMsg, OpC.cells, ↓reduceIte, ↓evP, evQ, splice, Nat.reduceAdd, Nat.reduceEqDiff, Nat.reduceLeDiff, Nat.reduceMul, reduceCtorEq, Int.reduceLT, Int.reduceLE, Int.reduceGT, Int.reduceGE, Int.reduceEq, Int.reduceNeg]) | (refine condF_split (fun hc => ?_) (fun hc => ?_) <;> (try simp only [Bool.not_eq_true', Bool.not_eq_false', Bool.and_eq_true, Bool.or_eq_false_iff] at hc)) | (intro _; intros) | (refine And.intro ?_ ?_; focus (first | omega | ((repeat (first | exact Sub.refl _ | (refine Sub.drop ?_ ?_; focus (simp only [evN, *]; done)) | refine Sub.both ?_)); done) | (simp_all; done) | (simp_all; omega)))))
  rename_i b b0 d d1 d1' d0
  refine callF_of (ACalls.beside ?_ (ACalls.beside ?_ (HQ.out.2 σ1 C' H1.out HG.out.1))) ?_
  · (simp only [evN, *]; done)
  · (simp only [evN, *]; done)
  rintro u _ ⟨_, ⟨σ2, ⟨R', v2, hg2, mv2, hA, rfl, hr2, hn2⟩, n2, rfl⟩, n3, rfl⟩
  obtain ⟨x2, y2, rfl⟩ := hr2.slice
  simp only [none_upd] at n3
  have H2 := Hid.mk (H1.out.rmove mv2)
  have hk1 : RowsAt 52 3 Wr.cells σ2 (.slice x1 ws.length y1) ws := HG.out.2.2.1.sameF mv2.2.1 fun k hk e => HP.out.r.known e (HG.out.2.2.2 k hk)
  have HR := Hid.mk (And.intro hg2 (And.intro hA (And.intro (hk1.ro Wr.cells_len) (hr2.ro Wr.cells_len))))
  clear hg2 mv2 hA hr2 hn2 hk1
  (repeat' (first | (simp +contextual -dsimp only [*, CliC, Msg.cells, noMsg, OpC.cells, ↓reduceIte, ↓evP, evQ, splice, Nat.reduceAdd, Nat.reduceEqDiff, Nat.reduceLeDiff, Nat.reduceMul, reduceCtorEq, Int.reduceLT, Int.reduceLE, Int.reduceGT, Int.reduceGE, Int.reduceEq, Int.reduceNeg]) | (refine condF_split (fun hc => ?_) (fun hc => ?_) <;> (try simp only [Bool.not_eq_true', Bool.not_eq_false', Bool.and_eq_true, Bool.or_eq_false_iff] at hc)) | (intro _; intros) | (refine And.intro ?_ ?_; focus (first | omega | ((repeat (first | exact Sub.refl _ | (refine Sub.drop ?_ ?_; focus (simp only [evN, *]; done)) | refine Sub.both ?_)); done) | (simp_all; done) | (simp_all; omega)))))
  refine callF_v (sameWr m (HR.out.2.2.1.sub (by (repeat (first | exact Sub.refl _ | (refine Sub.drop ?_ ?_; focus (simp only [evN, *]; done)) | refine Sub.both ?_)); done)) (HR.out.2.2.2.sub (by (repeat (first | exact Sub.refl _ | (refine Sub.drop ?_ ?_; focus (simp only [evN, *]; done)) | refine Sub.both ?_)); done)) hn) ?_
  (repeat' (first | (simp +contextual -dsimp only [*, CliC, Msg.cells, noMsg, OpC.cells, ↓reduceIte, ↓evP, evQ, splice, Nat.reduceAdd, Nat.reduceEqDiff, Nat.reduceLeDiff, Nat.reduceMul, reduceCtorEq, Int.reduceLT, Int.reduceLE, Int.reduceGT, Int.reduceGE, Int.reduceEq, Int.reduceNeg]) | (refine condF_split (fun hc => ?_) (fun hc => ?_) <;> (try simp only [Bool.not_eq_true', Bool.not_eq_false', Bool.and_eq_true, Bool.or_eq_false_iff] at hc)) | (intro _; intros) | (refine And.intro ?_ ?_; focus (first | omega | ((repeat (first | exact Sub.refl _ | (refine Sub.drop ?_ ?_; focus (simp only [evN, *]; done)) | refine Sub.both ?_)); done) | (simp_all; done) | (simp_all; omega)))))
  refine endF_sub (τ := σ2) (by (repeat (first | exact Sub.refl _ | (refine Sub.drop ?_ ?_; focus (simp only [evN, *]; done)) | refine Sub.both ?_)); done) ⟨?_, C', R', HG.out.2.1, HR.out.1, H2.out, HR.out.2.1⟩
  simp
def CDo (σ : Hp) (C : CL) (G : CL → Prop) (V : Value) (u : Value) (σ' : Hp) : Prop := ∃ C', G C' ∧ C'.g = C.g ∧ Moved σ C σ' C' ∧ u = V
def RDo (σ : Hp) (C : CL) (R : RL) (n : Nat) (V : Value) (u : Value) (σ' : Hp) : Prop := ∃ R', R'.g = R.g ∧ RMoved σ R σ' R' ∧ Alike C R' (n + 1) ∧ u = V
theorem CDo.no {f : FuncId} {args : Array Value} {σ : Hp} {C : CL} {V : Value} (h : CliAt σ C) (q : ACalls Tryz.prog f args σ fun u σ' => u = V ∧ σ' = σ) : ACalls Tryz.prog f args σ (CDo σ C (fun C' => C' = C) V) :=
  q.mono fun u σ' ⟨h1, h2⟩ => ⟨C, rfl, rfl, by rw [h2]; exact Moved.refl h, h1⟩
theorem RDo.no {f : FuncId} {args : Array Value} {σ : Hp} {C : CL} {R : RL} {n : Nat} {V : Value} (h : RefAt σ R) (A : Alike C R n) (q : ACalls Tryz.prog f args σ fun u σ' => u = V ∧ σ' = σ) : ACalls Tryz.prog f args σ (RDo σ C R n V) :=
  q.mono fun u σ' ⟨h1, h2⟩ => ⟨R, rfl, by rw [h2]; exact RMoved.refl h, A.up, h1⟩
set_option maxRecDepth 100000 in
set_option maxHeartbeats 1000000 in
theorem step29s_3 {σ0 σ : Hp} {C : CL} {R : RL} {n : Nat} {o : OpC} {G : CL → Prop} {tk : ByteArray} {e : Int} (P : Pair σ0 σ C R) (ho : OpCOk σ0 o) (hk : o.kind.tmod 10 = 3)
    (q1 : ACalls Tryz.prog 16 #[.pointer (some ⟨C.g, 0, none⟩), .int .i64 o.s] σ (CDo σ C G (.tuple #[.string tk, .int .i64 e])))
    (q2 : ∀ σ1 C', Pair σ0 σ1 C' R → G C' → ACalls Tryz.prog 67 #[.pointer (some ⟨R.g, 0, none⟩), .int .i64 o.s] σ1 (RDo σ1 C' R n (.tuple #[.string tk, .int .i64 e]))) :
    ACalls Tryz.prog 29 #[.pointer (some ⟨C.g, 0, none⟩), .pointer (some ⟨R.g, 0, none⟩), .agg o.cells.toArray] σ (StepTo σ0 C R n) := by
  have HP := Hid.mk P
  have HQ := Hid.mk (And.intro q1 q2)
  clear P q1 q2
  have ho1 := ho.mw
  have ho2 := ho.mks
  have ho3 := ho.w1
  obtain ⟨kd, sn, tn, key, wv, mm⟩ := o
  simp only at hk ho1 ho2 ho3
  (refine acalls_F ok29 (by simp) ?_; unfold c29 r29)
  (repeat' (first | (simp +contextual -dsimp only [*, CliC, Msg.cells, noMsg, OpC.cells, ↓reduceIte, ↓evP, evQ, splice, Nat.reduceAdd, Nat.reduceEqDiff, Nat.reduceLeDiff, Nat.reduceMul, reduceCtorEq, Int.reduceLT, Int.reduceLE, Int.reduceGT, Int.reduceGE, Int.reduceEq, Int.reduceNeg]) | (refine condF_split (fun hc => ?_) (fun hc => ?_) <;> (try simp only [Bool.not_eq_true', Bool.not_eq_false', Bool.and_eq_true, Bool.or_eq_false_iff] at hc)) | (intro _; intros) | (refine And.intro ?_ ?_; focus (first | omega | ((repeat (first | exact Sub.refl _ | (refine Sub.drop ?_ ?_; focus (simp only [evN, *]; done)) | refine Sub.both ?_)); done) | (simp_all; done) | (simp_all; omega)))))
  refine callF_of (ACalls.beside ?_ HQ.out.1) ?_
  · (simp only [evN, *]; done)
  rintro u _ ⟨σ1, ⟨C', hG, hg, mv, rfl⟩, n1, rfl⟩
  have H1 := Hid.mk (HP.out.cmove mv)
  have HG := Hid.mk (And.intro hG hg)
  clear hG hg mv
  (repeat' (first | (simp +contextual -dsimp only [*, CliC, Msg.cells, noMsg, OpC.cells, ↓reduceIte, ↓evP, evQ, splice, Nat.reduceAdd, Nat.reduceEqDiff, Nat.reduceLeDiff, Nat.reduceMul, reduceCtorEq, Int.reduceLT, Int.reduceLE, Int.reduceGT, Int.reduceGE, Int.reduceEq, Int.reduceNeg]) | (refine condF_split (fun hc => ?_) (fun hc => ?_) <;> (try simp only [Bool.not_eq_true', Bool.not_eq_false', Bool.and_eq_true, Bool.or_eq_false_iff] at hc)) | (intro _; intros) | (refine And.intro ?_ ?_; focus (first | omega | ((repeat (first | exact Sub.refl _ | (refine Sub.drop ?_ ?_; focus (simp only [evN, *]; done)) | refine Sub.both ?_)); done) | (simp_all; done) | (simp_all; omega)))))
  refine callF_of (ACalls.beside n1 (HQ.out.2 σ1 C' H1.out HG.out.1)) ?_
  rintro u _ ⟨σ2, ⟨R', hg2, mv2, hA, rfl⟩, n2, rfl⟩
  have H2 := Hid.mk (H1.out.rmove mv2)
  have HR := Hid.mk (And.intro hg2 hA)
  clear hg2 mv2 hA
  (repeat' (first | (simp +contextual -dsimp only [*, CliC, Msg.cells, noMsg, OpC.cells, ↓reduceIte, ↓evP, evQ, splice, Nat.reduceAdd, Nat.reduceEqDiff, Nat.reduceLeDiff, Nat.reduceMul, reduceCtorEq, Int.reduceLT, Int.reduceLE, Int.reduceGT, Int.reduceGE, Int.reduceEq, Int.reduceNeg]) | (refine condF_split (fun hc => ?_) (fun hc => ?_) <;> (try simp only [Bool.not_eq_true', Bool.not_eq_false', Bool.and_eq_true, Bool.or_eq_false_iff] at hc)) | (intro _; intros) | (refine And.intro ?_ ?_; focus (first | omega | ((repeat (first | exact Sub.refl _ | (refine Sub.drop ?_ ?_; focus (simp only [evN, *]; done)) | refine Sub.both ?_)); done) | (simp_all; done) | (simp_all; omega)))))
  refine endF_sub (τ := σ2) (by (repeat (first | exact Sub.refl _ | (refine Sub.drop ?_ ?_; focus (simp only [evN, *]; done)) | refine Sub.both ?_)); done) ⟨?_, C', R', HG.out.2, HR.out.1, H2.out, HR.out.2⟩
  simp
set_option maxRecDepth 100000 in
set_option maxHeartbeats 1000000 in
theorem step29s_4 {σ0 σ : Hp} {C : CL} {R : RL} {n : Nat} {o : OpC} {G : CL → Prop} {e : Int} (P : Pair σ0 σ C R) (ho : OpCOk σ0 o) (hk : o.kind.tmod 10 = 4)
    (q1 : ACalls Tryz.prog 17 #[.pointer (some ⟨C.g, 0, none⟩), .int .i64 o.s, .string o.key] σ (CDo σ C G (.int .i64 e)))
    (q2 : ∀ σ1 C', Pair σ0 σ1 C' R → G C' → ACalls Tryz.prog 68 #[.pointer (some ⟨R.g, 0, none⟩), .int .i64 o.s, .string o.key] σ1 (RDo σ1 C' R n (.int .i64 e))) :
    ACalls Tryz.prog 29 #[.pointer (some ⟨C.g, 0, none⟩), .pointer (some ⟨R.g, 0, none⟩), .agg o.cells.toArray] σ (StepTo σ0 C R n) := by
  have HP := Hid.mk P
  have HQ := Hid.mk (And.intro q1 q2)
  clear P q1 q2
  have ho1 := ho.mw
  have ho2 := ho.mks
  have ho3 := ho.w1
  obtain ⟨kd, sn, tn, key, wv, mm⟩ := o
  simp only at hk ho1 ho2 ho3
  (refine acalls_F ok29 (by simp) ?_; unfold c29 r29)
  (repeat' (first | (simp +contextual -dsimp only [*, CliC, Msg.cells, noMsg, OpC.cells, ↓reduceIte, ↓evP, evQ, splice, Nat.reduceAdd, Nat.reduceEqDiff, Nat.reduceLeDiff, Nat.reduceMul, reduceCtorEq, Int.reduceLT, Int.reduceLE, Int.reduceGT, Int.reduceGE, Int.reduceEq, Int.reduceNeg]) | (refine condF_split (fun hc => ?_) (fun hc => ?_) <;> (try simp only [Bool.not_eq_true', Bool.not_eq_false', Bool.and_eq_true, Bool.or_eq_false_iff] at hc)) | (intro _; intros) | (refine And.intro ?_ ?_; focus (first | omega | ((repeat (first | exact Sub.refl _ | (refine Sub.drop ?_ ?_; focus (simp only [evN, *]; done)) | refine Sub.both ?_)); done) | (simp_all; done) | (simp_all; omega)))))
  refine callF_of (ACalls.beside ?_ HQ.out.1) ?_
  · (simp only [evN, *]; done)
  rintro u _ ⟨σ1, ⟨C', hG, hg, mv, rfl⟩, n1, rfl⟩
  have H1 := Hid.mk (HP.out.cmove mv)
  have HG := Hid.mk (And.intro hG hg)
  clear hG hg mv
  (repeat' (first | (simp +contextual -dsimp only [*, CliC, Msg.cells, noMsg, OpC.cells, ↓reduceIte, ↓evP, evQ, splice, Nat.reduceAdd, Nat.reduceEqDiff, Nat.reduceLeDiff, Nat.reduceMul, reduceCtorEq, Int.reduceLT, Int.reduceLE, Int.reduceGT, Int.reduceGE, Int.reduceEq, Int.reduceNeg]) | (refine condF_split (fun hc => ?_) (fun hc => ?_) <;> (try simp only [Bool.not_eq_true', Bool.not_eq_false', Bool.and_eq_true, Bool.or_eq_false_iff] at hc)) | (intro _; intros) | (refine And.intro ?_ ?_; focus (first | omega | ((repeat (first | exact Sub.refl _ | (refine Sub.drop ?_ ?_; focus (simp only [evN, *]; done)) | refine Sub.both ?_)); done) | (simp_all; done) | (simp_all; omega)))))
  refine callF_of (ACalls.beside n1 (HQ.out.2 σ1 C' H1.out HG.out.1)) ?_
  rintro u _ ⟨σ2, ⟨R', hg2, mv2, hA, rfl⟩, n2, rfl⟩
  have H2 := Hid.mk (H1.out.rmove mv2)
  have HR := Hid.mk (And.intro hg2 hA)
  clear hg2 mv2 hA
  (repeat' (first | (simp +contextual -dsimp only [*, CliC, Msg.cells, noMsg, OpC.cells, ↓reduceIte, ↓evP, evQ, splice, Nat.reduceAdd, Nat.reduceEqDiff, Nat.reduceLeDiff, Nat.reduceMul, reduceCtorEq, Int.reduceLT, Int.reduceLE, Int.reduceGT, Int.reduceGE, Int.reduceEq, Int.reduceNeg]) | (refine condF_split (fun hc => ?_) (fun hc => ?_) <;> (try simp only [Bool.not_eq_true', Bool.not_eq_false', Bool.and_eq_true, Bool.or_eq_false_iff] at hc)) | (intro _; intros) | (refine And.intro ?_ ?_; focus (first | omega | ((repeat (first | exact Sub.refl _ | (refine Sub.drop ?_ ?_; focus (simp only [evN, *]; done)) | refine Sub.both ?_)); done) | (simp_all; done) | (simp_all; omega)))))
  refine endF_sub (τ := σ2) (by (repeat (first | exact Sub.refl _ | (refine Sub.drop ?_ ?_; focus (simp only [evN, *]; done)) | refine Sub.both ?_)); done) ⟨?_, C', R', HG.out.2, HR.out.1, H2.out, HR.out.2⟩
  simp
set_option maxRecDepth 100000 in
set_option maxHeartbeats 1000000 in
theorem step29s_5 {σ0 σ : Hp} {C : CL} {R : RL} {n : Nat} {o : OpC} {G : CL → Prop} {a e : Int} (P : Pair σ0 σ C R) (ho : OpCOk σ0 o) (hk : decide (o.kind.tmod 10 = 0) = false ∧ decide (o.kind.tmod 10 = 1) = false ∧ decide (o.kind.tmod 10 = 2) = false ∧ decide (o.kind.tmod 10 = 3) = false ∧ decide (o.kind.tmod 10 = 4) = false)
    (q1 : ACalls Tryz.prog 18 #[.pointer (some ⟨C.g, 0, none⟩), .int .i64 o.s] σ (CDo σ C G (.tuple #[.int .i64 a, .int .i64 e])))
    (q2 : ∀ σ1 C', Pair σ0 σ1 C' R → G C' → ACalls Tryz.prog 69 #[.pointer (some ⟨R.g, 0, none⟩), .int .i64 o.s] σ1 (RDo σ1 C' R n (.tuple #[.int .i64 a, .int .i64 e]))) :
    ACalls Tryz.prog 29 #[.pointer (some ⟨C.g, 0, none⟩), .pointer (some ⟨R.g, 0, none⟩), .agg o.cells.toArray] σ (StepTo σ0 C R n) := by
  have HP := Hid.mk P
  have HQ := Hid.mk (And.intro q1 q2)
  clear P q1 q2
  have ho1 := ho.mw
  have ho2 := ho.mks
  have ho3 := ho.w1
  obtain ⟨kd, sn, tn, key, wv, mm⟩ := o
  simp only at hk ho1 ho2 ho3
  obtain ⟨hk, hk2, hk3, hk4, hk5⟩ := hk
  (refine acalls_F ok29 (by simp) ?_; unfold c29 r29)
  (repeat' (first | (simp +contextual -dsimp only [*, CliC, Msg.cells, noMsg, OpC.cells, ↓reduceIte, ↓evP, evQ, splice, Nat.reduceAdd, Nat.reduceEqDiff, Nat.reduceLeDiff, Nat.reduceMul, reduceCtorEq, Int.reduceLT, Int.reduceLE, Int.reduceGT, Int.reduceGE, Int.reduceEq, Int.reduceNeg]) | (refine condF_split (fun hc => ?_) (fun hc => ?_) <;> (try simp only [Bool.not_eq_true', Bool.not_eq_false', Bool.and_eq_true, Bool.or_eq_false_iff] at hc)) | (intro _; intros) | (refine And.intro ?_ ?_; focus (first | omega | ((repeat (first | exact Sub.refl _ | (refine Sub.drop ?_ ?_; focus (simp only [evN, *]; done)) | refine Sub.both ?_)); done) | (simp_all; done) | (simp_all; omega)))))
  refine callF_of (ACalls.beside ?_ HQ.out.1) ?_
  · (simp only [evN, *]; done)
  rintro u _ ⟨σ1, ⟨C', hG, hg, mv, rfl⟩, n1, rfl⟩
  have H1 := Hid.mk (HP.out.cmove mv)
  have HG := Hid.mk (And.intro hG hg)
  clear hG hg mv
  (repeat' (first | (simp +contextual -dsimp only [*, CliC, Msg.cells, noMsg, OpC.cells, ↓reduceIte, ↓evP, evQ, splice, Nat.reduceAdd, Nat.reduceEqDiff, Nat.reduceLeDiff, Nat.reduceMul, reduceCtorEq, Int.reduceLT, Int.reduceLE, Int.reduceGT, Int.reduceGE, Int.reduceEq, Int.reduceNeg]) | (refine condF_split (fun hc => ?_) (fun hc => ?_) <;> (try simp only [Bool.not_eq_true', Bool.not_eq_false', Bool.and_eq_true, Bool.or_eq_false_iff] at hc)) | (intro _; intros) | (refine And.intro ?_ ?_; focus (first | omega | ((repeat (first | exact Sub.refl _ | (refine Sub.drop ?_ ?_; focus (simp only [evN, *]; done)) | refine Sub.both ?_)); done) | (simp_all; done) | (simp_all; omega)))))
  refine callF_of (ACalls.beside n1 (HQ.out.2 σ1 C' H1.out HG.out.1)) ?_
  rintro u _ ⟨σ2, ⟨R', hg2, mv2, hA, rfl⟩, n2, rfl⟩
  have H2 := Hid.mk (H1.out.rmove mv2)
  have HR := Hid.mk (And.intro hg2 hA)
  clear hg2 mv2 hA
  (repeat' (first | (simp +contextual -dsimp only [*, CliC, Msg.cells, noMsg, OpC.cells, ↓reduceIte, ↓evP, evQ, splice, Nat.reduceAdd, Nat.reduceEqDiff, Nat.reduceLeDiff, Nat.reduceMul, reduceCtorEq, Int.reduceLT, Int.reduceLE, Int.reduceGT, Int.reduceGE, Int.reduceEq, Int.reduceNeg]) | (refine condF_split (fun hc => ?_) (fun hc => ?_) <;> (try simp only [Bool.not_eq_true', Bool.not_eq_false', Bool.and_eq_true, Bool.or_eq_false_iff] at hc)) | (intro _; intros) | (refine And.intro ?_ ?_; focus (first | omega | ((repeat (first | exact Sub.refl _ | (refine Sub.drop ?_ ?_; focus (simp only [evN, *]; done)) | refine Sub.both ?_)); done) | (simp_all; done) | (simp_all; omega)))))
  refine endF_sub (τ := σ2) (by (repeat (first | exact Sub.refl _ | (refine Sub.drop ?_ ?_; focus (simp only [evN, *]; done)) | refine Sub.both ?_)); done) ⟨?_, C', R', HG.out.2, HR.out.1, H2.out, HR.out.2⟩
  simp
set_option maxRecDepth 100000 in
set_option maxHeartbeats 1000000 in
theorem step8s_8 {σ0 σ : Hp} {C : CL} {R : RL} {n : Nat} {o : OpC} {G : CL → Prop} {a e : Int} (P : Pair σ0 σ C R) (ho : OpCOk σ0 o) (hk : o.kind.tmod 10 = 8)
    (q1 : ACalls Tryz.prog 19 #[.pointer (some ⟨C.g, 0, none⟩), .int .i64 o.t] σ (CDo σ C G (.tuple #[.int .i64 a, .int .i64 e])))
    (q2 : ∀ σ1 C', Pair σ0 σ1 C' R → G C' → ACalls Tryz.prog 27 #[.pointer (some ⟨R.g, 0, none⟩), .int .i64 o.t] σ1 (RDo σ1 C' R n (.tuple #[.int .i64 a, .int .i64 e]))) :
    ACalls Tryz.prog 8 #[.pointer (some ⟨C.g, 0, none⟩), .pointer (some ⟨R.g, 0, none⟩), .agg o.cells.toArray] σ (StepTo σ0 C R n) := by
  have HP := Hid.mk P
  have HQ := Hid.mk (And.intro q1 q2)
  clear P q1 q2
  have ho1 := ho.mw
  have ho2 := ho.mks
  have ho3 := ho.w1
  obtain ⟨kd, sn, tn, key, wv, mm⟩ := o
  simp only at hk ho1 ho2 ho3
  (refine acalls_F ok8 (by simp) ?_; unfold c8 r8)
  (repeat' (first | (simp +contextual -dsimp only [*, CliC, Msg.cells, noMsg, OpC.cells, ↓reduceIte, ↓evP, evQ, splice, Nat.reduceAdd, Nat.reduceEqDiff, Nat.reduceLeDiff, Nat.reduceMul, reduceCtorEq, Int.reduceLT, Int.reduceLE, Int.reduceGT, Int.reduceGE, Int.reduceEq, Int.reduceNeg]) | (refine condF_split (fun hc => ?_) (fun hc => ?_) <;> (try simp only [Bool.not_eq_true', Bool.not_eq_false', Bool.and_eq_true, Bool.or_eq_false_iff] at hc)) | (intro _; intros) | (refine And.intro ?_ ?_; focus (first | omega | ((repeat (first | exact Sub.refl _ | (refine Sub.drop ?_ ?_; focus (simp only [evN, *]; done)) | refine Sub.both ?_)); done) | (simp_all; done) | (simp_all; omega)))))
  refine callF_of (ACalls.beside ?_ HQ.out.1) ?_
  · (simp only [evN, *]; done)
  rintro u _ ⟨σ1, ⟨C', hG, hg, mv, rfl⟩, n1, rfl⟩
  have H1 := Hid.mk (HP.out.cmove mv)
  have HG := Hid.mk (And.intro hG hg)
  clear hG hg mv
  (repeat' (first | (simp +contextual -dsimp only [*, CliC, Msg.cells, noMsg, OpC.cells, ↓reduceIte, ↓evP, evQ, splice, Nat.reduceAdd, Nat.reduceEqDiff, Nat.reduceLeDiff, Nat.reduceMul, reduceCtorEq, Int.reduceLT, Int.reduceLE, Int.reduceGT, Int.reduceGE, Int.reduceEq, Int.reduceNeg]) | (refine condF_split (fun hc => ?_) (fun hc => ?_) <;> (try simp only [Bool.not_eq_true', Bool.not_eq_false', Bool.and_eq_true, Bool.or_eq_false_iff] at hc)) | (intro _; intros) | (refine And.intro ?_ ?_; focus (first | omega | ((repeat (first | exact Sub.refl _ | (refine Sub.drop ?_ ?_; focus (simp only [evN, *]; done)) | refine Sub.both ?_)); done) | (simp_all; done) | (simp_all; omega)))))
  refine callF_of (ACalls.beside n1 (HQ.out.2 σ1 C' H1.out HG.out.1)) ?_
  rintro u _ ⟨σ2, ⟨R', hg2, mv2, hA, rfl⟩, n2, rfl⟩
  have H2 := Hid.mk (H1.out.rmove mv2)
  have HR := Hid.mk (And.intro hg2 hA)
  clear hg2 mv2 hA
  (repeat' (first | (simp +contextual -dsimp only [*, CliC, Msg.cells, noMsg, OpC.cells, ↓reduceIte, ↓evP, evQ, splice, Nat.reduceAdd, Nat.reduceEqDiff, Nat.reduceLeDiff, Nat.reduceMul, reduceCtorEq, Int.reduceLT, Int.reduceLE, Int.reduceGT, Int.reduceGE, Int.reduceEq, Int.reduceNeg]) | (refine condF_split (fun hc => ?_) (fun hc => ?_) <;> (try simp only [Bool.not_eq_true', Bool.not_eq_false', Bool.and_eq_true, Bool.or_eq_false_iff] at hc)) | (intro _; intros) | (refine And.intro ?_ ?_; focus (first | omega | ((repeat (first | exact Sub.refl _ | (refine Sub.drop ?_ ?_; focus (simp only [evN, *]; done)) | refine Sub.both ?_)); done) | (simp_all; done) | (simp_all; omega)))))
  refine endF_sub (τ := σ2) (by (repeat (first | exact Sub.refl _ | (refine Sub.drop ?_ ?_; focus (simp only [evN, *]; done)) | refine Sub.both ?_)); done) ⟨?_, C', R', HG.out.2, HR.out.1, H2.out, HR.out.2⟩
  simp
set_option maxRecDepth 100000 in
set_option maxHeartbeats 1000000 in
theorem step8s_9 {σ0 σ : Hp} {C : CL} {R : RL} {n : Nat} {o : OpC} {G : CL → Prop} {m : Msg} {e : Bool} (hm1 : m.writes = .slice none 0 0) (hm2 : m.keys = .slice none 0 0)  (P : Pair σ0 σ C R) (ho : OpCOk σ0 o) (hk : o.kind.tmod 10 = 9)
    (q1 : ACalls Tryz.prog 15 #[.pointer (some ⟨C.g, 0, none⟩), .agg o.msg.cells.toArray] σ (CDo σ C G (.tuple #[.agg m.cells.toArray, .bool e])))
    (q2 : ∀ σ1 C', Pair σ0 σ1 C' R → G C' → ACalls Tryz.prog 28 #[.pointer (some ⟨R.g, 0, none⟩), .agg o.msg.cells.toArray] σ1 (RDo σ1 C' R n (.tuple #[.agg m.cells.toArray, .bool e]))) :
    ACalls Tryz.prog 8 #[.pointer (some ⟨C.g, 0, none⟩), .pointer (some ⟨R.g, 0, none⟩), .agg o.cells.toArray] σ (StepTo σ0 C R n) := by
  obtain ⟨m1, m2, m3, m4, m5, m6, m7, m8, m9, m10, m11, m12, m13, m14, mw, mk⟩ := m
  simp only at hm1 hm2
  subst hm1 hm2
  have HP := Hid.mk P
  have HQ := Hid.mk (And.intro q1 q2)
  clear P q1 q2
  have ho1 := ho.mw
  have ho2 := ho.mks
  have ho3 := ho.w1
  obtain ⟨kd, sn, tn, key, wv, mm⟩ := o
  simp only at hk ho1 ho2 ho3
  (refine acalls_F ok8 (by simp) ?_; unfold c8 r8)
  (repeat' (first | (simp +contextual -dsimp only [*, CliC, Msg.cells, noMsg, OpC.cells, ↓reduceIte, ↓evP, evQ, splice, Nat.reduceAdd, Nat.reduceEqDiff, Nat.reduceLeDiff, Nat.reduceMul, reduceCtorEq, Int.reduceLT, Int.reduceLE, Int.reduceGT, Int.reduceGE, Int.reduceEq, Int.reduceNeg]) | (refine condF_split (fun hc => ?_) (fun hc => ?_) <;> (try simp only [Bool.not_eq_true', Bool.not_eq_false', Bool.and_eq_true, Bool.or_eq_false_iff] at hc)) | (intro _; intros) | (refine And.intro ?_ ?_; focus (first | omega | ((repeat (first | exact Sub.refl _ | (refine Sub.drop ?_ ?_; focus (simp only [evN, *]; done)) | refine Sub.both ?_)); done) | (simp_all; done) | (simp_all; omega)))))
  refine callF_of (ACalls.beside ?_ HQ.out.1) ?_
  · (simp only [evN, *]; done)
  rintro u _ ⟨σ1, ⟨C', hG, hg, mv, rfl⟩, n1, rfl⟩
  have H1 := Hid.mk (HP.out.cmove mv)
  have HG := Hid.mk (And.intro hG hg)
  clear hG hg mv
  (repeat' (first | (simp +contextual -dsimp only [*, CliC, Msg.cells, noMsg, OpC.cells, ↓reduceIte, ↓evP, evQ, splice, Nat.reduceAdd, Nat.reduceEqDiff, Nat.reduceLeDiff, Nat.reduceMul, reduceCtorEq, Int.reduceLT, Int.reduceLE, Int.reduceGT, Int.reduceGE, Int.reduceEq, Int.reduceNeg]) | (refine condF_split (fun hc => ?_) (fun hc => ?_) <;> (try simp only [Bool.not_eq_true', Bool.not_eq_false', Bool.and_eq_true, Bool.or_eq_false_iff] at hc)) | (intro _; intros) | (refine And.intro ?_ ?_; focus (first | omega | ((repeat (first | exact Sub.refl _ | (refine Sub.drop ?_ ?_; focus (simp only [evN, *]; done)) | refine Sub.both ?_)); done) | (simp_all; done) | (simp_all; omega)))))
  rename_i b b0 d d1 d1' d0
  refine callF_of (ACalls.beside ?_ (ACalls.beside ?_ (HQ.out.2 σ1 C' H1.out HG.out.1))) ?_
  · (simp only [evN, *]; done)
  · (simp only [evN, *]; done)
  rintro u _ ⟨_, ⟨σ2, ⟨R', hg2, mv2, hA, rfl⟩, n2, rfl⟩, n3, rfl⟩
  have H2 := Hid.mk (H1.out.rmove mv2)
  have HR := Hid.mk (And.intro hg2 hA)
  clear hg2 mv2 hA
  simp only [none_upd] at n3
  (repeat' (first | (simp +contextual -dsimp only [*, CliC, Msg.cells, noMsg, OpC.cells, ↓reduceIte, ↓evP, evQ, splice, Nat.reduceAdd, Nat.reduceEqDiff, Nat.reduceLeDiff, Nat.reduceMul, reduceCtorEq, Int.reduceLT, Int.reduceLE, Int.reduceGT, Int.reduceGE, Int.reduceEq, Int.reduceNeg]) | (refine condF_split (fun hc => ?_) (fun hc => ?_) <;> (try simp only [Bool.not_eq_true', Bool.not_eq_false', Bool.and_eq_true, Bool.or_eq_false_iff] at hc)) | (intro _; intros) | (refine And.intro ?_ ?_; focus (first | omega | ((repeat (first | exact Sub.refl _ | (refine Sub.drop ?_ ?_; focus (simp only [evN, *]; done)) | refine Sub.both ?_)); done) | (simp_all; done) | (simp_all; omega)))))
  refine callF_v (sameWr ⟨m1, m2, m3, m4, m5, m6, m7, m8, m9, m10, m11, m12, m13, m14, .slice none 0 0, .slice none 0 0⟩ (nil_ro' _) (nil_ro' _) (by decide)) ?_
  (repeat' (first | (simp +contextual -dsimp only [*, CliC, Msg.cells, noMsg, OpC.cells, ↓reduceIte, ↓evP, evQ, splice, Nat.reduceAdd, Nat.reduceEqDiff, Nat.reduceLeDiff, Nat.reduceMul, reduceCtorEq, Int.reduceLT, Int.reduceLE, Int.reduceGT, Int.reduceGE, Int.reduceEq, Int.reduceNeg]) | (refine condF_split (fun hc => ?_) (fun hc => ?_) <;> (try simp only [Bool.not_eq_true', Bool.not_eq_false', Bool.and_eq_true, Bool.or_eq_false_iff] at hc)) | (intro _; intros) | (refine And.intro ?_ ?_; focus (first | omega | ((repeat (first | exact Sub.refl _ | (refine Sub.drop ?_ ?_; focus (simp only [evN, *]; done)) | refine Sub.both ?_)); done) | (simp_all; done) | (simp_all; omega)))))
  refine endF_sub (τ := σ2) (by (repeat (first | exact Sub.refl _ | (refine Sub.drop ?_ ?_; focus (simp only [evN, *]; done)) | refine Sub.both ?_)); done) ⟨?_, C', R', HG.out.2, HR.out.1, H2.out, HR.out.2⟩
  simp
set_option maxRecDepth 100000 in
set_option maxHeartbeats 1000000 in
theorem step8s_6 {σ0 σ : Hp} {C : CL} {R : RL} {n : Nat} {o : OpC} {G : CL → Prop} {m : Msg} {x : Bool} {d : ByteArray} {e : Int} (hm1 : m.writes = .slice none 0 0) (hm2 : m.keys = .slice none 0 0)  (P : Pair σ0 σ C R) (ho : OpCOk σ0 o) (hk : o.kind.tmod 10 = 6)
    (q1 : ACalls Tryz.prog 22 #[.pointer (some ⟨C.g, 0, none⟩), .int .i64 o.t, .string o.key] σ (CDo σ C G (.tuple #[.agg #[.bool x, .string d], .agg m.cells.toArray, .int .i64 e])))
    (q2 : ∀ σ1 C', Pair σ0 σ1 C' R → G C' → ACalls Tryz.prog 23 #[.pointer (some ⟨R.g, 0, none⟩), .int .i64 o.t, .string o.key] σ1 (RDo σ1 C' R n (.tuple #[.agg #[.bool x, .string d], .agg m.cells.toArray, .int .i64 e]))) :
    ACalls Tryz.prog 8 #[.pointer (some ⟨C.g, 0, none⟩), .pointer (some ⟨R.g, 0, none⟩), .agg o.cells.toArray] σ (StepTo σ0 C R n) := by
  obtain ⟨m1, m2, m3, m4, m5, m6, m7, m8, m9, m10, m11, m12, m13, m14, mw, mk⟩ := m
  simp only at hm1 hm2
  subst hm1 hm2
  have HP := Hid.mk P
  have HQ := Hid.mk (And.intro q1 q2)
  clear P q1 q2
  have ho1 := ho.mw
  have ho2 := ho.mks
  have ho3 := ho.w1
  obtain ⟨kd, sn, tn, key, wv, mm⟩ := o
  simp only at hk ho1 ho2 ho3
  (refine acalls_F ok8 (by simp) ?_; unfold c8 r8)
  (repeat' (first | (simp +contextual -dsimp only [*, CliC, Msg.cells, noMsg, OpC.cells, ↓reduceIte, ↓evP, evQ, splice, Nat.reduceAdd, Nat.reduceEqDiff, Nat.reduceLeDiff, Nat.reduceMul, reduceCtorEq, Int.reduceLT, Int.reduceLE, Int.reduceGT, Int.reduceGE, Int.reduceEq, Int.reduceNeg]) | (refine condF_split (fun hc => ?_) (fun hc => ?_) <;> (try simp only [Bool.not_eq_true', Bool.not_eq_false', Bool.and_eq_true, Bool.or_eq_false_iff] at hc)) | (intro _; intros) | (refine And.intro ?_ ?_; focus (first | omega | ((repeat (first | exact Sub.refl _ | (refine Sub.drop ?_ ?_; focus (simp only [evN, *]; done)) | refine Sub.both ?_)); done) | (simp_all; done) | (simp_all; omega)))))
  refine callF_of (ACalls.beside ?_ HQ.out.1) ?_
  · (simp only [evN, *]; done)
  rintro u _ ⟨σ1, ⟨C', hG, hg, mv, rfl⟩, n1, rfl⟩
  have H1 := Hid.mk (HP.out.cmove mv)
  have HG := Hid.mk (And.intro hG hg)
  clear hG hg mv
  (repeat' (first | (simp +contextual -dsimp only [*, CliC, Msg.cells, noMsg, OpC.cells, ↓reduceIte, ↓evP, evQ, splice, Nat.reduceAdd, Nat.reduceEqDiff, Nat.reduceLeDiff, Nat.reduceMul, reduceCtorEq, Int.reduceLT, Int.reduceLE, Int.reduceGT, Int.reduceGE, Int.reduceEq, Int.reduceNeg]) | (refine condF_split (fun hc => ?_) (fun hc => ?_) <;> (try simp only [Bool.not_eq_true', Bool.not_eq_false', Bool.and_eq_true, Bool.or_eq_false_iff] at hc)) | (intro _; intros) | (refine And.intro ?_ ?_; focus (first | omega | ((repeat (first | exact Sub.refl _ | (refine Sub.drop ?_ ?_; focus (simp only [evN, *]; done)) | refine Sub.both ?_)); done) | (simp_all; done) | (simp_all; omega)))))
  rename_i b b0 d d1 d1' d0 e e1 e1' e2 e2' e0
  refine callF_of (ACalls.beside ?_ (ACalls.beside ?_ (ACalls.beside ?_ (HQ.out.2 σ1 C' H1.out HG.out.1)))) ?_
  · (simp only [evN, *]; done)
  · (simp only [evN, *]; done)
  · (simp only [evN, *]; done)
  rintro u _ ⟨_, ⟨_, ⟨σ2, ⟨R', hg2, mv2, hA, rfl⟩, n2, rfl⟩, n3, rfl⟩, n4, rfl⟩
  have H2 := Hid.mk (H1.out.rmove mv2)
  have HR := Hid.mk (And.intro hg2 hA)
  clear hg2 mv2 hA
  simp only [none_upd] at n3
  simp only [none_upd] at n4
  (repeat' (first | (simp +contextual -dsimp only [*, CliC, Msg.cells, noMsg, OpC.cells, ↓reduceIte, ↓evP, evQ, splice, Nat.reduceAdd, Nat.reduceEqDiff, Nat.reduceLeDiff, Nat.reduceMul, reduceCtorEq, Int.reduceLT, Int.reduceLE, Int.reduceGT, Int.reduceGE, Int.reduceEq, Int.reduceNeg]) | (refine condF_split (fun hc => ?_) (fun hc => ?_) <;> (try simp only [Bool.not_eq_true', Bool.not_eq_false', Bool.and_eq_true, Bool.or_eq_false_iff] at hc)) | (intro _; intros) | (refine And.intro ?_ ?_; focus (first | omega | ((repeat (first | exact Sub.refl _ | (refine Sub.drop ?_ ?_; focus (simp only [evN, *]; done)) | refine Sub.both ?_)); done) | (simp_all; done) | (simp_all; omega)))))
  refine callF_v (sameWr ⟨m1, m2, m3, m4, m5, m6, m7, m8, m9, m10, m11, m12, m13, m14, .slice none 0 0, .slice none 0 0⟩ (nil_ro' _) (nil_ro' _) (by decide)) ?_
  (repeat' (first | (simp +contextual -dsimp only [*, CliC, Msg.cells, noMsg, OpC.cells, ↓reduceIte, ↓evP, evQ, splice, Nat.reduceAdd, Nat.reduceEqDiff, Nat.reduceLeDiff, Nat.reduceMul, reduceCtorEq, Int.reduceLT, Int.reduceLE, Int.reduceGT, Int.reduceGE, Int.reduceEq, Int.reduceNeg]) | (refine condF_split (fun hc => ?_) (fun hc => ?_) <;> (try simp only [Bool.not_eq_true', Bool.not_eq_false', Bool.and_eq_true, Bool.or_eq_false_iff] at hc)) | (intro _; intros) | (refine And.intro ?_ ?_; focus (first | omega | ((repeat (first | exact Sub.refl _ | (refine Sub.drop ?_ ?_; focus (simp only [evN, *]; done)) | refine Sub.both ?_)); done) | (simp_all; done) | (simp_all; omega)))))
  refine endF_sub (τ := σ2) (by (repeat (first | exact Sub.refl _ | (refine Sub.drop ?_ ?_; focus (simp only [evN, *]; done)) | refine Sub.both ?_)); done) ⟨?_, C', R', HG.out.2, HR.out.1, H2.out, HR.out.2⟩
  simp
theorem step8s_0 {σ0 σ : Hp} {C : CL} {R : RL} {n : Nat} {o : OpC} (ho : OpCOk σ0 o) (hk : o.kind.tmod 10 ≠ 6 ∧ o.kind.tmod 10 ≠ 7 ∧ o.kind.tmod 10 ≠ 8 ∧ o.kind.tmod 10 ≠ 9)
    (q : ACalls Tryz.prog 29 #[.pointer (some ⟨C.g, 0, none⟩), .pointer (some ⟨R.g, 0, none⟩), .agg o.cells.toArray] σ (StepTo σ0 C R n)) :
    ACalls Tryz.prog 8 #[.pointer (some ⟨C.g, 0, none⟩), .pointer (some ⟨R.g, 0, none⟩), .agg o.cells.toArray] σ (StepTo σ0 C R n) := by
  have HQ := Hid.mk q
  clear q
  have ho1 := ho.mw
  have ho2 := ho.mks
  have ho3 := ho.w1
  obtain ⟨kd, sn, tn, key, wv, mm⟩ := o
  simp only at hk ho1 ho2 ho3
  have k6 : decide (kd.tmod 10 = 6) = false := by simp; exact hk.1
  have k7 : decide (kd.tmod 10 = 7) = false := by simp; exact hk.2.1
  have k8 : decide (kd.tmod 10 = 8) = false := by simp; exact hk.2.2.1
  have k9 : decide (kd.tmod 10 = 9) = false := by simp; exact hk.2.2.2
  clear hk
  (refine acalls_F ok8 (by simp) ?_; unfold c8 r8)
  (repeat' (first | (simp +contextual -dsimp only [*, CliC, Msg.cells, noMsg, OpC.cells, ↓reduceIte, ↓evP, evQ, splice, Nat.reduceAdd, Nat.reduceEqDiff, Nat.reduceLeDiff, Nat.reduceMul, reduceCtorEq, Int.reduceLT, Int.reduceLE, Int.reduceGT, Int.reduceGE, Int.reduceEq, Int.reduceNeg]) | (refine condF_split (fun hc => ?_) (fun hc => ?_) <;> (try simp only [Bool.not_eq_true', Bool.not_eq_false', Bool.and_eq_true, Bool.or_eq_false_iff] at hc)) | (intro _; intros) | (refine And.intro ?_ ?_; focus (first | omega | ((repeat (first | exact Sub.refl _ | (refine Sub.drop ?_ ?_; focus (simp only [evN, *]; done)) | refine Sub.both ?_)); done) | (simp_all; done) | (simp_all; omega)))))
  refine callF_of (ACalls.beside ?_ HQ.out) ?_
  · (simp only [evN, *]; done)
  rintro u _ ⟨σ1, ⟨rfl, hx⟩, n1, rfl⟩
  have HX := Hid.mk hx
  clear hx
  simp +contextual -dsimp only [*, CliC, Msg.cells, noMsg, OpC.cells, ↓reduceIte, ↓evP, evQ, splice, Nat.reduceAdd, Nat.reduceEqDiff, Nat.reduceLeDiff, Nat.reduceMul, reduceCtorEq, Int.reduceLT, Int.reduceLE, Int.reduceGT, Int.reduceGE, Int.reduceEq, Int.reduceNeg]
  exact endF_sub (τ := σ1) (by (repeat (first | exact Sub.refl _ | (refine Sub.drop ?_ ?_; focus (simp only [evN, *]; done)) | refine Sub.both ?_)); done) ⟨rfl, HX.out⟩
theorem both_get {C : CL} {R : RL} {n i : Nat} (A : Alike C R n) (hi : i < C.ss.length) : ∃ s r, C.ss[i]? = some s ∧ R.ss[i]? = some r ∧ r.S = s.S ∧ (s.S.busy = true → r.ws = s.ws) ∧ SesOk s.S n ∧ s.ws.length ≤ 8 := by
  have h1 : C.ss[i]? = some C.ss[i] := List.getElem?_eq_getElem hi
  have h2 : R.ss[i]? = some (R.ss[i]'(by rw [A.nS]; exact hi)) := List.getElem?_eq_getElem _
  exact ⟨_, _, h1, h2, A.ses i _ _ h1 h2⟩
theorem both_tx {C : CL} {R : RL} {n i : Nat} (A : Alike C R n) (hi : i < C.ts.length) : ∃ t q, C.ts[i]? = some t ∧ R.ts[i]? = some q ∧ q.T = t.T ∧ q.k = t.k ∧ Inv t.T n := by
  have h1 : C.ts[i]? = some C.ts[i] := List.getElem?_eq_getElem hi
  have h2 : R.ts[i]? = some (R.ts[i]'(by rw [A.nT]; exact hi)) := List.getElem?_eq_getElem _
  exact ⟨_, _, h1, h2, A.tx i _ _ h1 h2⟩
theorem check_len' {ws : List Wr} (h : checkV ws = 0) : ws.length ≤ 8 := by
  rcases Nat.lt_or_ge 8 ws.length with hh | hh
  · rw [checkV_len (.inr hh)] at h; cases h
  · exact hh
theorem nS_out {σ : Hp} {C : CL} {R : RL} {n : Nat} (h : RefAt σ R) (A : Alike C R n) : ∃ A' c A2 c2 vh, σ R.g = some (.cells (CliC R.c (.slice A' C.ss.length c) (.slice A2 C.ts.length c2) vh) 71) := by
  have := rout h
  rw [A.nS, A.nT] at this; exact this
theorem step_1 {σ0 σ : Hp} {C : CL} {R : RL} {n : Nat} {o : OpC} (P : Pair σ0 σ C R) (A : Alike C R n) (ho : OpCOk σ0 o) (hn : n < 2147483647) (hk : o.kind.tmod 10 = 1) :
    ACalls Tryz.prog 29 #[.pointer (some ⟨C.g, 0, none⟩), .pointer (some ⟨R.g, 0, none⟩), .agg o.cells.toArray] σ (StepTo σ0 C R n) := by
  rcases in_or o.s C.ss.length with ⟨h1, h2⟩ | ⟨i, hi, hlt⟩
  · refine step29_1 P ho hk (by decide) (CDid.no P.c (commit39x (noS P.c h1))) ?_
    rintro σ1 _ P1 rfl
    obtain ⟨a, c, a2, c2, vh, hg⟩ := nS_out P1.r A
    exact RDid.no P1.r A (commit64x hg h2)
  obtain ⟨s, r, hs, hr, e1, e2, e3, e4⟩ := both_get A hlt
  obtain ⟨os, hv, hl⟩ := ho.ws
  cases hb : s.S.busy with
  | true =>
    refine step29_1 P ho hk (by decide) (CDid.no P.c (by rw [hi]; exact commitCx P.c hs (send15a (P.c.ses i s hs).1 hb))) ?_
    rintro σ1 _ P1 rfl
    rw [hi]
    exact RDid.no P1.r A (rcommitB P1.r hr (by rw [e1]; exact hb))
  | false =>
    by_cases he : checkV os = 0
    · have q := commitC P.cli hs hv hl hb he (seq_ok e3 hn)
      have ok8 := check_len' he
      refine step29_1 (G := fun C' => ∃ v1, C' = C.ses i s s.S.sent v1 os) (m := { kind := 1, session := s.S.id, seq := s.S.sent.seq }) (ws := os) (e := 0) P ho hk (by omega) (by
        rw [hi]
        exact q.mono fun u σ' ⟨v1, v2, h1, h2, h3, h4, _⟩ => ⟨_, v2, ⟨v1, rfl⟩, rfl, h2, h1, h3, h4⟩) ?_
      rintro σ1 _ P1 ⟨v1, rfl⟩
      rw [hi]
      have q2 := rcommit0 P1.ref hr hv hl (by rw [e1]; exact hb) he
      rw [e1] at q2
      exact q2.mono fun u σ' ⟨w1, w2, h1, h2, h3, h4⟩ => ⟨R.ses i s.S.sent w1 os, w2, rfl, h2, A.ses_ (e3.sent (by omega)) (fun _ => rfl) ok8, h1, h3, h4⟩
    · have he' : decide (checkV os = 0) = false := by simp [he]
      refine step29_1 P ho hk (by decide) (CDid.no P.c (by rw [hi]; exact commitCx P.c hs (send15b (P.c.ses i s hs).1 (hv.sub P.sub) hl hb he'))) ?_
      rintro σ1 _ P1 rfl
      rw [hi]
      exact RDid.no P1.r A (rcommitE P1.r hr (hv.sub P1.sub) (by omega) (by rw [e1]; exact hb) he')
theorem step_2 {σ0 σ : Hp} {C : CL} {R : RL} {n : Nat} {o : OpC} (P : Pair σ0 σ C R) (A : Alike C R n) (ho : OpCOk σ0 o) (hn : n < 2147483647) (hk : o.kind.tmod 10 = 2) :
    ACalls Tryz.prog 29 #[.pointer (some ⟨C.g, 0, none⟩), .pointer (some ⟨R.g, 0, none⟩), .agg o.cells.toArray] σ (StepTo σ0 C R n) := by
  rcases in_or o.s C.ss.length with ⟨h1, h2⟩ | ⟨i, hi, hlt⟩
  · refine step29_2 P ho hk (by decide) (CDid.no P.c (again40x (noS P.c h1) (rtC P.c))) ?_
    rintro σ1 _ P1 rfl
    obtain ⟨a, c, a2, c2, vh, hg⟩ := nS_out P1.r A
    exact RDid.no P1.r A (again66x hg h2)
  obtain ⟨s, r, hs, hr, e1, e2, e3, e4⟩ := both_get A hlt
  cases hb : s.S.busy with
  | false =>
    refine step29_2 P ho hk (by decide) (CDid.no P.c (by rw [hi]; exact againC3 P.c hs hb)) ?_
    rintro σ1 _ P1 rfl
    rw [hi]
    exact RDid.no P1.r A (ragain3 P1.r hr (by rw [e1]; exact hb))
  | true =>
    cases ht : decide (s.S.tries ≥ C.c.retries) with
    | true =>
      refine step29_2 (G := fun C' => C' = C.ses i s (s.S.ended 41) (.slice none 0 0) []) (m := {}) (ws := []) (e := 41) P ho hk (by decide) (by
        rw [hi]
        exact (againC41 P.c hs hb ht).mono fun u σ' ⟨h1, h2⟩ => ⟨_, .slice none 0 0, rfl, rfl, h2, h1, .inl ⟨rfl, rfl⟩, fun k hk => by cases hk⟩) ?_
      rintro σ1 _ P1 rfl
      rw [hi]
      exact (ragain41 P1.r hr (by rw [e1]; exact hb) (by rw [e1, A.cfg]; exact ht)).mono fun u σ' ⟨h1, h2⟩ => ⟨R.ses i (r.S.ended 41) r.v r.ws, .slice none 0 0, rfl, h2, by rw [e1]; exact A.ses_ (e3.ended 41) (fun h => by cases h) (Nat.zero_le _), h1, .inl ⟨rfl, rfl⟩, fun k hk => by cases hk⟩
    | false =>
      refine step29_2 (G := fun C' => C' = C.ses i s s.S.tried s.v s.ws) (m := { kind := 1, session := s.S.id, seq := s.S.seq }) (ws := s.ws) (e := 0) P ho hk (by omega) (by
        rw [hi]
        exact (againC0 P.c hs (by omega) hb ht).mono fun u σ' ⟨v', h1, h2, h3, h4⟩ => ⟨_, v', rfl, rfl, h2, h1, h3, h4⟩) ?_
      rintro σ1 _ P1 rfl
      rw [hi]
      have q2 := ragain0 P1.r hr (by rw [e2 hb]; omega) (by rw [e1]; exact hb) (by rw [e1, A.cfg]; exact ht)
      rw [e1, e2 hb] at q2
      exact q2.mono fun u σ' ⟨w2, h1, h2, h3, h4⟩ => ⟨R.ses i s.S.tried r.v s.ws, w2, rfl, h2, A.ses_ (e3.tried (by omega)) (fun _ => rfl) e4, h1, h3, h4⟩
theorem step_3 {σ0 σ : Hp} {C : CL} {R : RL} {n : Nat} {o : OpC} (hG : Glob σ0) (P : Pair σ0 σ C R) (A : Alike C R n) (ho : OpCOk σ0 o) (hk : o.kind.tmod 10 = 3) :
    ACalls Tryz.prog 29 #[.pointer (some ⟨C.g, 0, none⟩), .pointer (some ⟨R.g, 0, none⟩), .agg o.cells.toArray] σ (StepTo σ0 C R n) := by
  rcases in_or o.s C.ss.length with ⟨h1, h2⟩ | ⟨i, hi, hlt⟩
  · refine step29s_3 P ho hk (CDo.no P.c (token41x (noS P.c h1))) ?_
    rintro σ1 _ P1 rfl
    obtain ⟨a, c, a2, c2, vh, hg⟩ := nS_out P1.r A
    exact RDo.no P1.r A (token67x hg h2)
  obtain ⟨s, r, hs, hr, e1, e2, e3, e4⟩ := both_get A hlt
  refine step29s_3 P ho hk (CDo.no P.c (by rw [hi]; exact tokenC (hG.sub P.sub) P.c hs)) ?_
  rintro σ1 _ P1 rfl
  rw [hi]
  have q := rtoken P1.r hr
  rw [e1] at q
  exact RDo.no P1.r A q
theorem step_4 {σ0 σ : Hp} {C : CL} {R : RL} {n : Nat} {o : OpC} (hG : Glob σ0) (P : Pair σ0 σ C R) (A : Alike C R n) (ho : OpCOk σ0 o) (hk : o.kind.tmod 10 = 4) :
    ACalls Tryz.prog 29 #[.pointer (some ⟨C.g, 0, none⟩), .pointer (some ⟨R.g, 0, none⟩), .agg o.cells.toArray] σ (StepTo σ0 C R n) := by
  rcases in_or o.s C.ss.length with ⟨h1, h2⟩ | ⟨i, hi, hlt⟩
  · refine step29s_4 P ho hk (CDo.no P.c (join43x (noS P.c h1) _)) ?_
    rintro σ1 _ P1 rfl
    obtain ⟨a, c, a2, c2, vh, hg⟩ := nS_out P1.r A
    exact RDo.no P1.r A (join68x hg h2)
  obtain ⟨s, r, hs, hr, e1, e2, e3, e4⟩ := both_get A hlt
  have hsz : o.key.size ≤ 281474976710656 := Nat.le_trans ho.key (by decide)
  refine step29s_4 (G := fun C' => C' = C.ses i s (s.S.joined o.key) s.v s.ws) P ho hk (by
    rw [hi]
    exact (joinC (hG.sub P.sub) P.c hs o.key hsz).mono fun u σ' ⟨h1, h2⟩ => ⟨_, rfl, rfl, h2, h1⟩) ?_
  rintro σ1 _ P1 rfl
  rw [hi]
  have q := rjoin P1.r hr o.key hsz
  rw [e1] at q
  exact q.mono fun u σ' ⟨h1, h2⟩ => ⟨R.ses i (s.S.joined o.key) r.v r.ws, rfl, h2, A.ses_ (e3.joined _) (fun h => e2 (by rw [← (joined_f s.S o.key).2.2]; exact h)) e4, h1⟩
theorem step_5 {σ0 σ : Hp} {C : CL} {R : RL} {n : Nat} {o : OpC} (P : Pair σ0 σ C R) (A : Alike C R n) (ho : OpCOk σ0 o) (hk : o.kind.tmod 10 = 5) :
    ACalls Tryz.prog 29 #[.pointer (some ⟨C.g, 0, none⟩), .pointer (some ⟨R.g, 0, none⟩), .agg o.cells.toArray] σ (StepTo σ0 C R n) := by
  have hk' : decide (o.kind.tmod 10 = 0) = false ∧ decide (o.kind.tmod 10 = 1) = false ∧ decide (o.kind.tmod 10 = 2) = false ∧ decide (o.kind.tmod 10 = 3) = false ∧ decide (o.kind.tmod 10 = 4) = false := by rw [hk]; decide
  rcases in_or o.s C.ss.length with ⟨h1, h2⟩ | ⟨i, hi, hlt⟩
  · refine step29s_5 P ho hk' (CDo.no P.c (begin32x (noS P.c h1))) ?_
    rintro σ1 _ P1 rfl
    obtain ⟨a, c, a2, c2, vh, hg⟩ := nS_out P1.r A
    exact RDo.no P1.r A (rbegin69x hg h2)
  obtain ⟨s, r, hs, hr, e1, e2, e3, e4⟩ := both_get A hlt
  by_cases hn : C.ts.length < 256
  · refine step29s_5 (G := fun C' => ∃ k vt vh, C' = C.begins k vt vh i s) P ho hk' (by
      rw [hi]
      exact (beginC P.c hs hn).mono fun u σ' ⟨h1, k, vt, vh, h2⟩ => ⟨_, ⟨k, vt, vh, rfl⟩, rfl, h2, h1⟩) ?_
    rintro σ1 _ P1 ⟨k, vt, vh, rfl⟩
    rw [hi]
    have q := rbeginR P1.r hr (by rw [A.nT]; exact hn)
    rw [e1, A.nT] at q
    exact q.mono fun u σ' ⟨h1, vt', vh', h2⟩ => ⟨R.begins vt' vh' i s.S.floor, rfl, h2, A.begins_ hn, h1⟩
  · refine step29s_5 P ho hk' (CDo.no P.c (by rw [hi]; exact beginF P.c hs (by omega))) ?_
    rintro σ1 _ P1 rfl
    rw [hi]
    exact RDo.no P1.r A (rbeginF P1.r hr (by have := A.nT; have := A.nT256; omega))
theorem step_6 {σ0 σ : Hp} {C : CL} {R : RL} {n : Nat} {o : OpC} (P : Pair σ0 σ C R) (A : Alike C R n) (ho : OpCOk σ0 o) (hn : n ≤ 1048576) (hk : o.kind.tmod 10 = 6) :
    ACalls Tryz.prog 8 #[.pointer (some ⟨C.g, 0, none⟩), .pointer (some ⟨R.g, 0, none⟩), .agg o.cells.toArray] σ (StepTo σ0 C R n) := by
  rcases in_or o.t C.ts.length with ⟨h1, h2⟩ | ⟨i, hi, hlt⟩
  · refine step8s_6 (m := {}) rfl rfl P ho hk (CDo.no P.c (read34x (noT P.c h1) _)) ?_
    rintro σ1 _ P1 rfl
    obtain ⟨a, c, a2, c2, vh, hg⟩ := nS_out P1.r A
    exact RDo.no P1.r A (read23x hg h2)
  obtain ⟨t, q, ht, hq, e1, e2, e3⟩ := both_tx A hlt
  have hr := e3.reads
  have k1 := readC P.c ht o.key ho.key (by omega)
  have nl := nil_read t.T o.key
  have iv := (e3.read o.key ho.key).up
  have k2 := fun σ1 C' (P1 : Pair σ0 σ1 C' R) => rread P1.r hq o.key ho.key (by rw [e1]; omega) (by rw [e1]; exact e3.st)
  rw [e1] at k2
  generalize t.T.read o.key = x at k1 k2 nl iv
  obtain ⟨T', ⟨x, d⟩, mm, e⟩ := x
  refine step8s_6 (G := fun C' => C' = C.tx i t T' t.v) (m := mm) nl.1 nl.2 P ho hk (by
    rw [hi]
    exact k1.mono fun u σ' ⟨h1, h2⟩ => ⟨_, rfl, rfl, h2, h1⟩) ?_
  rintro σ1 _ P1 rfl
  rw [hi]
  exact (k2 σ1 _ P1).mono fun u σ' ⟨h1, h2⟩ => ⟨R.tx i q T' q.v, rfl, h2, A.tx_ e2 iv, h1⟩
theorem step_7 {σ0 σ : Hp} {C : CL} {R : RL} {n : Nat} {o : OpC} (P : Pair σ0 σ C R) (A : Alike C R n) (ho : OpCOk σ0 o) (hk : o.kind.tmod 10 = 7) :
    ACalls Tryz.prog 8 #[.pointer (some ⟨C.g, 0, none⟩), .pointer (some ⟨R.g, 0, none⟩), .agg o.cells.toArray] σ (StepTo σ0 C R n) := by
  rcases in_or o.t C.ts.length with ⟨h1, h2⟩ | ⟨i, hi, hlt⟩
  · refine step8_7 P ho hk (by decide) (CDid.no P.c (retry42x (noT P.c h1) (rtC P.c))) ?_
    rintro σ1 _ P1 rfl
    obtain ⟨a, c, a2, c2, vh, hg⟩ := nS_out P1.r A
    exact RDid.no P1.r A (retry26x hg h2)
  obtain ⟨t, q, ht, hq, e1, e2, e3⟩ := both_tx A hlt
  have k1 := retryC P.c ht e3.key
  have nl := nil_again t.T C.c.retries
  have iv := (e3.again C.c.retries).up
  have k2 := fun σ1 C' (P1 : Pair σ0 σ1 C' R) => rretry P1.r hq (by rw [e1]; exact e3.key)
  rw [e1, A.cfg] at k2
  generalize t.T.again C.c.retries = x at k1 k2 nl iv
  obtain ⟨T', mm, e⟩ := x
  obtain ⟨m1, m2, m3, m4, m5, m6, m7, m8, m9, m10, m11, m12, m13, m14, mw, mk⟩ := mm
  obtain ⟨rfl, rfl⟩ : mw = .slice none 0 0 ∧ mk = .slice none 0 0 := nl
  refine step8_7 (G := fun C' => C' = C.tx i t T' t.v) (m := ⟨m1, m2, m3, m4, m5, m6, m7, m8, m9, m10, m11, m12, m13, m14, .slice none 0 0, .slice none 0 0⟩) (ws := []) (e := e) P ho hk (by decide) (by
    rw [hi]
    exact k1.mono fun u σ' ⟨h1, h2⟩ => ⟨_, .slice none 0 0, rfl, rfl, h2, h1, .inl ⟨rfl, rfl⟩, fun k hk => by cases hk⟩) ?_
  rintro σ1 _ P1 rfl
  rw [hi]
  exact (k2 σ1 _ P1).mono fun u σ' ⟨h1, h2⟩ => ⟨R.tx i q T' q.v, .slice none 0 0, rfl, h2, A.tx_ e2 iv, h1, .inl ⟨rfl, rfl⟩, fun k hk => by cases hk⟩
theorem step_8 {σ0 σ : Hp} {C : CL} {R : RL} {n : Nat} {o : OpC} (P : Pair σ0 σ C R) (A : Alike C R n) (ho : OpCOk σ0 o) (hk : o.kind.tmod 10 = 8) :
    ACalls Tryz.prog 8 #[.pointer (some ⟨C.g, 0, none⟩), .pointer (some ⟨R.g, 0, none⟩), .agg o.cells.toArray] σ (StepTo σ0 C R n) := by
  rcases in_or o.t C.ts.length with ⟨h1, h2⟩ | ⟨i, hi, hlt⟩
  · refine step8s_8 P ho hk (CDo.no P.c (finish36x (noT P.c h1))) ?_
    rintro σ1 _ P1 rfl
    obtain ⟨a, c, a2, c2, vh, hg⟩ := nS_out P1.r A
    exact RDo.no P1.r A (finish27x hg h2)
  obtain ⟨t, q, ht, hq, e1, e2, e3⟩ := both_tx A hlt
  obtain ⟨s, hs, hsg⟩ := P.c.home i t ht
  obtain ⟨s', r, hs', hr, _⟩ := both_get A (List.getElem?_eq_some_iff.1 hs).1
  obtain rfl : s' = s := Option.some.inj (hs'.symm.trans hs)
  have hr' : R.ss[q.k]? = some r := by rw [e2]; exact hr
  refine step8s_8 (G := fun C' => C' = C.fin i t s') P ho hk (by
    rw [hi]
    exact (finishC P.c ht hs hsg).mono fun u σ' ⟨h1, h2⟩ => ⟨_, rfl, (by unfold CL.fin; cases decide (t.T.finish.2.2 = 0) <;> rfl), h2, h1⟩) ?_
  rintro σ1 _ P1 rfl
  rw [hi]
  have k2 := rfinish P1.r hq hr'
  exact k2.mono fun u σ' ⟨h1, h2⟩ => ⟨R.fin i q r, (by unfold RL.fin; cases decide (q.T.finish.2.2 = 0) <;> rfl), h2, A.fin_ ht hq hs hr', by rw [h1, e1]⟩
theorem step_9 {σ0 σ : Hp} {C : CL} {R : RL} {n : Nat} {o : OpC} (P : Pair σ0 σ C R) (A : Alike C R n) (ho : OpCOk σ0 o) (hn : n ≤ 1048576) (hk : o.kind.tmod 10 = 9) :
    ACalls Tryz.prog 8 #[.pointer (some ⟨C.g, 0, none⟩), .pointer (some ⟨R.g, 0, none⟩), .agg o.cells.toArray] σ (StepTo σ0 C R n) := by
  by_cases hm : o.msg.kind = 2
  · rcases in_or o.msg.session C.ss.length with ⟨h1, h2⟩ | ⟨i, hi, hlt⟩
    · refine step8s_9 (m := {}) (e := false) rfl rfl P ho hk (CDo.no P.c (hear35ax hm (noS P.c h1))) ?_
      rintro σ1 _ P1 rfl
      obtain ⟨a, c, a2, c2, vh, hg⟩ := nS_out P1.r A
      exact RDo.no P1.r A (hear28ax hg h2 hm)
    obtain ⟨s, r, hs, hr, e1, e2, e3, e4⟩ := both_get A hlt
    refine step8s_9 (G := fun C' => C' = cond (s.S.hears o.msg) (C.ses i s (s.S.acked o.msg) (.slice none 0 0) []) C) (m := {}) (e := s.S.hears o.msg) rfl rfl P ho hk ((ackC P.c hs hm hi).mono fun u σ' ⟨h1, h2⟩ => ⟨_, rfl, (by cases s.S.hears o.msg <;> rfl), h2, h1⟩) ?_
    rintro σ1 _ P1 rfl
    have q := rack P1.r hr hm hi
    rw [e1] at q
    refine q.mono fun u σ' ⟨h1, h2⟩ => ⟨cond (s.S.hears o.msg) (R.ses i (s.S.acked o.msg) r.v r.ws) R, (by cases s.S.hears o.msg <;> rfl), h2, ?_, h1⟩
    cases s.S.hears o.msg
    · exact A.up
    · exact A.ses_ (e3.acked _) (fun h => by rw [(acked_f s.S o.msg).2.2] at h; cases h) (Nat.zero_le _)
  · rcases in_or o.msg.tx C.ts.length with ⟨h1, h2⟩ | ⟨i, hi, hlt⟩
    · refine step8s_9 (m := {}) (e := false) rfl rfl P ho hk (CDo.no P.c (hear35tx hm (noT P.c h1))) ?_
      rintro σ1 _ P1 rfl
      obtain ⟨a, c, a2, c2, vh, hg⟩ := nS_out P1.r A
      exact RDo.no P1.r A (hear28tx hg h2 hm)
    obtain ⟨t, q, ht, hq, e1, e2, e3⟩ := both_tx A hlt
    have hr := e3.reads
    have k1 := hearC P.c ht hm hi e3.key (by omega)
    have nl := nil_hear t.T o.msg
    have iv := e3.hear o.msg
    have k2 := fun σ1 C' (P1 : Pair σ0 σ1 C' R) => rhear P1.r hq hm hi (by rw [e1]; exact e3.key) (by rw [e1]; omega)
    rw [e1] at k2
    generalize t.T.hear o.msg = x at k1 k2 nl iv
    obtain ⟨T', mm, e⟩ := x
    refine step8s_9 (G := fun C' => ∃ v', C' = C.tx i t T' v') (m := mm) (e := e) nl.1 nl.2 P ho hk (k1.mono fun u σ' ⟨h1, v', h2⟩ => ⟨_, ⟨v', rfl⟩, rfl, h2, h1⟩) ?_
    rintro σ1 _ P1 ⟨v', rfl⟩
    exact (k2 σ1 _ P1).mono fun u σ' ⟨h1, v2, h2⟩ => ⟨R.tx i q T' v2, rfl, h2, A.tx_ e2 iv, h1⟩
theorem step8 {σ0 σ : Hp} {C : CL} {R : RL} {n : Nat} {o : OpC} (hG : Glob σ0) (P : Pair σ0 σ C R) (A : Alike C R n) (ho : OpCOk σ0 o) (hr : 0 ≤ o.kind) (hn : n ≤ 1048576) :
    ACalls Tryz.prog 8 #[.pointer (some ⟨C.g, 0, none⟩), .pointer (some ⟨R.g, 0, none⟩), .agg o.cells.toArray] σ (StepTo σ0 C R n) := by
  have h10 : 0 ≤ o.kind.tmod 10 ∧ o.kind.tmod 10 < 10 := by rw [Int.tmod_eq_emod_of_nonneg hr]; omega
  have n1 : n < 2147483647 := by omega
  rcases (by omega : o.kind.tmod 10 = 0 ∨ o.kind.tmod 10 = 1 ∨ o.kind.tmod 10 = 2 ∨ o.kind.tmod 10 = 3 ∨ o.kind.tmod 10 = 4 ∨ o.kind.tmod 10 = 5 ∨ o.kind.tmod 10 = 6 ∨ o.kind.tmod 10 = 7 ∨ o.kind.tmod 10 = 8 ∨ o.kind.tmod 10 = 9) with h | h | h | h | h | h | h | h | h | h
  · exact step8s_0 ho (by rw [h]; decide) (step29_0 P A ho h)
  · exact step8s_0 ho (by rw [h]; decide) (step_1 P A ho n1 h)
  · exact step8s_0 ho (by rw [h]; decide) (step_2 P A ho n1 h)
  · exact step8s_0 ho (by rw [h]; decide) (step_3 hG P A ho h)
  · exact step8s_0 ho (by rw [h]; decide) (step_4 hG P A ho h)
  · exact step8s_0 ho (by rw [h]; decide) (step_5 P A ho h)
  · exact step_6 P A ho hn h
  · exact step_7 P A ho h
  · exact step_8 P A ho h
  · exact step_9 P A ho hn h
theorem seen9g {σ : Hp} {c r : Value} {s t : Int} {S : SesS} {T : TxS} {b1 b2 : Bool} {v2 : Value} (hn : T.reads.length ≤ 140737488351232)
    (qa : ACalls Tryz.prog 30 #[c, .int .i64 s] σ fun u σ' => u = .tuple #[.agg S.view.toArray, .bool b1] ∧ σ' = σ)
    (qb : ∀ σ1, Sub σ σ1 → ACalls Tryz.prog 31 #[r, .int .i64 s] σ1 fun u σ' => u = .tuple #[.agg S.view.toArray, .bool b1] ∧ σ' = σ1)
    (qx : ∀ σ1, Sub σ σ1 → ACalls Tryz.prog 32 #[c, .int .i64 t] σ1 fun u σ' => ∃ v', u = .tuple #[.agg (T.view v').toArray, .bool b2] ∧ RowsAt 128 3 Got.cells σ' v' T.reads ∧ Made σ1 σ' v')
    (qy : ∀ σ1, Sub σ σ1 → ACalls Tryz.prog 33 #[r, .int .i64 t] σ1 fun u σ' => u = .tuple #[.agg (T.view v2).toArray, .bool b2] ∧ σ' = σ1) (hv : RowsAt 128 3 Got.cells σ v2 T.reads) :
    ACalls Tryz.prog 9 #[c, r, .int .i64 s, .int .i64 t] σ fun u σ' => u = .bool true ∧ σ' = σ := by
  have HQ := Hid.mk (And.intro qa (And.intro qb (And.intro qx (And.intro qy hv))))
  have h18 := Hid.mk (fun (σ' : Hp) (v : Value) (h1 : RowsAt 128 3 Got.cells σ' v T.reads) (h2 : RowsAt 128 3 Got.cells σ' v2 T.reads) => same18w h1 h2 hn)
  obtain ⟨x2, y2, hv2⟩ := hv.slice
  subst hv2
  clear qa qb qx qy hv
  unfold SesS.view TxS.view at *
  (refine acalls_F ok9 (by simp) ?_; unfold c9 r9)
  (repeat' (first | (simp +contextual -dsimp only [*, SesS.view, TxS.view, ↓reduceIte, ↓evP, evQ, splice, Nat.reduceAdd, Nat.reduceEqDiff, Nat.reduceLeDiff, Nat.reduceMul, reduceCtorEq, Int.reduceLT, Int.reduceLE, Int.reduceGT, Int.reduceGE, Int.reduceEq, Int.reduceNeg]) | (refine condF_split (fun hc => ?_) (fun hc => ?_) <;> (try simp only [Bool.not_eq_true', Bool.not_eq_false', Bool.and_eq_true, Bool.or_eq_false_iff] at hc)) | (intro _; intros) | (refine And.intro ?_ ?_; focus (first | omega | ((repeat (first | exact Sub.refl _ | (refine Sub.drop ?_ ?_; focus (simp only [evN, *]; done)) | refine Sub.both ?_)); done) | (simp_all; done) | (simp_all; omega)))))
  refine callF_v HQ.out.1 ?_
  (repeat' (first | (simp +contextual -dsimp only [*, SesS.view, TxS.view, ↓reduceIte, ↓evP, evQ, splice, Nat.reduceAdd, Nat.reduceEqDiff, Nat.reduceLeDiff, Nat.reduceMul, reduceCtorEq, Int.reduceLT, Int.reduceLE, Int.reduceGT, Int.reduceGE, Int.reduceEq, Int.reduceNeg]) | (refine condF_split (fun hc => ?_) (fun hc => ?_) <;> (try simp only [Bool.not_eq_true', Bool.not_eq_false', Bool.and_eq_true, Bool.or_eq_false_iff] at hc)) | (intro _; intros) | (refine And.intro ?_ ?_; focus (first | omega | ((repeat (first | exact Sub.refl _ | (refine Sub.drop ?_ ?_; focus (simp only [evN, *]; done)) | refine Sub.both ?_)); done) | (simp_all; done) | (simp_all; omega)))))
  rename_i b b0
  refine callF_v (HQ.out.2.1 _ (by (repeat (first | exact Sub.refl _ | (refine Sub.drop ?_ ?_; focus (simp only [evN, *]; done)) | refine Sub.both ?_)); done)) ?_
  (repeat' (first | (simp +contextual -dsimp only [*, SesS.view, TxS.view, ↓reduceIte, ↓evP, evQ, splice, Nat.reduceAdd, Nat.reduceEqDiff, Nat.reduceLeDiff, Nat.reduceMul, reduceCtorEq, Int.reduceLT, Int.reduceLE, Int.reduceGT, Int.reduceGE, Int.reduceEq, Int.reduceNeg]) | (refine condF_split (fun hc => ?_) (fun hc => ?_) <;> (try simp only [Bool.not_eq_true', Bool.not_eq_false', Bool.and_eq_true, Bool.or_eq_false_iff] at hc)) | (intro _; intros) | (refine And.intro ?_ ?_; focus (first | omega | ((repeat (first | exact Sub.refl _ | (refine Sub.drop ?_ ?_; focus (simp only [evN, *]; done)) | refine Sub.both ?_)); done) | (simp_all; done) | (simp_all; omega)))))
  rename_i d d1 d1' d0
  refine callF_of (HQ.out.2.2.1 _ (by (repeat (first | exact Sub.refl _ | (refine Sub.drop ?_ ?_; focus (simp only [evN, *]; done)) | refine Sub.both ?_)); done)) ?_
  rintro u σ' ⟨v', rfl, hR, hM⟩
  obtain ⟨x1, y1, rfl⟩ := hR.slice
  have hd := hM.1.at (upd_same _ _ _) (fun x => x)
  have hb := hM.1.at (g := b) (by rw [upd_ne _ _ d1', upd_same]) (fun x => x)
  have hs : Sub σ σ' := fun k => by
    by_cases e : σ k = none
    · exact .inl e
    · refine .inr ?_
      have e1 : k ≠ b := fun h => e (by rw [h]; exact b0)
      have e2 : k ≠ d := fun h => e (by rw [h]; exact d0)
      rw [hM.1 k (by rw [upd_ne _ _ e2, upd_ne _ _ e1]; exact e) (fun x => x), upd_ne _ _ e2, upd_ne _ _ e1]
  have HS := Hid.mk (And.intro hR hs)
  clear hR hM hs
  obtain ⟨τ, rfl⟩ := open_2 hd hb d1
  clear hd hb
  (repeat' (first | (simp +contextual -dsimp only [*, SesS.view, TxS.view, ↓reduceIte, ↓evP, evQ, splice, Nat.reduceAdd, Nat.reduceEqDiff, Nat.reduceLeDiff, Nat.reduceMul, reduceCtorEq, Int.reduceLT, Int.reduceLE, Int.reduceGT, Int.reduceGE, Int.reduceEq, Int.reduceNeg]) | (refine condF_split (fun hc => ?_) (fun hc => ?_) <;> (try simp only [Bool.not_eq_true', Bool.not_eq_false', Bool.and_eq_true, Bool.or_eq_false_iff] at hc)) | (intro _; intros) | (refine And.intro ?_ ?_; focus (first | omega | ((repeat (first | exact Sub.refl _ | (refine Sub.drop ?_ ?_; focus (simp only [evN, *]; done)) | refine Sub.both ?_)); done) | (simp_all; done) | (simp_all; omega)))))
  rename_i e e1 e1' e2 e2' e0
  refine callF_v (HQ.out.2.2.2.1 _ (HS.out.2.trans (Sub.drop (by (simp only [evN, *]; done)) (Sub.refl _)))) ?_
  (repeat' (first | (simp +contextual -dsimp only [*, SesS.view, TxS.view, ↓reduceIte, ↓evP, evQ, splice, Nat.reduceAdd, Nat.reduceEqDiff, Nat.reduceLeDiff, Nat.reduceMul, reduceCtorEq, Int.reduceLT, Int.reduceLE, Int.reduceGT, Int.reduceGE, Int.reduceEq, Int.reduceNeg]) | (refine condF_split (fun hc => ?_) (fun hc => ?_) <;> (try simp only [Bool.not_eq_true', Bool.not_eq_false', Bool.and_eq_true, Bool.or_eq_false_iff] at hc)) | (intro _; intros) | (refine And.intro ?_ ?_; focus (first | omega | ((repeat (first | exact Sub.refl _ | (refine Sub.drop ?_ ?_; focus (simp only [evN, *]; done)) | refine Sub.both ?_)); done) | (simp_all; done) | (simp_all; omega)))))
  rename_i f f1 f1' f2 f2' f3 f3' f0
  have dS : (decide (S.busy = S.busy)) = true := by simp
  refine callF_v (h18.out _ _ (HS.out.1.subK (by (repeat (first | exact Sub.refl _ | (refine Sub.drop ?_ ?_; focus (simp only [evN, *]; done)) | refine Sub.both ?_)); done)) (HQ.out.2.2.2.2.subK (HS.out.2.trans (by (repeat (first | exact Sub.refl _ | (refine Sub.drop ?_ ?_; focus (simp only [evN, *]; done)) | refine Sub.both ?_)); done)))) ?_
  (repeat' (first | (simp +contextual -dsimp only [*, SesS.view, TxS.view, ↓reduceIte, ↓evP, evQ, splice, Nat.reduceAdd, Nat.reduceEqDiff, Nat.reduceLeDiff, Nat.reduceMul, reduceCtorEq, Int.reduceLT, Int.reduceLE, Int.reduceGT, Int.reduceGE, Int.reduceEq, Int.reduceNeg]) | (refine condF_split (fun hc => ?_) (fun hc => ?_) <;> (try simp only [Bool.not_eq_true', Bool.not_eq_false', Bool.and_eq_true, Bool.or_eq_false_iff] at hc)) | (intro _; intros) | (refine And.intro ?_ ?_; focus (first | omega | ((repeat (first | exact Sub.refl _ | (refine Sub.drop ?_ ?_; focus (simp only [evN, *]; done)) | refine Sub.both ?_)); done) | (simp_all; done) | (simp_all; omega)))))
  exact endF_det rfl (Sub.drop (HS.out.2.noneAt (by (simp only [evN, *]; done))) (Sub.drop (HS.out.2.noneAt (by (simp only [evN, *]; done))) HS.out.2))
theorem seen9 {σ0 σ : Hp} {C : CL} {R : RL} {n : Nat} (P : Pair σ0 σ C R) (A : Alike C R n) (hn : n ≤ 1048576) (s t : Int) : ACalls Tryz.prog 9 #[.pointer (some ⟨C.g, 0, none⟩), .pointer (some ⟨R.g, 0, none⟩), .int .i64 s, .int .i64 t] σ fun u σ' => u = .bool true ∧ σ' = σ := by
  have up : ∀ {σ1 : Hp}, Sub σ σ1 → Same (fun _ => False) σ σ1 := fun h k hk _ => (h k).elim (fun e => absurd e hk) fun e => e.symm
  have PC : ∀ {σ1 : Hp}, Sub σ σ1 → CliAt σ1 C := fun h => P.c.keep (up h) fun _ _ x => x
  have PR : ∀ {σ1 : Hp}, Sub σ σ1 → RefAt σ1 R := fun h => P.r.keep (up h) (fun _ _ x => x) fun _ _ x => x
  have qs : ∃ (S : SesS) (b : Bool), (ACalls Tryz.prog 30 #[.pointer (some ⟨C.g, 0, none⟩), .int .i64 s] σ fun u σ' => u = .tuple #[.agg S.view.toArray, .bool b] ∧ σ' = σ) ∧
      ∀ σ1, Sub σ σ1 → ACalls Tryz.prog 31 #[.pointer (some ⟨R.g, 0, none⟩), .int .i64 s] σ1 fun u σ' => u = .tuple #[.agg S.view.toArray, .bool b] ∧ σ' = σ1 := by
    rcases in_or s C.ss.length with ⟨h1, h2⟩ | ⟨i, hi, hlt⟩
    · refine ⟨newS 0, false, session37x (noS P.c h1), fun σ1 h => ?_⟩
      obtain ⟨a, c, a2, c2, vh, hg⟩ := nS_out (PR h) A
      exact session31x hg h2
    · obtain ⟨x, r, hs, hr, e1, e2, e3, e4⟩ := both_get A hlt
      refine ⟨x.S, true, by rw [hi]; exact viewC P.c hs, fun σ1 h => ?_⟩
      have q := rview (PR h) hr
      rw [e1] at q
      rw [hi]; exact q
  have qt : ∃ (T : TxS) (b : Bool) (v2 : Value), T.reads.length ≤ 140737488351232 ∧ (∀ σ1, Sub σ σ1 → ACalls Tryz.prog 32 #[.pointer (some ⟨C.g, 0, none⟩), .int .i64 t] σ1 fun u σ' => ∃ v', u = .tuple #[.agg (T.view v').toArray, .bool b] ∧ RowsAt 128 3 Got.cells σ' v' T.reads ∧ Made σ1 σ' v') ∧
      (∀ σ1, Sub σ σ1 → ACalls Tryz.prog 33 #[.pointer (some ⟨R.g, 0, none⟩), .int .i64 t] σ1 fun u σ' => u = .tuple #[.agg (T.view v2).toArray, .bool b] ∧ σ' = σ1) ∧ RowsAt 128 3 Got.cells σ v2 T.reads := by
    rcases in_or t C.ts.length with ⟨h1, h2⟩ | ⟨i, hi, hlt⟩
    · refine ⟨⟨0, 0, 0, 0, 0, 0, ⟨#[]⟩, 0, 0, []⟩, false, .slice none 0 0, by show 0 ≤ _; omega, fun σ1 h => (tx33x (noT (PC h) h1)).mono fun u σ' ⟨h1, h2⟩ => ⟨.slice none 0 0, h1, .inl ⟨rfl, rfl⟩, by rw [h2]; exact ⟨Same.refl _ _, fun k hk => by cases hk⟩⟩, fun σ1 h => ?_, .inl ⟨rfl, rfl⟩⟩
      obtain ⟨a, c, a2, c2, vh, hg⟩ := nS_out (PR h) A
      exact tx33rx hg h2
    · obtain ⟨x, q, ht, hq, e1, e2, e3⟩ := both_tx A hlt
      have hr := e3.reads
      refine ⟨x.T, true, q.v, by omega, fun σ1 h => by rw [hi]; exact txC (PC h) ht (by omega), fun σ1 h => ?_, by rw [← e1]; exact P.r.tx i q hq⟩
      have k := rtx (PR h) hq
      rw [e1] at k
      rw [hi]; exact k
  obtain ⟨S, b1, qa, qb⟩ := qs
  obtain ⟨T, b2, v2, hr, qx, qy, hv⟩ := qt
  exact seen9g hr qa qb qx qy hv
theorem OpCOk.sub {σ σ' : Hp} {o : OpC} (h : OpCOk σ o) (s : Sub σ σ') : OpCOk σ' o := ⟨h.key, h.mw, h.mks, by obtain ⟨os, a, b⟩ := h.ws; exact ⟨os, a.sub s, b⟩⟩
theorem OpC.cells_len (o : OpC) : o.cells.length = 21 := rfl
theorem newPair {σ σ1 σ2 : Hp} {D : CL} {E : RL} (h1 : Cli σ σ1 D) (h2 : Ref σ1 σ2 E) (hu : ∀ k, E.use k → σ k ≠ none) : Pair σ σ2 D E :=
  ⟨h1.at_.keep (F := fun _ => False) (fun k hk _ => (h2.sub k).elim (fun e => absurd e hk) fun e => e.symm) (fun _ _ x => x), h2.at_, h1.sub.trans h2.sub, h1.new, fun k hk => h1.sub.noneAt (h2.new k hk), fun k hk hr => h1.at_.known hk (h2.new k hr), fun k hk hr => hu k hr (h1.new k hk)⟩
theorem Pair.less {σ0 σ τ : Hp} {C : CL} {R : RL} (h : Pair σ0 σ C R) (hs : Sub τ σ0) : Pair τ σ C R := ⟨h.c, h.r, hs.trans h.sub, fun k hk => hs.noneAt (h.newC k hk), fun k hk => hs.noneAt (h.newR k hk), h.apart, h.apart2⟩
theorem newAlike (g g' : Nat) (c : Cfg) : Alike ⟨g, c, .slice none 0 0, .slice none 0 0, .slice none 0 0, [], []⟩ ⟨g', c, .slice none 0 0, .slice none 0 0, .slice none 0 0, [], []⟩ 0 :=
  ⟨rfl, rfl, Nat.zero_le _, rfl, Nat.zero_le _, fun i s r h => by simp at h, fun i s r h => by simp at h⟩
end Go.Proofs.YtaoafjlocjjbbaaGreatDoor
