/- Texts of mine, part 4 of 6, laid together: A config held in its bounds; a client without any. A client: its sessions, its transactions. Numbers that there aren't, and no client. A session opened. A transaction begun. A client with its sessions and transactions, over a heap; one of them turned. A client's calls: just what its session's or its transaction's do. A client that opens and begins; its calls at real numbers. A client's calls at re No condition. -/
import Derived.Test.YtaoafjlocjjbbaaGreatDoorMEC3
-- D8
namespace Go.Proofs.YtaoafjlocjjbbaaGreatDoor
open Go.Sp
set_option linter.unusedSimpArgs false
set_option linter.unusedVariables false
def hd (n most least : Int) : Int := mnI (mxI n least) most
theorem held78 (n most least : Int) (σ : Hp) : ACalls Tryz.prog 49 #[.int .i64 n, .int .i64 most, .int .i64 least] σ fun u σ' => u = .int .i64 (hd n most least) ∧ σ' = σ := by
  (refine acalls_F ok49 (by simp) ?_; unfold c49 r49)
  (repeat' (first | (simp +contextual -dsimp only [*, ↓reduceIte, ↓evP, evQ, splice, Nat.reduceAdd, Nat.reduceEqDiff, Nat.reduceLeDiff, Nat.reduceMul, reduceCtorEq, Int.reduceLT, Int.reduceLE, Int.reduceGT, Int.reduceGE, Int.reduceEq, Int.reduceNeg]) | (refine condF_split (fun hc => ?_) (fun hc => ?_) <;> (try simp only [Bool.not_eq_true', Bool.not_eq_false', Bool.and_eq_true, Bool.or_eq_false_iff] at hc)) | refine vcallF_mk (by kernel_rfl) ?_ | refine vccallF_mk (by kernel_rfl) ?_ | (intro _; intros) | (refine And.intro ?_ ?_; focus (first | omega | ((repeat (first | exact Sub.refl _ | (refine Sub.drop ?_ ?_; focus (simp only [evN, *]; done)) | refine Sub.both ?_)); done) | (simp_all; done) | (simp_all; omega)))))
  all_goals exact endF_sub (by (repeat (first | exact Sub.refl _ | (refine Sub.drop ?_ ?_; focus (simp only [evN, *]; done)) | refine Sub.both ?_)); done) ⟨by ((try simp only [decide_eq_true_eq, decide_eq_false_iff_not] at *) <;> first | rfl | (simp [hd]; done) | (simp_all [hd]; done) | (simp [hd]; omega) | (simp [hd]; (rw [Bool.eq_iff_iff]); simp; omega) | (simp_all [hd] <;> omega) | ((try unfold hd); (rw [Value.bool.injEq, Bool.eq_iff_iff]); simp <;> omega) | ((try unfold hd); (repeat' split) <;> simp_all <;> omega) | (simp_all [hd] <;> (repeat' split) <;> simp_all <;> omega)), rfl⟩
structure Cfg where
  nodes : Int := 0
  bytes : Int := 0
  spans : Int := 0
  gap : Int := 0
  recent : Int := 0
  versions : Int := 0
  protect : Int := 0
  retries : Int := 0
def Cfg.cells (c : Cfg) : List Value := [.int .i64 c.nodes, .int .i64 c.bytes, .int .i64 c.spans, .int .i64 c.gap, .int .i64 c.recent, .int .i64 c.versions, .int .i64 c.protect, .int .i64 c.retries]
def Cfg.held (c : Cfg) : Cfg := ⟨hd c.nodes 8 1, hd c.bytes 1048576 0, hd c.spans 64 1, hd c.gap 256 0, hd c.recent 1024 0, hd c.versions 64 1, hd c.protect 256 0, hd c.retries 16 0⟩
set_option maxRecDepth 100000 in
theorem held59 (c : Cfg) (σ : Hp) : ACalls Tryz.prog 20 #[.agg c.cells.toArray] σ fun u σ' => u = .agg c.held.cells.toArray ∧ σ' = σ := by
  unfold Cfg.cells
  (refine acalls_F ok20 (by simp) ?_; unfold c20 r20)
  (repeat' (first | (simp +contextual -dsimp only [*, ↓reduceIte, ↓evP, evQ, splice, Nat.reduceAdd, Nat.reduceEqDiff, Nat.reduceLeDiff, Nat.reduceMul, reduceCtorEq, Int.reduceLT, Int.reduceLE, Int.reduceGT, Int.reduceGE, Int.reduceEq, Int.reduceNeg]) | (refine condF_split (fun hc => ?_) (fun hc => ?_) <;> (try simp only [Bool.not_eq_true', Bool.not_eq_false', Bool.and_eq_true, Bool.or_eq_false_iff] at hc)) | refine callF_v (held78 _ _ _ _) ?_ | refine ccallF_of (held78 _ _ _ _) ?_ | refine gcallF_of (held78 _ _ _ _) ?_ | refine vcallF_mk (by kernel_rfl) ?_ | refine vccallF_mk (by kernel_rfl) ?_ | (intro _; intros) | (refine And.intro ?_ ?_; focus (first | omega | ((repeat (first | exact Sub.refl _ | (refine Sub.drop ?_ ?_; focus (simp only [evN, *]; done)) | refine Sub.both ?_)); done) | (simp_all; done) | (simp_all; omega)))))
  all_goals (refine endF_det ?_ ?_; (focus ((try simp only [Cfg.held, Cfg.cells, cond_true, cond_false, *]) <;> ((try simp only [decide_eq_true_eq, decide_eq_false_iff_not] at *) <;> first | rfl | (simp [Cfg.held, Cfg.cells]; done) | (simp_all [Cfg.held, Cfg.cells]; done) | (simp [Cfg.held, Cfg.cells]; omega) | (simp [Cfg.held, Cfg.cells]; (rw [Bool.eq_iff_iff]); simp; omega) | (simp_all [Cfg.held, Cfg.cells] <;> omega) | ((try unfold Cfg.held  Cfg.cells); (rw [Value.bool.injEq, Bool.eq_iff_iff]); simp <;> omega) | ((try unfold Cfg.held  Cfg.cells); (repeat' split) <;> simp_all <;> omega) | (simp_all [Cfg.held, Cfg.cells] <;> (repeat' split) <;> simp_all <;> omega)))); (focus ((try simp only [Cfg.held, Cfg.cells, cond_true, cond_false, set_same, *]); exact (by (repeat (first | exact Sub.refl _ | (refine Sub.drop ?_ ?_; focus (simp only [evN, *]; done)) | refine Sub.both ?_)); done))))
def ptr (g : Nat) : Value := .pointer (some ⟨g, 0, none⟩)
/-- A client's cells: its config, and where its sessions, its transactions and its homes lie. -/
def CliC (c : Cfg) (v w h : Value) : List Value := [.int .i64 c.nodes, .int .i64 c.bytes, .int .i64 c.spans, .int .i64 c.gap, .int .i64 c.recent, .int .i64 c.versions, .int .i64 c.protect, .int .i64 c.retries, v, w, h]
def gC (g : Nat) : List Value := [.pointer (some ⟨g, 0, none⟩)]
def rC (p : Nat × Nat) : List Value := [.pointer (some ⟨p.1, 0, none⟩), .pointer (some ⟨p.2, 0, none⟩)]
def iC (i : Int) : List Value := [.int .i64 i]
theorem gC_len (g : Nat) : (gC g).length = 1 := rfl
theorem rC_len (p : Nat × Nat) : (rC p).length = 2 := rfl
theorem iC_len (i : Int) : (iC i).length = 1 := rfl
theorem new30 (c : Cfg) (σ : Hp) : ACalls Tryz.prog 6 #[.agg c.cells.toArray] σ fun u σ' => ∃ g, σ g = none ∧ u = .pointer (some ⟨g, 0, none⟩) ∧ σ' = upd σ g (.cells (CliC c.held (.slice none 0 0) (.slice none 0 0) (.slice none 0 0)) 67) := by
  have h := held59 c
  unfold Cfg.cells at *
  (refine acalls_F ok6 (by simp) ?_; unfold c6 r6)
  (repeat' (first | (simp +contextual -dsimp only [*, CliC, ↓reduceIte, ↓evP, evQ, splice, Nat.reduceAdd, Nat.reduceEqDiff, Nat.reduceLeDiff, Nat.reduceMul, reduceCtorEq, Int.reduceLT, Int.reduceLE, Int.reduceGT, Int.reduceGE, Int.reduceEq, Int.reduceNeg]) | (refine condF_split (fun hc => ?_) (fun hc => ?_) <;> (try simp only [Bool.not_eq_true', Bool.not_eq_false', Bool.and_eq_true, Bool.or_eq_false_iff] at hc)) | refine callF_v (h _) ?_ | refine ccallF_of (h _) ?_ | refine gcallF_of (h _) ?_ | (intro _; intros) | (refine And.intro ?_ ?_; focus (first | omega | ((repeat (first | exact Sub.refl _ | (refine Sub.drop ?_ ?_; focus (simp only [evN, *]; done)) | refine Sub.both ?_)); done) | (simp_all; done) | (simp_all; omega)))))
  rename_i b b0 d d1 d1' d0
  exact endF_sub (τ := upd σ d (.cells (CliC c.held (.slice none 0 0) (.slice none 0 0) (.slice none 0 0)) 67)) (by (repeat (first | exact Sub.refl _ | (refine Sub.drop ?_ ?_; focus (simp only [evN, *]; done)) | refine Sub.both ?_)); done) ⟨d, by assumption, rfl, rfl⟩
theorem retries68 {σ : Hp} {g : Nat} {c : Cfg} {v w h : Value} (hg : σ g = some (.cells (CliC c v w h) 67)) : ACalls Tryz.prog 56 #[.pointer (some ⟨g, 0, none⟩)] σ fun u σ' => u = .int .i64 c.retries ∧ σ' = σ := by
  (unfold CliC at hg; obtain ⟨τ, rfl⟩ := open_upd hg; clear hg)
  (refine acalls_F ok56 (by simp) ?_; unfold c56 r56)
  (repeat' (first | (simp +contextual -dsimp only [*, CliC, ↓reduceIte, ↓evP, evQ, splice, Nat.reduceAdd, Nat.reduceEqDiff, Nat.reduceLeDiff, Nat.reduceMul, reduceCtorEq, Int.reduceLT, Int.reduceLE, Int.reduceGT, Int.reduceGE, Int.reduceEq, Int.reduceNeg]) | (refine condF_split (fun hc => ?_) (fun hc => ?_) <;> (try simp only [Bool.not_eq_true', Bool.not_eq_false', Bool.and_eq_true, Bool.or_eq_false_iff] at hc)) | (intro _; intros) | (refine And.intro ?_ ?_; focus (first | omega | ((repeat (first | exact Sub.refl _ | (refine Sub.drop ?_ ?_; focus (simp only [evN, *]; done)) | refine Sub.both ?_)); done) | (simp_all; done) | (simp_all; omega)))))
  all_goals (refine endF_det ?_ ?_; (focus ((try simp only [cond_true, cond_false, *]) <;> ((try simp only [decide_eq_true_eq, decide_eq_false_iff_not] at *) <;> first | rfl | (simp []; done) | (simp_all []; done) | (simp []; omega) | (simp []; (rw [Bool.eq_iff_iff]); simp; omega) | (simp_all [] <;> omega) | ((try unfold id); (rw [Value.bool.injEq, Bool.eq_iff_iff]); simp <;> omega) | ((try unfold id); (repeat' split) <;> simp_all <;> omega) | (simp_all [] <;> (repeat' split) <;> simp_all <;> omega)))); (focus ((try simp only [cond_true, cond_false, set_same, *]); exact (by (repeat (first | exact Sub.refl _ | (refine Sub.drop ?_ ?_; focus (simp only [evN, *]; done)) | refine Sub.both ?_)); done))))
/-- The session of a number. -/
theorem session60x {σ : Hp} {g : Nat} {c : Cfg} {v w h : Value} {gs : List Nat} (hg : σ g = some (.cells (CliC c v w h) 67)) (hr : RowsAt 92 1 gC σ v gs) (s : Int) (hs : (decide (s < 0) || decide (s ≥ (gs.length : Int))) = true) :
    ACalls Tryz.prog 38 #[.pointer (some ⟨g, 0, none⟩), .int .i64 s] σ fun u σ' => u = .pointer none ∧ σ' = σ := by
  obtain ⟨a, k, rfl⟩ := hr.slice
  clear hr
  (unfold CliC at hg; obtain ⟨τ, rfl⟩ := open_upd hg; clear hg)
  (refine acalls_F ok38 (by simp) ?_; unfold c38 r38)
  (repeat' (first | (simp +contextual -dsimp only [*, CliC, ↓reduceIte, ↓evP, evQ, splice, Nat.reduceAdd, Nat.reduceEqDiff, Nat.reduceLeDiff, Nat.reduceMul, reduceCtorEq, Int.reduceLT, Int.reduceLE, Int.reduceGT, Int.reduceGE, Int.reduceEq, Int.reduceNeg]) | (refine condF_split (fun hc => ?_) (fun hc => ?_) <;> (try simp only [Bool.not_eq_true', Bool.not_eq_false', Bool.and_eq_true, Bool.or_eq_false_iff] at hc)) | (intro _; intros) | (refine And.intro ?_ ?_; focus (first | omega | ((repeat (first | exact Sub.refl _ | (refine Sub.drop ?_ ?_; focus (simp only [evN, *]; done)) | refine Sub.both ?_)); done) | (simp_all; done) | (simp_all; omega)))))
  all_goals first | exact endF_det rfl (by (repeat (first | exact Sub.refl _ | (refine Sub.drop ?_ ?_; focus (simp only [evN, *]; done)) | refine Sub.both ?_)); done) | skip
  simp_all
theorem session60i {σ : Hp} {g : Nat} {c : Cfg} {v w h : Value} {gs : List Nat} (hg : σ g = some (.cells (CliC c v w h) 67)) (hr : RowsAt 92 1 gC σ v gs) {i k : Nat} (hx : gs[i]? = some k) :
    ACalls Tryz.prog 38 #[.pointer (some ⟨g, 0, none⟩), .int .i64 i] σ fun u σ' => u = .pointer (some ⟨k, 0, none⟩) ∧ σ' = σ := by
  have hlt := (List.getElem?_eq_some_iff.1 hx).1
  rcases hr with ⟨rfl, rfl⟩ | ⟨b, q, rfl, hk, hb⟩
  · cases hx
  · have h1 : decide ((i : Int) < 0) = false := by simp
    have h2 : decide ((i : Int) ≥ (gs.length : Int)) = false := by simp; omega
    have h3 := get_flat gC_len hx 0 (by omega)
    simp only [Nat.add_zero] at h3
    have h4 : (gC k)[0]? = some (.pointer (some ⟨k, 0, none⟩)) := rfl
    rw [h4] at h3
    clear hx h4
    unfold CliC at hg
    obtain ⟨τ, rfl, hne1, hne2⟩ := open_two hg hb (by simp)
    clear hg hb
    (refine acalls_F ok38 (by simp) ?_; unfold c38 r38)
    (repeat' (first | (simp +contextual -dsimp only [*, CliC, ↓reduceIte, ↓evP, evQ, splice, Nat.reduceAdd, Nat.reduceEqDiff, Nat.reduceLeDiff, Nat.reduceMul, reduceCtorEq, Int.reduceLT, Int.reduceLE, Int.reduceGT, Int.reduceGE, Int.reduceEq, Int.reduceNeg]) | (refine condF_split (fun hc => ?_) (fun hc => ?_) <;> (try simp only [Bool.not_eq_true', Bool.not_eq_false', Bool.and_eq_true, Bool.or_eq_false_iff] at hc)) | (intro _; intros) | (refine And.intro ?_ ?_; focus (first | omega | ((repeat (first | exact Sub.refl _ | (refine Sub.drop ?_ ?_; focus (simp only [evN, *]; done)) | refine Sub.both ?_)); done) | (simp_all; done) | (simp_all; omega)))))
    all_goals (refine endF_det ?_ ?_; (focus ((try simp only [cond_true, cond_false, *]) <;> ((try simp only [decide_eq_true_eq, decide_eq_false_iff_not] at *) <;> first | rfl | (simp []; done) | (simp_all []; done) | (simp []; omega) | (simp []; (rw [Bool.eq_iff_iff]); simp; omega) | (simp_all [] <;> omega) | ((try unfold id); (rw [Value.bool.injEq, Bool.eq_iff_iff]); simp <;> omega) | ((try unfold id); (repeat' split) <;> simp_all <;> omega) | (simp_all [] <;> (repeat' split) <;> simp_all <;> omega)))); (focus ((try simp only [cond_true, cond_false, set_same, *]); exact (by (repeat (first | exact Sub.refl _ | (refine Sub.drop ?_ ?_; focus (simp only [evN, *]; done)) | refine Sub.both ?_)); done))))
/-- The transaction of a number. -/
theorem tx62x {σ : Hp} {g : Nat} {c : Cfg} {v w h : Value} {gs : List (Nat × Nat)} (hg : σ g = some (.cells (CliC c v w h) 67)) (hr : RowsAt 96 2 rC σ w gs) (s : Int) (hs : (decide (s < 0) || decide (s ≥ (gs.length : Int))) = true) :
    ACalls Tryz.prog 41 #[.pointer (some ⟨g, 0, none⟩), .int .i64 s] σ fun u σ' => u = .agg #[.pointer none, .pointer none] ∧ σ' = σ := by
  obtain ⟨a, k, rfl⟩ := hr.slice
  clear hr
  (unfold CliC at hg; obtain ⟨τ, rfl⟩ := open_upd hg; clear hg)
  (refine acalls_F ok41 (by simp) ?_; unfold c41 r41)
  (repeat' (first | (simp +contextual -dsimp only [*, CliC, ↓reduceIte, ↓evP, evQ, splice, Nat.reduceAdd, Nat.reduceEqDiff, Nat.reduceLeDiff, Nat.reduceMul, reduceCtorEq, Int.reduceLT, Int.reduceLE, Int.reduceGT, Int.reduceGE, Int.reduceEq, Int.reduceNeg]) | (refine condF_split (fun hc => ?_) (fun hc => ?_) <;> (try simp only [Bool.not_eq_true', Bool.not_eq_false', Bool.and_eq_true, Bool.or_eq_false_iff] at hc)) | (intro _; intros) | (refine And.intro ?_ ?_; focus (first | omega | ((repeat (first | exact Sub.refl _ | (refine Sub.drop ?_ ?_; focus (simp only [evN, *]; done)) | refine Sub.both ?_)); done) | (simp_all; done) | (simp_all; omega)))))
  all_goals first | exact endF_det rfl (by (repeat (first | exact Sub.refl _ | (refine Sub.drop ?_ ?_; focus (simp only [evN, *]; done)) | refine Sub.both ?_)); done) | skip
  simp_all
theorem tx62i {σ : Hp} {g : Nat} {c : Cfg} {v w h : Value} {gs : List (Nat × Nat)} (hg : σ g = some (.cells (CliC c v w h) 67)) (hr : RowsAt 96 2 rC σ w gs) {i : Nat} {k : Nat × Nat} (hx : gs[i]? = some k) :
    ACalls Tryz.prog 41 #[.pointer (some ⟨g, 0, none⟩), .int .i64 i] σ fun u σ' => u = .agg #[.pointer (some ⟨k.1, 0, none⟩), .pointer (some ⟨k.2, 0, none⟩)] ∧ σ' = σ := by
  have hlt := (List.getElem?_eq_some_iff.1 hx).1
  rcases hr with ⟨rfl, rfl⟩ | ⟨b, q, rfl, hk, hb⟩
  · cases hx
  · have h1 : decide ((i : Int) < 0) = false := by simp
    have h2 : decide ((i : Int) ≥ (gs.length : Int)) = false := by simp; omega
    have h3 := seg_flat rC_len hx 0 2 (by omega)
    simp only [Nat.add_zero] at h3
    have h4 : seg (rC k) 0 2 = some [.pointer (some ⟨k.1, 0, none⟩), .pointer (some ⟨k.2, 0, none⟩)] := rfl
    rw [h4] at h3
    clear hx h4
    unfold CliC at hg
    obtain ⟨τ, rfl, hne1, hne2⟩ := open_two hg hb (by simp)
    clear hg hb
    (refine acalls_F ok41 (by simp) ?_; unfold c41 r41)
    (repeat' (first | (simp +contextual -dsimp only [*, CliC, ↓reduceIte, ↓evP, evQ, splice, Nat.reduceAdd, Nat.reduceEqDiff, Nat.reduceLeDiff, Nat.reduceMul, reduceCtorEq, Int.reduceLT, Int.reduceLE, Int.reduceGT, Int.reduceGE, Int.reduceEq, Int.reduceNeg]) | (refine condF_split (fun hc => ?_) (fun hc => ?_) <;> (try simp only [Bool.not_eq_true', Bool.not_eq_false', Bool.and_eq_true, Bool.or_eq_false_iff] at hc)) | (intro _; intros) | (refine And.intro ?_ ?_; focus (first | omega | ((repeat (first | exact Sub.refl _ | (refine Sub.drop ?_ ?_; focus (simp only [evN, *]; done)) | refine Sub.both ?_)); done) | (simp_all; done) | (simp_all; omega)))))
    all_goals (refine endF_det ?_ ?_; (focus ((try simp only [cond_true, cond_false, *]) <;> ((try simp only [decide_eq_true_eq, decide_eq_false_iff_not] at *) <;> first | rfl | (simp []; done) | (simp_all []; done) | (simp []; omega) | (simp []; (rw [Bool.eq_iff_iff]); simp; omega) | (simp_all [] <;> omega) | ((try unfold id); (rw [Value.bool.injEq, Bool.eq_iff_iff]); simp <;> omega) | ((try unfold id); (repeat' split) <;> simp_all <;> omega) | (simp_all [] <;> (repeat' split) <;> simp_all <;> omega)))); (focus ((try simp only [cond_true, cond_false, set_same, *]); exact (by (repeat (first | exact Sub.refl _ | (refine Sub.drop ?_ ?_; focus (simp only [evN, *]; done)) | refine Sub.both ?_)); done))))
/-- There is no such session; no such transaction. -/
def NoS (c : Value) (s : Int) (τ : Hp) : Prop := ∀ σ, Sub τ σ → ACalls Tryz.prog 38 #[c, .int .i64 s] σ fun u σ' => u = .pointer none ∧ σ' = σ
def NoT (c : Value) (t : Int) (τ : Hp) : Prop := ∀ σ, Sub τ σ → ACalls Tryz.prog 41 #[c, .int .i64 t] σ fun u σ' => u = .agg #[.pointer none, .pointer none] ∧ σ' = σ
def Rt (c : Value) (r : Int) (τ : Hp) : Prop := ∀ σ, Sub τ σ → ACalls Tryz.prog 56 #[c] σ fun u σ' => u = .int .i64 r ∧ σ' = σ
theorem commit39x {c w : Value} {s : Int} {σ : Hp} (h : NoS c s σ) : ACalls Tryz.prog 13 #[c, .int .i64 s, w] σ fun u σ' => u = .tuple #[.agg noMsg.toArray, .int .i64 3] ∧ σ' = σ := by
  (refine acalls_F ok13 (by simp) ?_; unfold c13 r13)
  (repeat' (first | (simp +contextual -dsimp only [*, CliC, Msg.cells, noMsg, noView, ↓reduceIte, ↓evP, evQ, splice, Nat.reduceAdd, Nat.reduceEqDiff, Nat.reduceLeDiff, Nat.reduceMul, reduceCtorEq, Int.reduceLT, Int.reduceLE, Int.reduceGT, Int.reduceGE, Int.reduceEq, Int.reduceNeg]) | (refine condF_split (fun hc => ?_) (fun hc => ?_) <;> (try simp only [Bool.not_eq_true', Bool.not_eq_false', Bool.and_eq_true, Bool.or_eq_false_iff] at hc)) | refine callF_v (h _ (by (repeat (first | exact Sub.refl _ | (refine Sub.drop ?_ ?_; focus (simp only [evN, *]; done)) | refine Sub.both ?_)); done)) ?_ | refine callF_v (send15n _ _) ?_ | refine ccallF_of (h _ (by (repeat (first | exact Sub.refl _ | (refine Sub.drop ?_ ?_; focus (simp only [evN, *]; done)) | refine Sub.both ?_)); done)) ?_ | refine ccallF_of (send15n _ _) ?_ | refine gcallF_of (h _ (by (repeat (first | exact Sub.refl _ | (refine Sub.drop ?_ ?_; focus (simp only [evN, *]; done)) | refine Sub.both ?_)); done)) ?_ | refine gcallF_of (send15n _ _) ?_ | (intro _; intros) | (refine And.intro ?_ ?_; focus (first | omega | ((repeat (first | exact Sub.refl _ | (refine Sub.drop ?_ ?_; focus (simp only [evN, *]; done)) | refine Sub.both ?_)); done) | (simp_all; done) | (simp_all; omega)))))
  all_goals (refine endF_det ?_ ?_; (focus ((try simp only [noMsg, Msg.cells, cond_true, cond_false, *]) <;> ((try simp only [decide_eq_true_eq, decide_eq_false_iff_not] at *) <;> first | rfl | (simp [noMsg, Msg.cells]; done) | (simp_all [noMsg, Msg.cells]; done) | (simp [noMsg, Msg.cells]; omega) | (simp [noMsg, Msg.cells]; (rw [Bool.eq_iff_iff]); simp; omega) | (simp_all [noMsg, Msg.cells] <;> omega) | ((try unfold noMsg  Msg.cells); (rw [Value.bool.injEq, Bool.eq_iff_iff]); simp <;> omega) | ((try unfold noMsg  Msg.cells); (repeat' split) <;> simp_all <;> omega) | (simp_all [noMsg, Msg.cells] <;> (repeat' split) <;> simp_all <;> omega)))); (focus ((try simp only [noMsg, Msg.cells, cond_true, cond_false, set_same, *]); exact (by (repeat (first | exact Sub.refl _ | (refine Sub.drop ?_ ?_; focus (simp only [evN, *]; done)) | refine Sub.both ?_)); done))))
theorem again40x {c : Value} {s r : Int} {σ : Hp} (h : NoS c s σ) (h2 : Rt c r σ) : ACalls Tryz.prog 65 #[c, .int .i64 s] σ fun u σ' => u = .tuple #[.agg noMsg.toArray, .int .i64 3] ∧ σ' = σ := by
  (refine acalls_F ok65 (by simp) ?_; unfold c65 r65)
  (repeat' (first | (simp +contextual -dsimp only [*, CliC, Msg.cells, noMsg, noView, ↓reduceIte, ↓evP, evQ, splice, Nat.reduceAdd, Nat.reduceEqDiff, Nat.reduceLeDiff, Nat.reduceMul, reduceCtorEq, Int.reduceLT, Int.reduceLE, Int.reduceGT, Int.reduceGE, Int.reduceEq, Int.reduceNeg]) | (refine condF_split (fun hc => ?_) (fun hc => ?_) <;> (try simp only [Bool.not_eq_true', Bool.not_eq_false', Bool.and_eq_true, Bool.or_eq_false_iff] at hc)) | refine callF_v (h _ (by (repeat (first | exact Sub.refl _ | (refine Sub.drop ?_ ?_; focus (simp only [evN, *]; done)) | refine Sub.both ?_)); done)) ?_ | refine callF_v (h2 _ (by (repeat (first | exact Sub.refl _ | (refine Sub.drop ?_ ?_; focus (simp only [evN, *]; done)) | refine Sub.both ?_)); done)) ?_ | refine callF_v (again17n _ _) ?_ | refine ccallF_of (h _ (by (repeat (first | exact Sub.refl _ | (refine Sub.drop ?_ ?_; focus (simp only [evN, *]; done)) | refine Sub.both ?_)); done)) ?_ | refine ccallF_of (h2 _ (by (repeat (first | exact Sub.refl _ | (refine Sub.drop ?_ ?_; focus (simp only [evN, *]; done)) | refine Sub.both ?_)); done)) ?_ | refine ccallF_of (again17n _ _) ?_ | refine gcallF_of (h _ (by (repeat (first | exact Sub.refl _ | (refine Sub.drop ?_ ?_; focus (simp only [evN, *]; done)) | refine Sub.both ?_)); done)) ?_ | refine gcallF_of (h2 _ (by (repeat (first | exact Sub.refl _ | (refine Sub.drop ?_ ?_; focus (simp only [evN, *]; done)) | refine Sub.both ?_)); done)) ?_ | refine gcallF_of (again17n _ _) ?_ | (intro _; intros) | (refine And.intro ?_ ?_; focus (first | omega | ((repeat (first | exact Sub.refl _ | (refine Sub.drop ?_ ?_; focus (simp only [evN, *]; done)) | refine Sub.both ?_)); done) | (simp_all; done) | (simp_all; omega)))))
  all_goals (refine endF_det ?_ ?_; (focus ((try simp only [noMsg, Msg.cells, cond_true, cond_false, *]) <;> ((try simp only [decide_eq_true_eq, decide_eq_false_iff_not] at *) <;> first | rfl | (simp [noMsg, Msg.cells]; done) | (simp_all [noMsg, Msg.cells]; done) | (simp [noMsg, Msg.cells]; omega) | (simp [noMsg, Msg.cells]; (rw [Bool.eq_iff_iff]); simp; omega) | (simp_all [noMsg, Msg.cells] <;> omega) | ((try unfold noMsg  Msg.cells); (rw [Value.bool.injEq, Bool.eq_iff_iff]); simp <;> omega) | ((try unfold noMsg  Msg.cells); (repeat' split) <;> simp_all <;> omega) | (simp_all [noMsg, Msg.cells] <;> (repeat' split) <;> simp_all <;> omega)))); (focus ((try simp only [noMsg, Msg.cells, cond_true, cond_false, set_same, *]); exact (by (repeat (first | exact Sub.refl _ | (refine Sub.drop ?_ ?_; focus (simp only [evN, *]; done)) | refine Sub.both ?_)); done))))
theorem token41x {c : Value} {s : Int} {σ : Hp} (h : NoS c s σ) : ACalls Tryz.prog 16 #[c, .int .i64 s] σ fun u σ' => u = .tuple #[.string ⟨#[]⟩, .int .i64 3] ∧ σ' = σ := by
  (refine acalls_F ok16 (by simp) ?_; unfold c16 r16)
  (repeat' (first | (simp +contextual -dsimp only [*, CliC, Msg.cells, noMsg, noView, ↓reduceIte, ↓evP, evQ, splice, Nat.reduceAdd, Nat.reduceEqDiff, Nat.reduceLeDiff, Nat.reduceMul, reduceCtorEq, Int.reduceLT, Int.reduceLE, Int.reduceGT, Int.reduceGE, Int.reduceEq, Int.reduceNeg]) | (refine condF_split (fun hc => ?_) (fun hc => ?_) <;> (try simp only [Bool.not_eq_true', Bool.not_eq_false', Bool.and_eq_true, Bool.or_eq_false_iff] at hc)) | refine callF_v (h _ (by (repeat (first | exact Sub.refl _ | (refine Sub.drop ?_ ?_; focus (simp only [evN, *]; done)) | refine Sub.both ?_)); done)) ?_ | refine ccallF_of (h _ (by (repeat (first | exact Sub.refl _ | (refine Sub.drop ?_ ?_; focus (simp only [evN, *]; done)) | refine Sub.both ?_)); done)) ?_ | refine gcallF_of (h _ (by (repeat (first | exact Sub.refl _ | (refine Sub.drop ?_ ?_; focus (simp only [evN, *]; done)) | refine Sub.both ?_)); done)) ?_ | (intro _; intros) | (refine And.intro ?_ ?_; focus (first | omega | ((repeat (first | exact Sub.refl _ | (refine Sub.drop ?_ ?_; focus (simp only [evN, *]; done)) | refine Sub.both ?_)); done) | (simp_all; done) | (simp_all; omega)))))
  all_goals (refine endF_det ?_ ?_; (focus ((try simp only [cond_true, cond_false, *]) <;> ((try simp only [decide_eq_true_eq, decide_eq_false_iff_not] at *) <;> first | rfl | (simp []; done) | (simp_all []; done) | (simp []; omega) | (simp []; (rw [Bool.eq_iff_iff]); simp; omega) | (simp_all [] <;> omega) | ((try unfold id); (rw [Value.bool.injEq, Bool.eq_iff_iff]); simp <;> omega) | ((try unfold id); (repeat' split) <;> simp_all <;> omega) | (simp_all [] <;> (repeat' split) <;> simp_all <;> omega)))); (focus ((try simp only [cond_true, cond_false, set_same, *]); exact (by (repeat (first | exact Sub.refl _ | (refine Sub.drop ?_ ?_; focus (simp only [evN, *]; done)) | refine Sub.both ?_)); done))))
theorem join43x {c : Value} {s : Int} {σ : Hp} (h : NoS c s σ) (t : ByteArray) : ACalls Tryz.prog 17 #[c, .int .i64 s, .string t] σ fun u σ' => u = .int .i64 3 ∧ σ' = σ := by
  (refine acalls_F ok17 (by simp) ?_; unfold c17 r17)
  (repeat' (first | (simp +contextual -dsimp only [*, CliC, Msg.cells, noMsg, noView, ↓reduceIte, ↓evP, evQ, splice, Nat.reduceAdd, Nat.reduceEqDiff, Nat.reduceLeDiff, Nat.reduceMul, reduceCtorEq, Int.reduceLT, Int.reduceLE, Int.reduceGT, Int.reduceGE, Int.reduceEq, Int.reduceNeg]) | (refine condF_split (fun hc => ?_) (fun hc => ?_) <;> (try simp only [Bool.not_eq_true', Bool.not_eq_false', Bool.and_eq_true, Bool.or_eq_false_iff] at hc)) | refine callF_v (h _ (by (repeat (first | exact Sub.refl _ | (refine Sub.drop ?_ ?_; focus (simp only [evN, *]; done)) | refine Sub.both ?_)); done)) ?_ | refine callF_v (join24n _ _) ?_ | refine ccallF_of (h _ (by (repeat (first | exact Sub.refl _ | (refine Sub.drop ?_ ?_; focus (simp only [evN, *]; done)) | refine Sub.both ?_)); done)) ?_ | refine ccallF_of (join24n _ _) ?_ | refine gcallF_of (h _ (by (repeat (first | exact Sub.refl _ | (refine Sub.drop ?_ ?_; focus (simp only [evN, *]; done)) | refine Sub.both ?_)); done)) ?_ | refine gcallF_of (join24n _ _) ?_ | (intro _; intros) | (refine And.intro ?_ ?_; focus (first | omega | ((repeat (first | exact Sub.refl _ | (refine Sub.drop ?_ ?_; focus (simp only [evN, *]; done)) | refine Sub.both ?_)); done) | (simp_all; done) | (simp_all; omega)))))
  all_goals (refine endF_det ?_ ?_; (focus ((try simp only [cond_true, cond_false, *]) <;> ((try simp only [decide_eq_true_eq, decide_eq_false_iff_not] at *) <;> first | rfl | (simp []; done) | (simp_all []; done) | (simp []; omega) | (simp []; (rw [Bool.eq_iff_iff]); simp; omega) | (simp_all [] <;> omega) | ((try unfold id); (rw [Value.bool.injEq, Bool.eq_iff_iff]); simp <;> omega) | ((try unfold id); (repeat' split) <;> simp_all <;> omega) | (simp_all [] <;> (repeat' split) <;> simp_all <;> omega)))); (focus ((try simp only [cond_true, cond_false, set_same, *]); exact (by (repeat (first | exact Sub.refl _ | (refine Sub.drop ?_ ?_; focus (simp only [evN, *]; done)) | refine Sub.both ?_)); done))))
theorem begin32x {c : Value} {s : Int} {σ : Hp} (h : NoS c s σ) : ACalls Tryz.prog 18 #[c, .int .i64 s] σ fun u σ' => u = .tuple #[.int .i64 0, .int .i64 3] ∧ σ' = σ := by
  (refine acalls_F ok18 (by simp) ?_; unfold c18 r18)
  (repeat' (first | (simp +contextual -dsimp only [*, CliC, Msg.cells, noMsg, noView, ↓reduceIte, ↓evP, evQ, splice, Nat.reduceAdd, Nat.reduceEqDiff, Nat.reduceLeDiff, Nat.reduceMul, reduceCtorEq, Int.reduceLT, Int.reduceLE, Int.reduceGT, Int.reduceGE, Int.reduceEq, Int.reduceNeg]) | (refine condF_split (fun hc => ?_) (fun hc => ?_) <;> (try simp only [Bool.not_eq_true', Bool.not_eq_false', Bool.and_eq_true, Bool.or_eq_false_iff] at hc)) | refine callF_v (h _ (by (repeat (first | exact Sub.refl _ | (refine Sub.drop ?_ ?_; focus (simp only [evN, *]; done)) | refine Sub.both ?_)); done)) ?_ | refine ccallF_of (h _ (by (repeat (first | exact Sub.refl _ | (refine Sub.drop ?_ ?_; focus (simp only [evN, *]; done)) | refine Sub.both ?_)); done)) ?_ | refine gcallF_of (h _ (by (repeat (first | exact Sub.refl _ | (refine Sub.drop ?_ ?_; focus (simp only [evN, *]; done)) | refine Sub.both ?_)); done)) ?_ | (intro _; intros) | (refine And.intro ?_ ?_; focus (first | omega | ((repeat (first | exact Sub.refl _ | (refine Sub.drop ?_ ?_; focus (simp only [evN, *]; done)) | refine Sub.both ?_)); done) | (simp_all; done) | (simp_all; omega)))))
  all_goals (refine endF_det ?_ ?_; (focus ((try simp only [cond_true, cond_false, *]) <;> ((try simp only [decide_eq_true_eq, decide_eq_false_iff_not] at *) <;> first | rfl | (simp []; done) | (simp_all []; done) | (simp []; omega) | (simp []; (rw [Bool.eq_iff_iff]); simp; omega) | (simp_all [] <;> omega) | ((try unfold id); (rw [Value.bool.injEq, Bool.eq_iff_iff]); simp <;> omega) | ((try unfold id); (repeat' split) <;> simp_all <;> omega) | (simp_all [] <;> (repeat' split) <;> simp_all <;> omega)))); (focus ((try simp only [cond_true, cond_false, set_same, *]); exact (by (repeat (first | exact Sub.refl _ | (refine Sub.drop ?_ ?_; focus (simp only [evN, *]; done)) | refine Sub.both ?_)); done))))
theorem read34x {c : Value} {t : Int} {σ : Hp} (h : NoT c t σ) (k : ByteArray) : ACalls Tryz.prog 22 #[c, .int .i64 t, .string k] σ fun u σ' => u = .tuple #[.agg #[.bool false, .string ⟨#[]⟩], .agg noMsg.toArray, .int .i64 3] ∧ σ' = σ := by
  (refine acalls_F ok22 (by simp) ?_; unfold c22 r22)
  (repeat' (first | (simp +contextual -dsimp only [*, CliC, Msg.cells, noMsg, noView, ↓reduceIte, ↓evP, evQ, splice, Nat.reduceAdd, Nat.reduceEqDiff, Nat.reduceLeDiff, Nat.reduceMul, reduceCtorEq, Int.reduceLT, Int.reduceLE, Int.reduceGT, Int.reduceGE, Int.reduceEq, Int.reduceNeg]) | (refine condF_split (fun hc => ?_) (fun hc => ?_) <;> (try simp only [Bool.not_eq_true', Bool.not_eq_false', Bool.and_eq_true, Bool.or_eq_false_iff] at hc)) | refine callF_v (h _ (by (repeat (first | exact Sub.refl _ | (refine Sub.drop ?_ ?_; focus (simp only [evN, *]; done)) | refine Sub.both ?_)); done)) ?_ | refine callF_v (read64n _ _) ?_ | refine ccallF_of (h _ (by (repeat (first | exact Sub.refl _ | (refine Sub.drop ?_ ?_; focus (simp only [evN, *]; done)) | refine Sub.both ?_)); done)) ?_ | refine ccallF_of (read64n _ _) ?_ | refine gcallF_of (h _ (by (repeat (first | exact Sub.refl _ | (refine Sub.drop ?_ ?_; focus (simp only [evN, *]; done)) | refine Sub.both ?_)); done)) ?_ | refine gcallF_of (read64n _ _) ?_ | (intro _; intros) | (refine And.intro ?_ ?_; focus (first | omega | ((repeat (first | exact Sub.refl _ | (refine Sub.drop ?_ ?_; focus (simp only [evN, *]; done)) | refine Sub.both ?_)); done) | (simp_all; done) | (simp_all; omega)))))
  all_goals (refine endF_det ?_ ?_; (focus ((try simp only [noMsg, Msg.cells, cond_true, cond_false, *]) <;> ((try simp only [decide_eq_true_eq, decide_eq_false_iff_not] at *) <;> first | rfl | (simp [noMsg, Msg.cells]; done) | (simp_all [noMsg, Msg.cells]; done) | (simp [noMsg, Msg.cells]; omega) | (simp [noMsg, Msg.cells]; (rw [Bool.eq_iff_iff]); simp; omega) | (simp_all [noMsg, Msg.cells] <;> omega) | ((try unfold noMsg  Msg.cells); (rw [Value.bool.injEq, Bool.eq_iff_iff]); simp <;> omega) | ((try unfold noMsg  Msg.cells); (repeat' split) <;> simp_all <;> omega) | (simp_all [noMsg, Msg.cells] <;> (repeat' split) <;> simp_all <;> omega)))); (focus ((try simp only [noMsg, Msg.cells, cond_true, cond_false, set_same, *]); exact (by (repeat (first | exact Sub.refl _ | (refine Sub.drop ?_ ?_; focus (simp only [evN, *]; done)) | refine Sub.both ?_)); done))))
theorem retry42x {c : Value} {t r : Int} {σ : Hp} (h : NoT c t σ) (h2 : Rt c r σ) : ACalls Tryz.prog 25 #[c, .int .i64 t] σ fun u σ' => u = .tuple #[.agg noMsg.toArray, .int .i64 3] ∧ σ' = σ := by
  (refine acalls_F ok25 (by simp) ?_; unfold c25 r25)
  (repeat' (first | (simp +contextual -dsimp only [*, CliC, Msg.cells, noMsg, noView, ↓reduceIte, ↓evP, evQ, splice, Nat.reduceAdd, Nat.reduceEqDiff, Nat.reduceLeDiff, Nat.reduceMul, reduceCtorEq, Int.reduceLT, Int.reduceLE, Int.reduceGT, Int.reduceGE, Int.reduceEq, Int.reduceNeg]) | (refine condF_split (fun hc => ?_) (fun hc => ?_) <;> (try simp only [Bool.not_eq_true', Bool.not_eq_false', Bool.and_eq_true, Bool.or_eq_false_iff] at hc)) | refine callF_v (h _ (by (repeat (first | exact Sub.refl _ | (refine Sub.drop ?_ ?_; focus (simp only [evN, *]; done)) | refine Sub.both ?_)); done)) ?_ | refine callF_v (h2 _ (by (repeat (first | exact Sub.refl _ | (refine Sub.drop ?_ ?_; focus (simp only [evN, *]; done)) | refine Sub.both ?_)); done)) ?_ | refine callF_v (again69n _ _) ?_ | refine ccallF_of (h _ (by (repeat (first | exact Sub.refl _ | (refine Sub.drop ?_ ?_; focus (simp only [evN, *]; done)) | refine Sub.both ?_)); done)) ?_ | refine ccallF_of (h2 _ (by (repeat (first | exact Sub.refl _ | (refine Sub.drop ?_ ?_; focus (simp only [evN, *]; done)) | refine Sub.both ?_)); done)) ?_ | refine ccallF_of (again69n _ _) ?_ | refine gcallF_of (h _ (by (repeat (first | exact Sub.refl _ | (refine Sub.drop ?_ ?_; focus (simp only [evN, *]; done)) | refine Sub.both ?_)); done)) ?_ | refine gcallF_of (h2 _ (by (repeat (first | exact Sub.refl _ | (refine Sub.drop ?_ ?_; focus (simp only [evN, *]; done)) | refine Sub.both ?_)); done)) ?_ | refine gcallF_of (again69n _ _) ?_ | (intro _; intros) | (refine And.intro ?_ ?_; focus (first | omega | ((repeat (first | exact Sub.refl _ | (refine Sub.drop ?_ ?_; focus (simp only [evN, *]; done)) | refine Sub.both ?_)); done) | (simp_all; done) | (simp_all; omega)))))
  all_goals (refine endF_det ?_ ?_; (focus ((try simp only [noMsg, Msg.cells, cond_true, cond_false, *]) <;> ((try simp only [decide_eq_true_eq, decide_eq_false_iff_not] at *) <;> first | rfl | (simp [noMsg, Msg.cells]; done) | (simp_all [noMsg, Msg.cells]; done) | (simp [noMsg, Msg.cells]; omega) | (simp [noMsg, Msg.cells]; (rw [Bool.eq_iff_iff]); simp; omega) | (simp_all [noMsg, Msg.cells] <;> omega) | ((try unfold noMsg  Msg.cells); (rw [Value.bool.injEq, Bool.eq_iff_iff]); simp <;> omega) | ((try unfold noMsg  Msg.cells); (repeat' split) <;> simp_all <;> omega) | (simp_all [noMsg, Msg.cells] <;> (repeat' split) <;> simp_all <;> omega)))); (focus ((try simp only [noMsg, Msg.cells, cond_true, cond_false, set_same, *]); exact (by (repeat (first | exact Sub.refl _ | (refine Sub.drop ?_ ?_; focus (simp only [evN, *]; done)) | refine Sub.both ?_)); done))))
theorem finish36x {c : Value} {t : Int} {σ : Hp} (h : NoT c t σ) : ACalls Tryz.prog 19 #[c, .int .i64 t] σ fun u σ' => u = .tuple #[.int .i64 0, .int .i64 3] ∧ σ' = σ := by
  (refine acalls_F ok19 (by simp) ?_; unfold c19 r19)
  (repeat' (first | (simp +contextual -dsimp only [*, CliC, Msg.cells, noMsg, noView, ↓reduceIte, ↓evP, evQ, splice, Nat.reduceAdd, Nat.reduceEqDiff, Nat.reduceLeDiff, Nat.reduceMul, reduceCtorEq, Int.reduceLT, Int.reduceLE, Int.reduceGT, Int.reduceGE, Int.reduceEq, Int.reduceNeg]) | (refine condF_split (fun hc => ?_) (fun hc => ?_) <;> (try simp only [Bool.not_eq_true', Bool.not_eq_false', Bool.and_eq_true, Bool.or_eq_false_iff] at hc)) | refine callF_v (h _ (by (repeat (first | exact Sub.refl _ | (refine Sub.drop ?_ ?_; focus (simp only [evN, *]; done)) | refine Sub.both ?_)); done)) ?_ | refine callF_v (finish66n _) ?_ | refine ccallF_of (h _ (by (repeat (first | exact Sub.refl _ | (refine Sub.drop ?_ ?_; focus (simp only [evN, *]; done)) | refine Sub.both ?_)); done)) ?_ | refine ccallF_of (finish66n _) ?_ | refine gcallF_of (h _ (by (repeat (first | exact Sub.refl _ | (refine Sub.drop ?_ ?_; focus (simp only [evN, *]; done)) | refine Sub.both ?_)); done)) ?_ | refine gcallF_of (finish66n _) ?_ | (intro _; intros) | (refine And.intro ?_ ?_; focus (first | omega | ((repeat (first | exact Sub.refl _ | (refine Sub.drop ?_ ?_; focus (simp only [evN, *]; done)) | refine Sub.both ?_)); done) | (simp_all; done) | (simp_all; omega)))))
  all_goals (refine endF_det ?_ ?_; (focus ((try simp only [cond_true, cond_false, *]) <;> ((try simp only [decide_eq_true_eq, decide_eq_false_iff_not] at *) <;> first | rfl | (simp []; done) | (simp_all []; done) | (simp []; omega) | (simp []; (rw [Bool.eq_iff_iff]); simp; omega) | (simp_all [] <;> omega) | ((try unfold id); (rw [Value.bool.injEq, Bool.eq_iff_iff]); simp <;> omega) | ((try unfold id); (repeat' split) <;> simp_all <;> omega) | (simp_all [] <;> (repeat' split) <;> simp_all <;> omega)))); (focus ((try simp only [cond_true, cond_false, set_same, *]); exact (by (repeat (first | exact Sub.refl _ | (refine Sub.drop ?_ ?_; focus (simp only [evN, *]; done)) | refine Sub.both ?_)); done))))
theorem session37x {c : Value} {s : Int} {σ : Hp} (h : NoS c s σ) : ACalls Tryz.prog 30 #[c, .int .i64 s] σ fun u σ' => u = .tuple #[.agg noView.toArray, .bool false] ∧ σ' = σ := by
  (refine acalls_F ok30 (by simp) ?_; unfold c30 r30)
  (repeat' (first | (simp +contextual -dsimp only [*, CliC, Msg.cells, noMsg, noView, ↓reduceIte, ↓evP, evQ, splice, Nat.reduceAdd, Nat.reduceEqDiff, Nat.reduceLeDiff, Nat.reduceMul, reduceCtorEq, Int.reduceLT, Int.reduceLE, Int.reduceGT, Int.reduceGE, Int.reduceEq, Int.reduceNeg]) | (refine condF_split (fun hc => ?_) (fun hc => ?_) <;> (try simp only [Bool.not_eq_true', Bool.not_eq_false', Bool.and_eq_true, Bool.or_eq_false_iff] at hc)) | refine callF_v (h _ (by (repeat (first | exact Sub.refl _ | (refine Sub.drop ?_ ?_; focus (simp only [evN, *]; done)) | refine Sub.both ?_)); done)) ?_ | refine callF_v (view18n _) ?_ | refine ccallF_of (h _ (by (repeat (first | exact Sub.refl _ | (refine Sub.drop ?_ ?_; focus (simp only [evN, *]; done)) | refine Sub.both ?_)); done)) ?_ | refine ccallF_of (view18n _) ?_ | refine gcallF_of (h _ (by (repeat (first | exact Sub.refl _ | (refine Sub.drop ?_ ?_; focus (simp only [evN, *]; done)) | refine Sub.both ?_)); done)) ?_ | refine gcallF_of (view18n _) ?_ | (intro _; intros) | (refine And.intro ?_ ?_; focus (first | omega | ((repeat (first | exact Sub.refl _ | (refine Sub.drop ?_ ?_; focus (simp only [evN, *]; done)) | refine Sub.both ?_)); done) | (simp_all; done) | (simp_all; omega)))))
  all_goals (refine endF_det ?_ ?_; (focus ((try simp only [noView, cond_true, cond_false, *]) <;> ((try simp only [decide_eq_true_eq, decide_eq_false_iff_not] at *) <;> first | rfl | (simp [noView]; done) | (simp_all [noView]; done) | (simp [noView]; omega) | (simp [noView]; (rw [Bool.eq_iff_iff]); simp; omega) | (simp_all [noView] <;> omega) | ((try unfold noView); (rw [Value.bool.injEq, Bool.eq_iff_iff]); simp <;> omega) | ((try unfold noView); (repeat' split) <;> simp_all <;> omega) | (simp_all [noView] <;> (repeat' split) <;> simp_all <;> omega)))); (focus ((try simp only [noView, cond_true, cond_false, set_same, *]); exact (by (repeat (first | exact Sub.refl _ | (refine Sub.drop ?_ ?_; focus (simp only [evN, *]; done)) | refine Sub.both ?_)); done))))
def noTx : List Value := [.int .i64 0, .int .i64 0, .int .i64 0, .int .i64 0, .string ⟨#[]⟩, .int .i64 0, .int .i64 0, .slice none 0 0]
theorem tx33x {c : Value} {t : Int} {σ : Hp} (h : NoT c t σ) : ACalls Tryz.prog 32 #[c, .int .i64 t] σ fun u σ' => u = .tuple #[.agg noTx.toArray, .bool false] ∧ σ' = σ := by
  (refine acalls_F ok32 (by simp) ?_; unfold c32 r32)
  (repeat' (first | (simp +contextual -dsimp only [*, CliC, Msg.cells, noMsg, noView, ↓reduceIte, ↓evP, evQ, splice, Nat.reduceAdd, Nat.reduceEqDiff, Nat.reduceLeDiff, Nat.reduceMul, reduceCtorEq, Int.reduceLT, Int.reduceLE, Int.reduceGT, Int.reduceGE, Int.reduceEq, Int.reduceNeg]) | (refine condF_split (fun hc => ?_) (fun hc => ?_) <;> (try simp only [Bool.not_eq_true', Bool.not_eq_false', Bool.and_eq_true, Bool.or_eq_false_iff] at hc)) | refine callF_v (h _ (by (repeat (first | exact Sub.refl _ | (refine Sub.drop ?_ ?_; focus (simp only [evN, *]; done)) | refine Sub.both ?_)); done)) ?_ | refine ccallF_of (h _ (by (repeat (first | exact Sub.refl _ | (refine Sub.drop ?_ ?_; focus (simp only [evN, *]; done)) | refine Sub.both ?_)); done)) ?_ | refine gcallF_of (h _ (by (repeat (first | exact Sub.refl _ | (refine Sub.drop ?_ ?_; focus (simp only [evN, *]; done)) | refine Sub.both ?_)); done)) ?_ | (intro _; intros) | (refine And.intro ?_ ?_; focus (first | omega | ((repeat (first | exact Sub.refl _ | (refine Sub.drop ?_ ?_; focus (simp only [evN, *]; done)) | refine Sub.both ?_)); done) | (simp_all; done) | (simp_all; omega)))))
  refine drawxF_of (Sub.refl _) ?_
  (repeat' (first | (simp +contextual -dsimp only [*, CliC, Msg.cells, noMsg, noView, ↓reduceIte, ↓evP, evQ, splice, Nat.reduceAdd, Nat.reduceEqDiff, Nat.reduceLeDiff, Nat.reduceMul, reduceCtorEq, Int.reduceLT, Int.reduceLE, Int.reduceGT, Int.reduceGE, Int.reduceEq, Int.reduceNeg]) | (refine condF_split (fun hc => ?_) (fun hc => ?_) <;> (try simp only [Bool.not_eq_true', Bool.not_eq_false', Bool.and_eq_true, Bool.or_eq_false_iff] at hc)) | refine callF_v (view63n _) ?_ | refine ccallF_of (view63n _) ?_ | refine gcallF_of (view63n _) ?_ | (intro _; intros) | (refine And.intro ?_ ?_; focus (first | omega | ((repeat (first | exact Sub.refl _ | (refine Sub.drop ?_ ?_; focus (simp only [evN, *]; done)) | refine Sub.both ?_)); done) | (simp_all; done) | (simp_all; omega)))))
  all_goals (refine endF_det ?_ ?_; (focus ((try simp only [noTx, cond_true, cond_false, *]) <;> ((try simp only [decide_eq_true_eq, decide_eq_false_iff_not] at *) <;> first | rfl | (simp [noTx]; done) | (simp_all [noTx]; done) | (simp [noTx]; omega) | (simp [noTx]; (rw [Bool.eq_iff_iff]); simp; omega) | (simp_all [noTx] <;> omega) | ((try unfold noTx); (rw [Value.bool.injEq, Bool.eq_iff_iff]); simp <;> omega) | ((try unfold noTx); (repeat' split) <;> simp_all <;> omega) | (simp_all [noTx] <;> (repeat' split) <;> simp_all <;> omega)))); (focus ((try simp only [noTx, cond_true, cond_false, set_same, *]); exact (by (repeat (first | exact Sub.refl _ | (refine Sub.drop ?_ ?_; focus (simp only [evN, *]; done)) | refine Sub.both ?_)); done))))
theorem Sub.at {τ σ : Hp} {g : Nat} {o : Blk} (h : Sub τ σ) (hg : τ g = some o) : σ g = some o := (h g).elim (fun e => by rw [hg] at e; cases e) fun e => e.symm.trans hg
def newS (n : Int) : SesS := ⟨n, 0, false, 0, 0, 0, 0⟩
/-- What an opening leaves: the new session at k. -/
def Opened (σ : Hp) (g : Nat) (c : Cfg) (vs vt vh : Value) (gs : List Nat) (σ' : Hp) : Prop :=
  ∃ k vs', σ k = none ∧ σ' g = some (.cells (CliC c vs' vt vh) 67) ∧ RowsAt 92 1 gC σ' vs' (gs ++ [k]) ∧ σ' k = some (.cells ((newS gs.length).cells (.slice none 0 0)) 130) ∧
    Same (fun i => i = g ∨ blk vs = some i) σ σ' ∧ (∀ i, blk vs' = some i → blk vs = some i ∨ σ i = none)
theorem open31f {σ : Hp} {g : Nat} {c : Cfg} {vs vt vh : Value} {gs : List Nat} (hg : σ g = some (.cells (CliC c vs vt vh) 67)) (hr : RowsAt 92 1 gC σ vs gs) (hn : gs.length ≥ 64) :
    ACalls Tryz.prog 12 #[.pointer (some ⟨g, 0, none⟩)] σ fun u σ' => u = .tuple #[.int .i64 0, .int .i64 2] ∧ σ' = σ := by
  obtain ⟨a, k, rfl⟩ := hr.slice
  clear hr
  have h1 : decide ((gs.length : Int) ≥ 64) = true := by simp; omega
  (unfold CliC at hg; obtain ⟨τ, rfl⟩ := open_upd hg; clear hg)
  (refine acalls_F ok12 (by simp) ?_; unfold c12 r12)
  (repeat' (first | (simp +contextual -dsimp only [*, CliC, ↓reduceIte, ↓evP, evQ, splice, Nat.reduceAdd, Nat.reduceEqDiff, Nat.reduceLeDiff, Nat.reduceMul, reduceCtorEq, Int.reduceLT, Int.reduceLE, Int.reduceGT, Int.reduceGE, Int.reduceEq, Int.reduceNeg]) | (refine condF_split (fun hc => ?_) (fun hc => ?_) <;> (try simp only [Bool.not_eq_true', Bool.not_eq_false', Bool.and_eq_true, Bool.or_eq_false_iff] at hc)) | (intro _; intros) | (refine And.intro ?_ ?_; focus (first | omega | ((repeat (first | exact Sub.refl _ | (refine Sub.drop ?_ ?_; focus (simp only [evN, *]; done)) | refine Sub.both ?_)); done) | (simp_all; done) | (simp_all; omega)))))
  all_goals (refine endF_det ?_ ?_; (focus ((try simp only [cond_true, cond_false, *]) <;> ((try simp only [decide_eq_true_eq, decide_eq_false_iff_not] at *) <;> first | rfl | (simp []; done) | (simp_all []; done) | (simp []; omega) | (simp []; (rw [Bool.eq_iff_iff]); simp; omega) | (simp_all [] <;> omega) | ((try unfold id); (rw [Value.bool.injEq, Bool.eq_iff_iff]); simp <;> omega) | ((try unfold id); (repeat' split) <;> simp_all <;> omega) | (simp_all [] <;> (repeat' split) <;> simp_all <;> omega)))); (focus ((try simp only [cond_true, cond_false, set_same, *]); exact (by (repeat (first | exact Sub.refl _ | (refine Sub.drop ?_ ?_; focus (simp only [evN, *]; done)) | refine Sub.both ?_)); done))))
theorem gs_snoc (gs : List Nat) (k : Nat) : gs.flatMap gC ++ [.pointer (some ⟨k, 0, none⟩)] = (gs ++ [k]).flatMap gC := by simp [gC]
theorem open31 {σ : Hp} {g : Nat} {c : Cfg} {vs vt vh : Value} {gs : List Nat} (hg : σ g = some (.cells (CliC c vs vt vh) 67)) (hr : RowsAt 92 1 gC σ vs gs) (hn : gs.length < 64) :
    ACalls Tryz.prog 12 #[.pointer (some ⟨g, 0, none⟩)] σ fun u σ' => u = .tuple #[.int .i64 gs.length, .int .i64 0] ∧ Opened σ g c vs vt vh gs σ' := by
  have h1 : decide ((gs.length : Int) ≥ 64) = false := by simp; omega
  rcases hr with ⟨rfl, rfl⟩ | ⟨b, q, rfl, hk, hb⟩
  · (unfold CliC at hg; obtain ⟨τ, rfl⟩ := open_upd hg; clear hg)
    (refine acalls_F ok12 (by simp) ?_; unfold c12 r12)
    (repeat' (first | (simp +contextual -dsimp only [*, CliC, ↓reduceIte, ↓evP, evQ, splice, Nat.reduceAdd, Nat.reduceEqDiff, Nat.reduceLeDiff, Nat.reduceMul, reduceCtorEq, Int.reduceLT, Int.reduceLE, Int.reduceGT, Int.reduceGE, Int.reduceEq, Int.reduceNeg]) | (refine condF_split (fun hc => ?_) (fun hc => ?_) <;> (try simp only [Bool.not_eq_true', Bool.not_eq_false', Bool.and_eq_true, Bool.or_eq_false_iff] at hc)) | (intro _; intros) | (refine And.intro ?_ ?_; focus (first | omega | ((repeat (first | exact Sub.refl _ | (refine Sub.drop ?_ ?_; focus (simp only [evN, *]; done)) | refine Sub.both ?_)); done) | (simp_all; done) | (simp_all; omega)))))
    refine gcallF_first (new14 0 _) (fun u σ₁ h => ?_) ?_
    · obtain ⟨k, hk, _, rfl⟩ := h; exact Sub.drop hk (Sub.refl _)
    rintro u σ₁ ⟨k, hk0, rfl, rfl⟩
    simp only [none_upd] at hk0
    (repeat' (first | (simp +contextual -dsimp only [*, CliC, ↓reduceIte, ↓evP, evQ, splice, Nat.reduceAdd, Nat.reduceEqDiff, Nat.reduceLeDiff, Nat.reduceMul, reduceCtorEq, Int.reduceLT, Int.reduceLE, Int.reduceGT, Int.reduceGE, Int.reduceEq, Int.reduceNeg]) | (refine condF_split (fun hc => ?_) (fun hc => ?_) <;> (try simp only [Bool.not_eq_true', Bool.not_eq_false', Bool.and_eq_true, Bool.or_eq_false_iff] at hc)) | (intro _; intros) | (refine And.intro ?_ ?_; focus (first | omega | ((repeat (first | exact Sub.refl _ | (refine Sub.drop ?_ ?_; focus (simp only [evN, *]; done)) | refine Sub.both ?_)); done) | (simp_all; done) | (simp_all; omega)))))
    refine app_n (by first | (simp only [Nat.reduceMul, Nat.one_mul, Nat.zero_mul, rdn_row, rdn_same, rdn_ne, seg_zero, seg_cons, seg_skip, Option.map_some, not_false_eq_true, *]; done) | (simp only [Nat.reduceMul, Nat.one_mul, Nat.zero_mul, rdn_row, rdn_same, rdn_ne, seg_zero, seg_cons, seg_skip, Option.map_some, not_false_eq_true, *]; exact rfl)) rfl (by omega) (by omega) (by unfold maxLen; omega) ?_
    all_goals (try (repeat' (first | (simp +contextual -dsimp only [*, CliC, ↓reduceIte, ↓evP, evQ, splice, Nat.reduceAdd, Nat.reduceEqDiff, Nat.reduceLeDiff, Nat.reduceMul, reduceCtorEq, Int.reduceLT, Int.reduceLE, Int.reduceGT, Int.reduceGE, Int.reduceEq, Int.reduceNeg]) | (refine condF_split (fun hc => ?_) (fun hc => ?_) <;> (try simp only [Bool.not_eq_true', Bool.not_eq_false', Bool.and_eq_true, Bool.or_eq_false_iff] at hc)) | (intro _; intros) | (refine And.intro ?_ ?_; focus (first | omega | ((repeat (first | exact Sub.refl _ | (refine Sub.drop ?_ ?_; focus (simp only [evN, *]; done)) | refine Sub.both ?_)); done) | (simp_all; done) | (simp_all; omega))))))
    all_goals (refine endF_at ⟨rfl, k, .slice (some ⟨_, 0, none⟩) 1 _, (by simp only [evN, *]; done), (by first | (simp only [upd_at, *, ↓reduceIte]; done) | (simp only [upd_at, *, ↓reduceIte]; rfl)), rows_mk (by simp) (by assumption) (by first | (simp only [upd_at, *, ↓reduceIte]; done) | (simp only [upd_at, *, ↓reduceIte]; rfl)), (by first | (simp only [upd_at, *, ↓reduceIte]; done) | (simp only [upd_at, *, ↓reduceIte]; rfl)), (by repeat (first | exact Same.refl _ _ | (refine Same.updNew ?_ ?_; focus (simp only [evN, *]; done)) | (refine Same.both ?_ ?_; focus (first | exact rfl | exact .inl rfl | exact .inr rfl)) | (refine Same.updIn ?_ ?_; focus (first | exact rfl | exact .inl rfl | exact .inr rfl)) | refine Same.eq ?_)), ?_⟩)
    all_goals (intro i hi; cases hi; first | exact .inl rfl | exact .inr (by simp only [evN, *]; done))
  · unfold CliC at hg
    obtain ⟨τ, rfl, hne1, hne2⟩ := open_two hg hb (by simp)
    clear hg hb
    (refine acalls_F ok12 (by simp) ?_; unfold c12 r12)
    (repeat' (first | (simp +contextual -dsimp only [*, CliC, ↓reduceIte, ↓evP, evQ, splice, Nat.reduceAdd, Nat.reduceEqDiff, Nat.reduceLeDiff, Nat.reduceMul, reduceCtorEq, Int.reduceLT, Int.reduceLE, Int.reduceGT, Int.reduceGE, Int.reduceEq, Int.reduceNeg]) | (refine condF_split (fun hc => ?_) (fun hc => ?_) <;> (try simp only [Bool.not_eq_true', Bool.not_eq_false', Bool.and_eq_true, Bool.or_eq_false_iff] at hc)) | (intro _; intros) | (refine And.intro ?_ ?_; focus (first | omega | ((repeat (first | exact Sub.refl _ | (refine Sub.drop ?_ ?_; focus (simp only [evN, *]; done)) | refine Sub.both ?_)); done) | (simp_all; done) | (simp_all; omega)))))
    refine gcallF_first (new14 gs.length _) (fun u σ₁ h => ?_) ?_
    · obtain ⟨k, hk, _, rfl⟩ := h; exact Sub.drop hk (Sub.refl _)
    rintro u σ₁ ⟨k, hk0, rfl, rfl⟩
    simp only [none_upd] at hk0
    (repeat' (first | (simp +contextual -dsimp only [*, CliC, ↓reduceIte, ↓evP, evQ, splice, Nat.reduceAdd, Nat.reduceEqDiff, Nat.reduceLeDiff, Nat.reduceMul, reduceCtorEq, Int.reduceLT, Int.reduceLE, Int.reduceGT, Int.reduceGE, Int.reduceEq, Int.reduceNeg]) | (refine condF_split (fun hc => ?_) (fun hc => ?_) <;> (try simp only [Bool.not_eq_true', Bool.not_eq_false', Bool.and_eq_true, Bool.or_eq_false_iff] at hc)) | (intro _; intros) | (refine And.intro ?_ ?_; focus (first | omega | ((repeat (first | exact Sub.refl _ | (refine Sub.drop ?_ ?_; focus (simp only [evN, *]; done)) | refine Sub.both ?_)); done) | (simp_all; done) | (simp_all; omega)))))
    refine app_b (by first | (simp only [Nat.reduceMul, Nat.one_mul, Nat.zero_mul, rdn_row, rdn_same, rdn_ne, seg_zero, seg_cons, seg_skip, Option.map_some, not_false_eq_true, *]; done) | (simp only [Nat.reduceMul, Nat.one_mul, Nat.zero_mul, rdn_row, rdn_same, rdn_ne, seg_zero, seg_cons, seg_skip, Option.map_some, not_false_eq_true, *]; exact rfl)) rfl (by simp only [upd_at, *, ↓reduceIte]) (flat_len gC_len _) (by omega) (by omega) (by unfold maxLen; omega) ?_ ?_
    all_goals rw [gs_snoc]
    all_goals (repeat' (first | (simp +contextual -dsimp only [*, CliC, ↓reduceIte, ↓evP, evQ, splice, Nat.reduceAdd, Nat.reduceEqDiff, Nat.reduceLeDiff, Nat.reduceMul, reduceCtorEq, Int.reduceLT, Int.reduceLE, Int.reduceGT, Int.reduceGE, Int.reduceEq, Int.reduceNeg]) | (refine condF_split (fun hc => ?_) (fun hc => ?_) <;> (try simp only [Bool.not_eq_true', Bool.not_eq_false', Bool.and_eq_true, Bool.or_eq_false_iff] at hc)) | (intro _; intros) | (refine And.intro ?_ ?_; focus (first | omega | ((repeat (first | exact Sub.refl _ | (refine Sub.drop ?_ ?_; focus (simp only [evN, *]; done)) | refine Sub.both ?_)); done) | (simp_all; done) | (simp_all; omega)))))
    all_goals (refine endF_at ⟨rfl, k, .slice (some ⟨_, 0, none⟩) (gs.length + 1) _, (by simp only [evN, *]; done), (by first | (simp only [upd_at, *, ↓reduceIte]; done) | (simp only [upd_at, *, ↓reduceIte]; rfl)), rows_mk (by simp) (by assumption) (by first | (simp only [upd_at, *, ↓reduceIte]; done) | (simp only [upd_at, *, ↓reduceIte]; rfl)), (by first | (simp only [upd_at, *, ↓reduceIte]; done) | (simp only [upd_at, *, ↓reduceIte]; rfl)), (by repeat (first | exact Same.refl _ _ | (refine Same.updNew ?_ ?_; focus (simp only [evN, *]; done)) | (refine Same.both ?_ ?_; focus (first | exact rfl | exact .inl rfl | exact .inr rfl)) | (refine Same.updIn ?_ ?_; focus (first | exact rfl | exact .inl rfl | exact .inr rfl)) | refine Same.eq ?_)), ?_⟩)
    all_goals (intro i hi; cases hi; first | exact .inl rfl | exact .inr (by simp only [evN, *]; done))
theorem begin32f {σ : Hp} {g : Nat} {c : Cfg} {vs vt vh : Value} {gs : List Nat} {ts : List (Nat × Nat)} (hg : σ g = some (.cells (CliC c vs vt vh) 67)) (hr : RowsAt 92 1 gC σ vs gs) (ht : RowsAt 96 2 rC σ vt ts) {i k : Nat} (hx : gs[i]? = some k) (hn : ts.length ≥ 256) :
    ACalls Tryz.prog 18 #[.pointer (some ⟨g, 0, none⟩), .int .i64 i] σ fun u σ' => u = .tuple #[.int .i64 0, .int .i64 2] ∧ σ' = σ := by
  have h60 := Hid.mk (session60i hg hr hx)
  obtain ⟨a, q, rfl⟩ := ht.slice
  clear hr ht hx
  have h1 : decide ((ts.length : Int) ≥ 256) = true := by simp; omega
  (unfold CliC at hg; obtain ⟨τ, rfl⟩ := open_upd hg; clear hg)
  (refine acalls_F ok18 (by simp) ?_; unfold c18 r18)
  (repeat' (first | (simp +contextual -dsimp only [*, CliC, ↓reduceIte, ↓evP, evQ, splice, Nat.reduceAdd, Nat.reduceEqDiff, Nat.reduceLeDiff, Nat.reduceMul, reduceCtorEq, Int.reduceLT, Int.reduceLE, Int.reduceGT, Int.reduceGE, Int.reduceEq, Int.reduceNeg]) | (refine condF_split (fun hc => ?_) (fun hc => ?_) <;> (try simp only [Bool.not_eq_true', Bool.not_eq_false', Bool.and_eq_true, Bool.or_eq_false_iff] at hc)) | refine callF_v (h60.out) ?_ | refine ccallF_of (h60.out) ?_ | refine gcallF_of (h60.out) ?_ | (intro _; intros) | (refine And.intro ?_ ?_; focus (first | omega | ((repeat (first | exact Sub.refl _ | (refine Sub.drop ?_ ?_; focus (simp only [evN, *]; done)) | refine Sub.both ?_)); done) | (simp_all; done) | (simp_all; omega)))))
  all_goals (refine endF_det ?_ ?_; (focus ((try simp only [cond_true, cond_false, *]) <;> ((try simp only [decide_eq_true_eq, decide_eq_false_iff_not] at *) <;> first | rfl | (simp []; done) | (simp_all []; done) | (simp []; omega) | (simp []; (rw [Bool.eq_iff_iff]); simp; omega) | (simp_all [] <;> omega) | ((try unfold id); (rw [Value.bool.injEq, Bool.eq_iff_iff]); simp <;> omega) | ((try unfold id); (repeat' split) <;> simp_all <;> omega) | (simp_all [] <;> (repeat' split) <;> simp_all <;> omega)))); (focus ((try simp only [cond_true, cond_false, set_same, *]); exact (by (repeat (first | exact Sub.refl _ | (refine Sub.drop ?_ ?_; focus (simp only [evN, *]; done)) | refine Sub.both ?_)); done))))
/-- What a beginning leaves: the new transaction at k. -/
def Begun (σ : Hp) (g : Nat) (c : Cfg) (vs vt vh : Value) (ts : List (Nat × Nat)) (hs : List Int) (k : Nat) (i : Int) (floor : Int) (σ' : Hp) : Prop :=
  ∃ t vt' vh', σ t = none ∧ σ' g = some (.cells (CliC c vs vt' vh') 67) ∧ RowsAt 96 2 rC σ' vt' (ts ++ [(t, k)]) ∧ RowsAt 3 1 iC σ' vh' (hs ++ [i]) ∧ σ' t = some (.cells ((newT ts.length c.nodes floor).cells (.slice none 0 0)) 133) ∧
    Same (fun j => j = g ∨ blk vt = some j ∨ blk vh = some j) σ σ' ∧ (∀ j, blk vt' = some j → blk vt = some j ∨ σ j = none) ∧ (∀ j, blk vh' = some j → blk vh = some j ∨ σ j = none)
theorem ts_snoc (ts : List (Nat × Nat)) (t k : Nat) : ts.flatMap rC ++ [.pointer (some ⟨t, 0, none⟩), .pointer (some ⟨k, 0, none⟩)] = (ts ++ [(t, k)]).flatMap rC := by simp [rC]
theorem hs_snoc (hs : List Int) (i : Int) : hs.flatMap iC ++ [.int .i64 i] = (hs ++ [i]).flatMap iC := by simp [iC]
set_option maxHeartbeats 1000000 in
theorem begin32 {σ : Hp} {g : Nat} {c : Cfg} {vs vt vh : Value} {gs : List Nat} {ts : List (Nat × Nat)} {hs : List Int} {S : SesS} {v : Value} (hg : σ g = some (.cells (CliC c vs vt vh) 67)) (hr : RowsAt 92 1 gC σ vs gs) (ht : RowsAt 96 2 rC σ vt ts) (hh : RowsAt 3 1 iC σ vh hs)
    {i k : Nat} (hx : gs[i]? = some k) (hk : σ k = some (.cells (S.cells v) 130)) (hn : ts.length < 256) (hm : hs.length < 256) :
    ACalls Tryz.prog 18 #[.pointer (some ⟨g, 0, none⟩), .int .i64 i] σ fun u σ' => u = .tuple #[.int .i64 ts.length, .int .i64 0] ∧ Begun σ g c vs vt vh ts hs k i S.floor σ' := by
  have h60 := Hid.mk (session60i hg hr hx)
  have h26 := Hid.mk (floor26 hk)
  have h1 : decide ((ts.length : Int) ≥ 256) = false := by simp; omega
  have hgk : ¬ g = k := fun e => by subst e; exact absurd (Blk.cells.inj (Option.some.inj (hg.symm.trans hk))).2 (by decide)
  have hk0 : σ k ≠ none := by rw [hk]; simp
  clear hr hx hk
  unfold CliC at hg
  rcases ht with ⟨rfl, rfl⟩ | ⟨b, q, rfl, hq, hb⟩ <;> rcases hh with ⟨rfl, rfl⟩ | ⟨d, r, rfl, hr, hd⟩
  · obtain ⟨τ, rfl⟩ := open_upd hg
    clear hg
    (refine acalls_F ok18 (by simp) ?_; unfold c18 r18)
    (repeat' (first | (simp +contextual -dsimp only [*, CliC, ↓reduceIte, ↓evP, evQ, splice, Nat.reduceAdd, Nat.reduceEqDiff, Nat.reduceLeDiff, Nat.reduceMul, reduceCtorEq, Int.reduceLT, Int.reduceLE, Int.reduceGT, Int.reduceGE, Int.reduceEq, Int.reduceNeg]) | (refine condF_split (fun hc => ?_) (fun hc => ?_) <;> (try simp only [Bool.not_eq_true', Bool.not_eq_false', Bool.and_eq_true, Bool.or_eq_false_iff] at hc)) | refine callF_v (h60.out) ?_ | refine callF_v (h26.out) ?_ | refine ccallF_of (h60.out) ?_ | refine ccallF_of (h26.out) ?_ | refine gcallF_of (h60.out) ?_ | refine gcallF_of (h26.out) ?_ | (intro _; intros) | (refine And.intro ?_ ?_; focus (first | omega | ((repeat (first | exact Sub.refl _ | (refine Sub.drop ?_ ?_; focus (simp only [evN, *]; done)) | refine Sub.both ?_)); done) | (simp_all; done) | (simp_all; omega)))))
    refine gcallF_first (new61 _ _ _ _) (fun u σ₁ h => ?_) ?_
    · obtain ⟨t, ht, _, rfl⟩ := h; exact Sub.drop ht (Sub.refl _)
    rintro u σ₁ ⟨t, ht0, rfl, rfl⟩
    clear h60 h26
    simp only [none_upd] at ht0
    (repeat' (first | (simp +contextual -dsimp only [*, CliC, ↓reduceIte, ↓evP, evQ, splice, Nat.reduceAdd, Nat.reduceEqDiff, Nat.reduceLeDiff, Nat.reduceMul, reduceCtorEq, Int.reduceLT, Int.reduceLE, Int.reduceGT, Int.reduceGE, Int.reduceEq, Int.reduceNeg]) | (refine condF_split (fun hc => ?_) (fun hc => ?_) <;> (try simp only [Bool.not_eq_true', Bool.not_eq_false', Bool.and_eq_true, Bool.or_eq_false_iff] at hc)) | (intro _; intros) | (refine And.intro ?_ ?_; focus (first | omega | ((repeat (first | exact Sub.refl _ | (refine Sub.drop ?_ ?_; focus (simp only [evN, *]; done)) | refine Sub.both ?_)); done) | (simp_all; done) | (simp_all; omega)))))
    refine app_n (by first | (simp only [Nat.reduceMul, Nat.one_mul, Nat.zero_mul, rdn_row, rdn_same, rdn_ne, seg_zero, seg_cons, seg_skip, Option.map_some, not_false_eq_true, *]; done) | (simp only [Nat.reduceMul, Nat.one_mul, Nat.zero_mul, rdn_row, rdn_same, rdn_ne, seg_zero, seg_cons, seg_skip, Option.map_some, not_false_eq_true, *]; exact rfl)) rfl (by omega) (by omega) (by unfold maxLen; omega) ?_
    (repeat' (first | (simp +contextual -dsimp only [*, CliC, ↓reduceIte, ↓evP, evQ, splice, Nat.reduceAdd, Nat.reduceEqDiff, Nat.reduceLeDiff, Nat.reduceMul, reduceCtorEq, Int.reduceLT, Int.reduceLE, Int.reduceGT, Int.reduceGE, Int.reduceEq, Int.reduceNeg]) | (refine condF_split (fun hc => ?_) (fun hc => ?_) <;> (try simp only [Bool.not_eq_true', Bool.not_eq_false', Bool.and_eq_true, Bool.or_eq_false_iff] at hc)) | (intro _; intros) | (refine And.intro ?_ ?_; focus (first | omega | ((repeat (first | exact Sub.refl _ | (refine Sub.drop ?_ ?_; focus (simp only [evN, *]; done)) | refine Sub.both ?_)); done) | (simp_all; done) | (simp_all; omega)))))
    all_goals (refine app_n (by first | (simp only [Nat.reduceMul, Nat.one_mul, Nat.zero_mul, rdn_row, rdn_same, rdn_ne, seg_zero, seg_cons, seg_skip, Option.map_some, not_false_eq_true, *]; done) | (simp only [Nat.reduceMul, Nat.one_mul, Nat.zero_mul, rdn_row, rdn_same, rdn_ne, seg_zero, seg_cons, seg_skip, Option.map_some, not_false_eq_true, *]; exact rfl)) rfl (by omega) (by omega) (by unfold maxLen; omega) ?_)
    all_goals (repeat' (first | (simp +contextual -dsimp only [*, CliC, ↓reduceIte, ↓evP, evQ, splice, Nat.reduceAdd, Nat.reduceEqDiff, Nat.reduceLeDiff, Nat.reduceMul, reduceCtorEq, Int.reduceLT, Int.reduceLE, Int.reduceGT, Int.reduceGE, Int.reduceEq, Int.reduceNeg]) | (refine condF_split (fun hc => ?_) (fun hc => ?_) <;> (try simp only [Bool.not_eq_true', Bool.not_eq_false', Bool.and_eq_true, Bool.or_eq_false_iff] at hc)) | (intro _; intros) | (refine And.intro ?_ ?_; focus (first | omega | ((repeat (first | exact Sub.refl _ | (refine Sub.drop ?_ ?_; focus (simp only [evN, *]; done)) | refine Sub.both ?_)); done) | (simp_all; done) | (simp_all; omega)))))
    all_goals (refine endF_at ⟨rfl, t, .slice (some ⟨_, 0, none⟩) 1 _, .slice (some ⟨_, 0, none⟩) 1 _, (by simp only [evN, *]; done), (by first | (simp only [upd_at, *, ↓reduceIte]; done) | (simp only [upd_at, *, ↓reduceIte]; rfl)), rows_mk (by simp) (by assumption) (by first | (simp only [upd_at, *, ↓reduceIte]; done) | (simp only [upd_at, *, ↓reduceIte]; rfl)), rows_mk (by simp) (by assumption) (by first | (simp only [upd_at, *, ↓reduceIte]; done) | (simp only [upd_at, *, ↓reduceIte]; rfl)), (by first | (simp only [upd_at, *, ↓reduceIte]; done) | (simp only [upd_at, *, ↓reduceIte]; rfl)), (by repeat (first | exact Same.refl _ _ | (refine Same.updNew ?_ ?_; focus (simp only [evN, *]; done)) | (refine Same.both ?_ ?_; focus (first | exact rfl | exact .inl rfl | exact .inr rfl | exact .inr (.inl rfl) | exact .inr (.inr rfl) | exact .inr (.inr (.inl rfl)) | exact .inr (.inr (.inr rfl)))) | (refine Same.updIn ?_ ?_; focus (first | exact rfl | exact .inl rfl | exact .inr rfl | exact .inr (.inl rfl) | exact .inr (.inr rfl) | exact .inr (.inr (.inl rfl)) | exact .inr (.inr (.inr rfl)))) | refine Same.eq ?_)), ?_, ?_⟩)
    all_goals (intro j hj; cases hj; first | exact .inl rfl | exact .inr (by simp only [evN, *]; done))
  · obtain ⟨τ, rfl, e1, e2⟩ := open_two hg hd (by simp)
    clear hg hd
    (refine acalls_F ok18 (by simp) ?_; unfold c18 r18)
    (repeat' (first | (simp +contextual -dsimp only [*, CliC, ↓reduceIte, ↓evP, evQ, splice, Nat.reduceAdd, Nat.reduceEqDiff, Nat.reduceLeDiff, Nat.reduceMul, reduceCtorEq, Int.reduceLT, Int.reduceLE, Int.reduceGT, Int.reduceGE, Int.reduceEq, Int.reduceNeg]) | (refine condF_split (fun hc => ?_) (fun hc => ?_) <;> (try simp only [Bool.not_eq_true', Bool.not_eq_false', Bool.and_eq_true, Bool.or_eq_false_iff] at hc)) | refine callF_v (h60.out) ?_ | refine callF_v (h26.out) ?_ | refine ccallF_of (h60.out) ?_ | refine ccallF_of (h26.out) ?_ | refine gcallF_of (h60.out) ?_ | refine gcallF_of (h26.out) ?_ | (intro _; intros) | (refine And.intro ?_ ?_; focus (first | omega | ((repeat (first | exact Sub.refl _ | (refine Sub.drop ?_ ?_; focus (simp only [evN, *]; done)) | refine Sub.both ?_)); done) | (simp_all; done) | (simp_all; omega)))))
    refine gcallF_first (new61 _ _ _ _) (fun u σ₁ h => ?_) ?_
    · obtain ⟨t, ht, _, rfl⟩ := h; exact Sub.drop ht (Sub.refl _)
    rintro u σ₁ ⟨t, ht0, rfl, rfl⟩
    clear h60 h26
    simp only [none_upd] at ht0
    (repeat' (first | (simp +contextual -dsimp only [*, CliC, ↓reduceIte, ↓evP, evQ, splice, Nat.reduceAdd, Nat.reduceEqDiff, Nat.reduceLeDiff, Nat.reduceMul, reduceCtorEq, Int.reduceLT, Int.reduceLE, Int.reduceGT, Int.reduceGE, Int.reduceEq, Int.reduceNeg]) | (refine condF_split (fun hc => ?_) (fun hc => ?_) <;> (try simp only [Bool.not_eq_true', Bool.not_eq_false', Bool.and_eq_true, Bool.or_eq_false_iff] at hc)) | (intro _; intros) | (refine And.intro ?_ ?_; focus (first | omega | ((repeat (first | exact Sub.refl _ | (refine Sub.drop ?_ ?_; focus (simp only [evN, *]; done)) | refine Sub.both ?_)); done) | (simp_all; done) | (simp_all; omega)))))
    refine app_n (by first | (simp only [Nat.reduceMul, Nat.one_mul, Nat.zero_mul, rdn_row, rdn_same, rdn_ne, seg_zero, seg_cons, seg_skip, Option.map_some, not_false_eq_true, *]; done) | (simp only [Nat.reduceMul, Nat.one_mul, Nat.zero_mul, rdn_row, rdn_same, rdn_ne, seg_zero, seg_cons, seg_skip, Option.map_some, not_false_eq_true, *]; exact rfl)) rfl (by omega) (by omega) (by unfold maxLen; omega) ?_
    (repeat' (first | (simp +contextual -dsimp only [*, CliC, ↓reduceIte, ↓evP, evQ, splice, Nat.reduceAdd, Nat.reduceEqDiff, Nat.reduceLeDiff, Nat.reduceMul, reduceCtorEq, Int.reduceLT, Int.reduceLE, Int.reduceGT, Int.reduceGE, Int.reduceEq, Int.reduceNeg]) | (refine condF_split (fun hc => ?_) (fun hc => ?_) <;> (try simp only [Bool.not_eq_true', Bool.not_eq_false', Bool.and_eq_true, Bool.or_eq_false_iff] at hc)) | (intro _; intros) | (refine And.intro ?_ ?_; focus (first | omega | ((repeat (first | exact Sub.refl _ | (refine Sub.drop ?_ ?_; focus (simp only [evN, *]; done)) | refine Sub.both ?_)); done) | (simp_all; done) | (simp_all; omega)))))
    all_goals (refine app_b (by first | (simp only [Nat.reduceMul, Nat.one_mul, Nat.zero_mul, rdn_row, rdn_same, rdn_ne, seg_zero, seg_cons, seg_skip, Option.map_some, not_false_eq_true, *]; done) | (simp only [Nat.reduceMul, Nat.one_mul, Nat.zero_mul, rdn_row, rdn_same, rdn_ne, seg_zero, seg_cons, seg_skip, Option.map_some, not_false_eq_true, *]; exact rfl)) rfl (by simp only [upd_at, *, ↓reduceIte]) (flat_len iC_len _) (by omega) (by omega) (by unfold maxLen; omega) ?_ ?_)
    all_goals rw [hs_snoc]
    all_goals (repeat' (first | (simp +contextual -dsimp only [*, CliC, ↓reduceIte, ↓evP, evQ, splice, Nat.reduceAdd, Nat.reduceEqDiff, Nat.reduceLeDiff, Nat.reduceMul, reduceCtorEq, Int.reduceLT, Int.reduceLE, Int.reduceGT, Int.reduceGE, Int.reduceEq, Int.reduceNeg]) | (refine condF_split (fun hc => ?_) (fun hc => ?_) <;> (try simp only [Bool.not_eq_true', Bool.not_eq_false', Bool.and_eq_true, Bool.or_eq_false_iff] at hc)) | (intro _; intros) | (refine And.intro ?_ ?_; focus (first | omega | ((repeat (first | exact Sub.refl _ | (refine Sub.drop ?_ ?_; focus (simp only [evN, *]; done)) | refine Sub.both ?_)); done) | (simp_all; done) | (simp_all; omega)))))
    all_goals (refine endF_at ⟨rfl, t, .slice (some ⟨_, 0, none⟩) 1 _, .slice (some ⟨_, 0, none⟩) (hs.length + 1) _, (by simp only [evN, *]; done), (by first | (simp only [upd_at, *, ↓reduceIte]; done) | (simp only [upd_at, *, ↓reduceIte]; rfl)), rows_mk (by simp) (by assumption) (by first | (simp only [upd_at, *, ↓reduceIte]; done) | (simp only [upd_at, *, ↓reduceIte]; rfl)), rows_mk (by simp) (by assumption) (by first | (simp only [upd_at, *, ↓reduceIte]; done) | (simp only [upd_at, *, ↓reduceIte]; rfl)), (by first | (simp only [upd_at, *, ↓reduceIte]; done) | (simp only [upd_at, *, ↓reduceIte]; rfl)), (by repeat (first | exact Same.refl _ _ | (refine Same.updNew ?_ ?_; focus (simp only [evN, *]; done)) | (refine Same.both ?_ ?_; focus (first | exact rfl | exact .inl rfl | exact .inr rfl | exact .inr (.inl rfl) | exact .inr (.inr rfl) | exact .inr (.inr (.inl rfl)) | exact .inr (.inr (.inr rfl)))) | (refine Same.updIn ?_ ?_; focus (first | exact rfl | exact .inl rfl | exact .inr rfl | exact .inr (.inl rfl) | exact .inr (.inr rfl) | exact .inr (.inr (.inl rfl)) | exact .inr (.inr (.inr rfl)))) | refine Same.eq ?_)), ?_, ?_⟩)
    all_goals (intro j hj; cases hj; first | exact .inl rfl | exact .inr (by simp only [evN, *]; done))
  · obtain ⟨τ, rfl, e1, e2⟩ := open_two hg hb (by simp)
    clear hg hb
    (refine acalls_F ok18 (by simp) ?_; unfold c18 r18)
    (repeat' (first | (simp +contextual -dsimp only [*, CliC, ↓reduceIte, ↓evP, evQ, splice, Nat.reduceAdd, Nat.reduceEqDiff, Nat.reduceLeDiff, Nat.reduceMul, reduceCtorEq, Int.reduceLT, Int.reduceLE, Int.reduceGT, Int.reduceGE, Int.reduceEq, Int.reduceNeg]) | (refine condF_split (fun hc => ?_) (fun hc => ?_) <;> (try simp only [Bool.not_eq_true', Bool.not_eq_false', Bool.and_eq_true, Bool.or_eq_false_iff] at hc)) | refine callF_v (h60.out) ?_ | refine callF_v (h26.out) ?_ | refine ccallF_of (h60.out) ?_ | refine ccallF_of (h26.out) ?_ | refine gcallF_of (h60.out) ?_ | refine gcallF_of (h26.out) ?_ | (intro _; intros) | (refine And.intro ?_ ?_; focus (first | omega | ((repeat (first | exact Sub.refl _ | (refine Sub.drop ?_ ?_; focus (simp only [evN, *]; done)) | refine Sub.both ?_)); done) | (simp_all; done) | (simp_all; omega)))))
    refine gcallF_first (new61 _ _ _ _) (fun u σ₁ h => ?_) ?_
    · obtain ⟨t, ht, _, rfl⟩ := h; exact Sub.drop ht (Sub.refl _)
    rintro u σ₁ ⟨t, ht0, rfl, rfl⟩
    clear h60 h26
    simp only [none_upd] at ht0
    (repeat' (first | (simp +contextual -dsimp only [*, CliC, ↓reduceIte, ↓evP, evQ, splice, Nat.reduceAdd, Nat.reduceEqDiff, Nat.reduceLeDiff, Nat.reduceMul, reduceCtorEq, Int.reduceLT, Int.reduceLE, Int.reduceGT, Int.reduceGE, Int.reduceEq, Int.reduceNeg]) | (refine condF_split (fun hc => ?_) (fun hc => ?_) <;> (try simp only [Bool.not_eq_true', Bool.not_eq_false', Bool.and_eq_true, Bool.or_eq_false_iff] at hc)) | (intro _; intros) | (refine And.intro ?_ ?_; focus (first | omega | ((repeat (first | exact Sub.refl _ | (refine Sub.drop ?_ ?_; focus (simp only [evN, *]; done)) | refine Sub.both ?_)); done) | (simp_all; done) | (simp_all; omega)))))
    refine app_b (by first | (simp only [Nat.reduceMul, Nat.one_mul, Nat.zero_mul, rdn_row, rdn_same, rdn_ne, seg_zero, seg_cons, seg_skip, Option.map_some, not_false_eq_true, *]; done) | (simp only [Nat.reduceMul, Nat.one_mul, Nat.zero_mul, rdn_row, rdn_same, rdn_ne, seg_zero, seg_cons, seg_skip, Option.map_some, not_false_eq_true, *]; exact rfl)) rfl (by simp only [upd_at, *, ↓reduceIte]) (flat_len rC_len _) (by omega) (by omega) (by unfold maxLen; omega) ?_ ?_
    all_goals rw [ts_snoc]
    all_goals (repeat' (first | (simp +contextual -dsimp only [*, CliC, ↓reduceIte, ↓evP, evQ, splice, Nat.reduceAdd, Nat.reduceEqDiff, Nat.reduceLeDiff, Nat.reduceMul, reduceCtorEq, Int.reduceLT, Int.reduceLE, Int.reduceGT, Int.reduceGE, Int.reduceEq, Int.reduceNeg]) | (refine condF_split (fun hc => ?_) (fun hc => ?_) <;> (try simp only [Bool.not_eq_true', Bool.not_eq_false', Bool.and_eq_true, Bool.or_eq_false_iff] at hc)) | (intro _; intros) | (refine And.intro ?_ ?_; focus (first | omega | ((repeat (first | exact Sub.refl _ | (refine Sub.drop ?_ ?_; focus (simp only [evN, *]; done)) | refine Sub.both ?_)); done) | (simp_all; done) | (simp_all; omega)))))
    all_goals (refine app_n (by first | (simp only [Nat.reduceMul, Nat.one_mul, Nat.zero_mul, rdn_row, rdn_same, rdn_ne, seg_zero, seg_cons, seg_skip, Option.map_some, not_false_eq_true, *]; done) | (simp only [Nat.reduceMul, Nat.one_mul, Nat.zero_mul, rdn_row, rdn_same, rdn_ne, seg_zero, seg_cons, seg_skip, Option.map_some, not_false_eq_true, *]; exact rfl)) rfl (by omega) (by omega) (by unfold maxLen; omega) ?_)
    all_goals (repeat' (first | (simp +contextual -dsimp only [*, CliC, ↓reduceIte, ↓evP, evQ, splice, Nat.reduceAdd, Nat.reduceEqDiff, Nat.reduceLeDiff, Nat.reduceMul, reduceCtorEq, Int.reduceLT, Int.reduceLE, Int.reduceGT, Int.reduceGE, Int.reduceEq, Int.reduceNeg]) | (refine condF_split (fun hc => ?_) (fun hc => ?_) <;> (try simp only [Bool.not_eq_true', Bool.not_eq_false', Bool.and_eq_true, Bool.or_eq_false_iff] at hc)) | (intro _; intros) | (refine And.intro ?_ ?_; focus (first | omega | ((repeat (first | exact Sub.refl _ | (refine Sub.drop ?_ ?_; focus (simp only [evN, *]; done)) | refine Sub.both ?_)); done) | (simp_all; done) | (simp_all; omega)))))
    all_goals (refine endF_at ⟨rfl, t, .slice (some ⟨_, 0, none⟩) (ts.length + 1) _, .slice (some ⟨_, 0, none⟩) 1 _, (by simp only [evN, *]; done), (by first | (simp only [upd_at, *, ↓reduceIte]; done) | (simp only [upd_at, *, ↓reduceIte]; rfl)), rows_mk (by simp) (by assumption) (by first | (simp only [upd_at, *, ↓reduceIte]; done) | (simp only [upd_at, *, ↓reduceIte]; rfl)), rows_mk (by simp) (by assumption) (by first | (simp only [upd_at, *, ↓reduceIte]; done) | (simp only [upd_at, *, ↓reduceIte]; rfl)), (by first | (simp only [upd_at, *, ↓reduceIte]; done) | (simp only [upd_at, *, ↓reduceIte]; rfl)), (by repeat (first | exact Same.refl _ _ | (refine Same.updNew ?_ ?_; focus (simp only [evN, *]; done)) | (refine Same.both ?_ ?_; focus (first | exact rfl | exact .inl rfl | exact .inr rfl | exact .inr (.inl rfl) | exact .inr (.inr rfl) | exact .inr (.inr (.inl rfl)) | exact .inr (.inr (.inr rfl)))) | (refine Same.updIn ?_ ?_; focus (first | exact rfl | exact .inl rfl | exact .inr rfl | exact .inr (.inl rfl) | exact .inr (.inr rfl) | exact .inr (.inr (.inl rfl)) | exact .inr (.inr (.inr rfl)))) | refine Same.eq ?_)), ?_, ?_⟩)
    all_goals (intro j hj; cases hj; first | exact .inl rfl | exact .inr (by simp only [evN, *]; done))
  · have e1 : ¬ g = b := fun e => by subst e; rw [hg] at hb; cases hb
    have e2 : ¬ g = d := fun e => by subst e; rw [hg] at hd; cases hd
    have e3 : ¬ b = d := fun e => by subst e; exact absurd (Blk.row.inj (Option.some.inj (hb.symm.trans hd))).2.2 (by decide)
    have e4 : ¬ b = g := fun e => e1 e.symm
    have e5 : ¬ d = g := fun e => e2 e.symm
    have e6 : ¬ d = b := fun e => e3 e.symm
    obtain ⟨τ, rfl⟩ := open_3 hg hb hd
    clear hg hb hd
    (refine acalls_F ok18 (by simp) ?_; unfold c18 r18)
    (repeat' (first | (simp +contextual -dsimp only [*, CliC, ↓reduceIte, ↓evP, evQ, splice, Nat.reduceAdd, Nat.reduceEqDiff, Nat.reduceLeDiff, Nat.reduceMul, reduceCtorEq, Int.reduceLT, Int.reduceLE, Int.reduceGT, Int.reduceGE, Int.reduceEq, Int.reduceNeg]) | (refine condF_split (fun hc => ?_) (fun hc => ?_) <;> (try simp only [Bool.not_eq_true', Bool.not_eq_false', Bool.and_eq_true, Bool.or_eq_false_iff] at hc)) | refine callF_v (h60.out) ?_ | refine callF_v (h26.out) ?_ | refine ccallF_of (h60.out) ?_ | refine ccallF_of (h26.out) ?_ | refine gcallF_of (h60.out) ?_ | refine gcallF_of (h26.out) ?_ | (intro _; intros) | (refine And.intro ?_ ?_; focus (first | omega | ((repeat (first | exact Sub.refl _ | (refine Sub.drop ?_ ?_; focus (simp only [evN, *]; done)) | refine Sub.both ?_)); done) | (simp_all; done) | (simp_all; omega)))))
    refine gcallF_first (new61 _ _ _ _) (fun u σ₁ h => ?_) ?_
    · obtain ⟨t, ht, _, rfl⟩ := h; exact Sub.drop ht (Sub.refl _)
    rintro u σ₁ ⟨t, ht0, rfl, rfl⟩
    clear h60 h26
    simp only [none_upd] at ht0
    (repeat' (first | (simp +contextual -dsimp only [*, CliC, ↓reduceIte, ↓evP, evQ, splice, Nat.reduceAdd, Nat.reduceEqDiff, Nat.reduceLeDiff, Nat.reduceMul, reduceCtorEq, Int.reduceLT, Int.reduceLE, Int.reduceGT, Int.reduceGE, Int.reduceEq, Int.reduceNeg]) | (refine condF_split (fun hc => ?_) (fun hc => ?_) <;> (try simp only [Bool.not_eq_true', Bool.not_eq_false', Bool.and_eq_true, Bool.or_eq_false_iff] at hc)) | (intro _; intros) | (refine And.intro ?_ ?_; focus (first | omega | ((repeat (first | exact Sub.refl _ | (refine Sub.drop ?_ ?_; focus (simp only [evN, *]; done)) | refine Sub.both ?_)); done) | (simp_all; done) | (simp_all; omega)))))
    refine app_b (by first | (simp only [Nat.reduceMul, Nat.one_mul, Nat.zero_mul, rdn_row, rdn_same, rdn_ne, seg_zero, seg_cons, seg_skip, Option.map_some, not_false_eq_true, *]; done) | (simp only [Nat.reduceMul, Nat.one_mul, Nat.zero_mul, rdn_row, rdn_same, rdn_ne, seg_zero, seg_cons, seg_skip, Option.map_some, not_false_eq_true, *]; exact rfl)) rfl (by simp only [upd_at, *, ↓reduceIte]) (flat_len rC_len _) (by omega) (by omega) (by unfold maxLen; omega) ?_ ?_
    all_goals rw [ts_snoc]
    all_goals (repeat' (first | (simp +contextual -dsimp only [*, CliC, ↓reduceIte, ↓evP, evQ, splice, Nat.reduceAdd, Nat.reduceEqDiff, Nat.reduceLeDiff, Nat.reduceMul, reduceCtorEq, Int.reduceLT, Int.reduceLE, Int.reduceGT, Int.reduceGE, Int.reduceEq, Int.reduceNeg]) | (refine condF_split (fun hc => ?_) (fun hc => ?_) <;> (try simp only [Bool.not_eq_true', Bool.not_eq_false', Bool.and_eq_true, Bool.or_eq_false_iff] at hc)) | (intro _; intros) | (refine And.intro ?_ ?_; focus (first | omega | ((repeat (first | exact Sub.refl _ | (refine Sub.drop ?_ ?_; focus (simp only [evN, *]; done)) | refine Sub.both ?_)); done) | (simp_all; done) | (simp_all; omega)))))
    all_goals (refine app_b (by first | (simp only [Nat.reduceMul, Nat.one_mul, Nat.zero_mul, rdn_row, rdn_same, rdn_ne, seg_zero, seg_cons, seg_skip, Option.map_some, not_false_eq_true, *]; done) | (simp only [Nat.reduceMul, Nat.one_mul, Nat.zero_mul, rdn_row, rdn_same, rdn_ne, seg_zero, seg_cons, seg_skip, Option.map_some, not_false_eq_true, *]; exact rfl)) rfl (by simp only [upd_at, *, ↓reduceIte]) (flat_len iC_len _) (by omega) (by omega) (by unfold maxLen; omega) ?_ ?_)
    all_goals rw [hs_snoc]
    all_goals (repeat' (first | (simp +contextual -dsimp only [*, CliC, ↓reduceIte, ↓evP, evQ, splice, Nat.reduceAdd, Nat.reduceEqDiff, Nat.reduceLeDiff, Nat.reduceMul, reduceCtorEq, Int.reduceLT, Int.reduceLE, Int.reduceGT, Int.reduceGE, Int.reduceEq, Int.reduceNeg]) | (refine condF_split (fun hc => ?_) (fun hc => ?_) <;> (try simp only [Bool.not_eq_true', Bool.not_eq_false', Bool.and_eq_true, Bool.or_eq_false_iff] at hc)) | (intro _; intros) | (refine And.intro ?_ ?_; focus (first | omega | ((repeat (first | exact Sub.refl _ | (refine Sub.drop ?_ ?_; focus (simp only [evN, *]; done)) | refine Sub.both ?_)); done) | (simp_all; done) | (simp_all; omega)))))
    all_goals (refine endF_at ⟨rfl, t, .slice (some ⟨_, 0, none⟩) (ts.length + 1) _, .slice (some ⟨_, 0, none⟩) (hs.length + 1) _, (by simp only [evN, *]; done), (by first | (simp only [upd_at, *, ↓reduceIte]; done) | (simp only [upd_at, *, ↓reduceIte]; rfl)), rows_mk (by simp) (by assumption) (by first | (simp only [upd_at, *, ↓reduceIte]; done) | (simp only [upd_at, *, ↓reduceIte]; rfl)), rows_mk (by simp) (by assumption) (by first | (simp only [upd_at, *, ↓reduceIte]; done) | (simp only [upd_at, *, ↓reduceIte]; rfl)), (by first | (simp only [upd_at, *, ↓reduceIte]; done) | (simp only [upd_at, *, ↓reduceIte]; rfl)), (by repeat (first | exact Same.refl _ _ | (refine Same.updNew ?_ ?_; focus (simp only [evN, *]; done)) | (refine Same.both ?_ ?_; focus (first | exact rfl | exact .inl rfl | exact .inr rfl | exact .inr (.inl rfl) | exact .inr (.inr rfl) | exact .inr (.inr (.inl rfl)) | exact .inr (.inr (.inr rfl)))) | (refine Same.updIn ?_ ?_; focus (first | exact rfl | exact .inl rfl | exact .inr rfl | exact .inr (.inl rfl) | exact .inr (.inr rfl) | exact .inr (.inr (.inl rfl)) | exact .inr (.inr (.inr rfl)))) | refine Same.eq ?_)), ?_, ?_⟩)
    all_goals (intro j hj; cases hj; first | exact .inl rfl | exact .inr (by simp only [evN, *]; done))
/-- A session: where it lies, what it is, where its writes lie. -/
structure SR where
  g : Nat
  S : SesS
  v : Value
  ws : List Wr
/-- A transaction: where it lies, what it is, where its reads lie, its session's number and place. -/
structure TR where
  g : Nat
  T : TxS
  v : Value
  k : Nat
  h : Nat
structure CL where
  g : Nat
  c : Cfg
  vs : Value
  vt : Value
  vh : Value
  ss : List SR
  ts : List TR
def CL.own (C : CL) (k : Nat) : Prop := k = C.g ∨ blk C.vs = some k ∨ blk C.vt = some k ∨ blk C.vh = some k ∨ (∃ s ∈ C.ss, k = s.g ∨ blk s.v = some k) ∨ ∃ t ∈ C.ts, k = t.g ∨ blk t.v = some k
structure CliAt (σ : Hp) (C : CL) : Prop where
  cli : σ C.g = some (.cells (CliC C.c C.vs C.vt C.vh) 67)
  vs : RowsAt 92 1 gC σ C.vs (C.ss.map (·.g))
  vt : RowsAt 96 2 rC σ C.vt (C.ts.map fun t => (t.g, t.h))
  vh : RowsAt 3 1 iC σ C.vh (C.ts.map fun t => (t.k : Int))
  ses : ∀ (i : Nat) s, C.ss[i]? = some s → σ s.g = some (.cells (s.S.cells s.v) 130) ∧ RowsAt 52 3 Wr.cells σ s.v s.ws
  tx : ∀ (i : Nat) t, C.ts[i]? = some t → TxAt 133 σ t.g t.T t.v
  home : ∀ (i : Nat) t, C.ts[i]? = some t → ∃ s, C.ss[t.k]? = some s ∧ s.g = t.h
  dS : ∀ (i j : Nat) s s', C.ss[i]? = some s → C.ss[j]? = some s' → s.g = s'.g → i = j
  dT : ∀ (i j : Nat) t t', C.ts[i]? = some t → C.ts[j]? = some t' → t.g = t'.g → i = j
  dR : ∀ (i j : Nat) t t' k, C.ts[i]? = some t → C.ts[j]? = some t' → blk t.v = some k → blk t'.v = some k → i = j
/-- From C to C': nothing else that was known has turned, and what is C's now was so or is new. -/
def Moved (σ : Hp) (C : CL) (σ' : Hp) (C' : CL) : Prop := CliAt σ' C' ∧ Same C.own σ σ' ∧ ∀ k, C'.own k → C.own k ∨ σ k = none
theorem _root_.Go.Sp.RowsAt.apart {α β : Type} {E E' sz sz' : Nat} {f : α → List Value} {f' : β → List Value} {σ : Hp} {v v' : Value} {l : List α} {l' : List β} (h : RowsAt E sz f σ v l) (h' : RowsAt E' sz' f' σ v' l') (hE : E ≠ E') {k : Nat} (hk : blk v = some k) : blk v' ≠ some k := fun e => by
  rcases h with ⟨rfl, _⟩ | ⟨b, c, rfl, _, hb⟩
  · cases hk
  · rcases h' with ⟨rfl, _⟩ | ⟨b', c', rfl, _, hb'⟩
    · cases e
    · cases hk; cases e
      rw [hb] at hb'
      exact hE (Blk.row.inj (Option.some.inj hb')).2.2
theorem cells_ne {σ : Hp} {a b : Nat} {A B : List Value} {t u : TypeId} (ha : σ a = some (.cells A t)) (hb : σ b = some (.cells B u)) (h : t ≠ u) : a ≠ b := fun e => by
  subst e; rw [ha] at hb; exact h (Blk.cells.inj (Option.some.inj hb)).2
theorem get_set {α : Type} {l : List α} {i j : Nat} {x y : α} (h : (l.set i x)[j]? = some y) : (j = i ∧ y = x ∧ i < l.length) ∨ (j ≠ i ∧ l[j]? = some y) := by
  rw [List.getElem?_set] at h
  by_cases e : i = j
  · subst e
    rw [if_pos rfl] at h
    split at h
    · exact .inl ⟨rfl, (Option.some.inj h).symm, by assumption⟩
    · cases h
  · rw [if_neg e] at h
    exact .inr ⟨fun x => e x.symm, h⟩
theorem map_set_same {α β : Type} {f : α → β} : ∀ {l : List α} {i : Nat} {x y : α}, l[i]? = some x → f y = f x → (l.set i y).map f = l.map f
  | [], i, x, y, h, _ => by simp at h
  | a :: l, 0, x, y, h, e => by simp at h; subst h; simp [e]
  | a :: l, i + 1, x, y, h, e => by simp only [List.set_cons_succ, List.map_cons]; rw [map_set_same (by simpa using h) e]
/-- One session has turned. -/
def CL.ses (C : CL) (i : Nat) (s : SR) (S' : SesS) (v' : Value) (ws' : List Wr) : CL := { C with ss := C.ss.set i ⟨s.g, S', v', ws'⟩ }
theorem ses_moved {σ σ' : Hp} {C : CL} {i : Nat} {s : SR} {S' : SesS} {v' : Value} {ws' : List Wr} (h : CliAt σ C) (hi : C.ss[i]? = some s) (hs : Same (fun k => k = s.g) σ σ') (hg : σ' s.g = some (.cells (S'.cells v') 130)) (hr : RowsAt 52 3 Wr.cells σ' v' ws')
    (hv : ∀ k, blk v' = some k → blk s.v = some k ∨ σ k = none) : Moved σ C σ' (C.ses i s S' v' ws') := by
  have hs0 := (h.ses i s hi).1
  have one : ∀ k, σ k ≠ none → k ≠ s.g → σ' k = σ k := fun k h1 h2 => hs k h1 h2
  refine ⟨⟨?_, ?_, ?_, ?_, ?_, ?_, ?_, ?_, h.dT, h.dR⟩, ?_, ?_⟩
  · rw [show (C.ses i s S' v' ws').g = C.g from rfl, one C.g (by rw [h.cli]; simp) (cells_ne h.cli hs0 (by decide))]; exact h.cli
  · show RowsAt _ _ _ _ _ ((C.ss.set i _).map _)
    rw [show ∀ y : SR, y.g = s.g → (C.ss.set i y).map (·.g) = C.ss.map (·.g) from fun y hy => map_set_same hi hy]
    rotate_left
    · rfl
    exact h.vs.sameF hs fun k hk e => h.vs.notCells hs0 (by rw [hk, e])
  · exact h.vt.sameF hs fun k hk e => h.vt.notCells hs0 (by rw [hk, e])
  · exact h.vh.sameF hs fun k hk e => h.vh.notCells hs0 (by rw [hk, e])
  · intro j x hx
    rcases get_set hx with ⟨rfl, rfl, _⟩ | ⟨hne, hx⟩
    · exact ⟨hg, hr⟩
    · obtain ⟨a, b⟩ := h.ses j x hx
      have hgg : x.g ≠ s.g := fun e => hne (h.dS j i x s hx hi e)
      exact ⟨by rw [one _ (by rw [a]; simp) hgg]; exact a, b.sameF hs fun k hk e => b.notCells hs0 (by rw [hk, e])⟩
  · intro j t ht
    have a := h.tx j t ht
    exact a.keepF hs (fun e => cells_ne a.1 hs0 (by decide) e) fun k hk e => a.2.notCells hs0 (by rw [hk, e])
  · intro j t ht
    obtain ⟨s1, h1, h2⟩ := h.home j t ht
    by_cases e : t.k = i
    · refine ⟨⟨s.g, S', v', ws'⟩, ?_, ?_⟩
      · show (C.ss.set i _)[t.k]? = _
        rw [e, List.getElem?_set, if_pos rfl, if_pos (List.getElem?_eq_some_iff.1 hi).1]
      · rw [e, hi] at h1; cases h1; exact h2
    · exact ⟨s1, by show (C.ss.set i _)[t.k]? = _; rw [List.getElem?_set, if_neg (fun x => e x.symm)]; exact h1, h2⟩
  · intro a b x y hx hy e
    rcases get_set hx with ⟨ea, rfl, _⟩ | ⟨_, hx'⟩ <;> rcases get_set hy with ⟨eb, rfl, _⟩ | ⟨_, hy'⟩
    · rw [ea, eb]
    · rw [ea]; exact h.dS i b s y hi hy' e
    · rw [eb]; exact h.dS a i x s hx' hi e
    · exact h.dS a b x y hx' hy' e
  · exact fun k hk hf => one k hk fun e => hf (.inr (.inr (.inr (.inr (.inl ⟨s, List.mem_of_getElem? hi, .inl e⟩)))))
  · rintro k (e | e | e | e | ⟨x, hx, e⟩ | e)
    · exact .inl (.inl e)
    · exact .inl (.inr (.inl e))
    · exact .inl (.inr (.inr (.inl e)))
    · exact .inl (.inr (.inr (.inr (.inl e))))
    · rcases List.mem_or_eq_of_mem_set hx with hx | rfl
      · exact .inl (.inr (.inr (.inr (.inr (.inl ⟨x, hx, e⟩)))))
      · rcases e with e | e
        · exact .inl (.inr (.inr (.inr (.inr (.inl ⟨s, List.mem_of_getElem? hi, .inl e⟩)))))
        · rcases hv k e with e | e
          · exact .inl (.inr (.inr (.inr (.inr (.inl ⟨s, List.mem_of_getElem? hi, .inr e⟩)))))
          · exact .inr e
    · exact .inl (.inr (.inr (.inr (.inr (.inr e)))))
/-- One transaction has turned. -/
def CL.tx (C : CL) (i : Nat) (t : TR) (T' : TxS) (v' : Value) : CL := { C with ts := C.ts.set i ⟨t.g, T', v', t.k, t.h⟩ }
theorem tx_moved {σ σ' : Hp} {C : CL} {i : Nat} {t : TR} {T' : TxS} {v' : Value} (h : CliAt σ C) (hi : C.ts[i]? = some t) (hT : TxAt 133 σ' t.g T' v') (hS : Step σ t.g t.v σ' v') : Moved σ C σ' (C.tx i t T' v') := by
  have h0 := h.tx i t hi
  have hs := hS.1
  have one : ∀ k, σ k ≠ none → k ≠ t.g → blk t.v ≠ some k → σ' k = σ k := fun k h1 h2 h3 => hs k h1 (fun e => e.elim h2 h3)
  refine ⟨⟨?_, ?_, ?_, ?_, ?_, ?_, ?_, h.dS, ?_, ?_⟩, ?_, ?_⟩
  · rw [show (C.tx i t T' v').g = C.g from rfl, one C.g (by rw [h.cli]; simp) (cells_ne h.cli h0.1 (by decide)) (h0.2.notCells h.cli)]; exact h.cli
  · exact h.vs.sameF hs fun k hk e => e.elim (fun e => h.vs.notCells h0.1 (by rw [hk, e])) (h.vs.apart h0.2 (by decide) hk)
  · show RowsAt _ _ _ _ _ ((C.ts.set i _).map _)
    rw [show ∀ y : TR, (y.g, y.h) = (t.g, t.h) → (C.ts.set i y).map (fun t => (t.g, t.h)) = C.ts.map (fun t => (t.g, t.h)) from fun y hy => map_set_same hi hy]
    rotate_left
    · rfl
    exact h.vt.sameF hs fun k hk e => e.elim (fun e => h.vt.notCells h0.1 (by rw [hk, e])) (h.vt.apart h0.2 (by decide) hk)
  · show RowsAt _ _ _ _ _ ((C.ts.set i _).map _)
    rw [show ∀ y : TR, (y.k : Int) = t.k → (C.ts.set i y).map (fun t => (t.k : Int)) = C.ts.map (fun t => (t.k : Int)) from fun y hy => map_set_same hi hy]
    rotate_left
    · rfl
    exact h.vh.sameF hs fun k hk e => e.elim (fun e => h.vh.notCells h0.1 (by rw [hk, e])) (h.vh.apart h0.2 (by decide) hk)
  · intro j x hx
    obtain ⟨a, b⟩ := h.ses j x hx
    exact ⟨by rw [one _ (by rw [a]; simp) (cells_ne a h0.1 (by decide)) (h0.2.notCells a)]; exact a,
      b.sameF hs fun k hk e => e.elim (fun e => b.notCells h0.1 (by rw [hk, e])) (b.apart h0.2 (by decide) hk)⟩
  · intro j x hx
    rcases get_set hx with ⟨rfl, rfl, _⟩ | ⟨hne, hx⟩
    · exact hT
    · have a := h.tx j x hx
      have hgg : x.g ≠ t.g := fun e => hne (h.dT j i x t hx hi e)
      exact a.keepF hs (fun e => e.elim hgg (h0.2.notCells a.1)) fun k hk e => e.elim (fun e => a.2.notCells h0.1 (by rw [hk, e])) fun e => hne (h.dR j i x t k hx hi hk e)
  · intro j x hx
    rcases get_set hx with ⟨rfl, rfl, _⟩ | ⟨hne, hx⟩
    · exact h.home j t hi
    · exact h.home j x hx
  · intro a b x y hx hy e
    rcases get_set hx with ⟨ea, rfl, _⟩ | ⟨_, hx'⟩ <;> rcases get_set hy with ⟨eb, rfl, _⟩ | ⟨_, hy'⟩
    · rw [ea, eb]
    · rw [ea]; exact h.dT i b t y hi hy' e
    · rw [eb]; exact h.dT a i x t hx' hi e
    · exact h.dT a b x y hx' hy' e
  · intro a b x y k hx hy ex ey
    rcases get_set hx with ⟨ea, rfl, _⟩ | ⟨n1, hx'⟩ <;> rcases get_set hy with ⟨eb, rfl, _⟩ | ⟨n2, hy'⟩
    · rw [ea, eb]
    · rw [ea]
      rcases hS.2 k ex with e | e
      · exact h.dR i b t y k hi hy' e ey
      · exact absurd e ((h.tx b y hy').known ey)
    · rw [eb]
      rcases hS.2 k ey with e | e
      · exact h.dR a i x t k hx' hi ex e
      · exact absurd e ((h.tx a x hx').known ex)
    · exact h.dR a b x y k hx' hy' ex ey
  · exact fun k hk hf => one k hk (fun e => hf (.inr (.inr (.inr (.inr (.inr ⟨t, List.mem_of_getElem? hi, .inl e⟩)))))) fun e => hf (.inr (.inr (.inr (.inr (.inr ⟨t, List.mem_of_getElem? hi, .inr e⟩)))))
  · rintro k (e | e | e | e | e | ⟨x, hx, e⟩)
    · exact .inl (.inl e)
    · exact .inl (.inr (.inl e))
    · exact .inl (.inr (.inr (.inl e)))
    · exact .inl (.inr (.inr (.inr (.inl e))))
    · exact .inl (.inr (.inr (.inr (.inr (.inl e)))))
    · rcases List.mem_or_eq_of_mem_set hx with hx | rfl
      · exact .inl (.inr (.inr (.inr (.inr (.inr ⟨x, hx, e⟩)))))
      · rcases e with e | e
        · exact .inl (.inr (.inr (.inr (.inr (.inr ⟨t, List.mem_of_getElem? hi, .inl e⟩)))))
        · rcases hS.2 k e with e | e
          · exact .inl (.inr (.inr (.inr (.inr (.inr ⟨t, List.mem_of_getElem? hi, .inr e⟩)))))
          · exact .inr e
theorem Moved.refl {σ : Hp} {C : CL} (h : CliAt σ C) : Moved σ C σ C := ⟨h, Same.refl _ _, fun k hk => .inl hk⟩
theorem CliAt.known {σ : Hp} {C : CL} (h : CliAt σ C) {k : Nat} (hk : C.own k) : σ k ≠ none := by
  rcases hk with e | e | e | e | ⟨x, hx, e⟩ | ⟨x, hx, e⟩
  · rw [e, h.cli]; simp
  · exact h.vs.known e
  · exact h.vt.known e
  · exact h.vh.known e
  · obtain ⟨i, hi⟩ := List.getElem?_of_mem hx
    rcases e with e | e
    · rw [e, (h.ses i x hi).1]; simp
    · exact (h.ses i x hi).2.known e
  · obtain ⟨i, hi⟩ := List.getElem?_of_mem hx
    rcases e with e | e
    · rw [e, (h.tx i x hi).1]; simp
    · exact (h.tx i x hi).known e
theorem Moved.trans {σ σ1 σ2 : Hp} {C C1 C2 : CL} (h : Moved σ C σ1 C1) (k : Moved σ1 C1 σ2 C2) : Moved σ C σ2 C2 := by
  refine ⟨k.1, h.2.1.trans k.2.1 fun i hi hG => (h.2.2 i hG).elim id fun e => absurd e hi, fun i hi => ?_⟩
  rcases k.2.2 i hi with e | e
  · exact h.2.2 i e
  · by_cases e0 : σ i = none
    · exact .inr e0
    · by_cases e1 : C.own i
      · exact .inl e1
      · exact absurd ((h.2.1 i e0 e1).symm.trans e) e0
/-- What lies beside the client stays. -/
theorem Moved.sub {σ σ' σ0 : Hp} {C C' : CL} (h : Moved σ C σ' C') (hs : Sub σ0 σ) (hn : ∀ k, C.own k → σ0 k = none) : Sub σ0 σ' ∧ ∀ k, C'.own k → σ0 k = none :=
  ⟨hs.same h.2.1 hn, fun k hk => (h.2.2 k hk).elim (hn k) fun e => hs.noneAt e⟩
def YesS (c : Value) (s : Int) (k : Nat) (τ : Hp) : Prop := ∀ σ, Sub τ σ → ACalls Tryz.prog 38 #[c, .int .i64 s] σ fun u σ' => u = .pointer (some ⟨k, 0, none⟩) ∧ σ' = σ
def YesT (c : Value) (t : Int) (p : Nat × Nat) (τ : Hp) : Prop := ∀ σ, Sub τ σ → ACalls Tryz.prog 41 #[c, .int .i64 t] σ fun u σ' => u = .agg #[.pointer (some ⟨p.1, 0, none⟩), .pointer (some ⟨p.2, 0, none⟩)] ∧ σ' = σ
theorem yesS {σ : Hp} {C : CL} {i : Nat} {s : SR} (h : CliAt σ C) (hi : C.ss[i]? = some s) : YesS (.pointer (some ⟨C.g, 0, none⟩)) i s.g σ := fun σ' hs => session60i (Sub.at hs h.cli) (h.vs.subK hs) (by simp [hi])
theorem yesT {σ : Hp} {C : CL} {i : Nat} {t : TR} (h : CliAt σ C) (hi : C.ts[i]? = some t) : YesT (.pointer (some ⟨C.g, 0, none⟩)) i (t.g, t.h) σ := fun σ' hs => tx62i (Sub.at hs h.cli) (h.vt.subK hs) (by simp [hi])
theorem noS {σ : Hp} {C : CL} {i : Int} (h : CliAt σ C) (hi : (decide (i < 0) || decide (i ≥ (C.ss.length : Int))) = true) : NoS (.pointer (some ⟨C.g, 0, none⟩)) i σ := fun σ' hs => session60x (Sub.at hs h.cli) (h.vs.subK hs) _ (by simpa using hi)
theorem noT {σ : Hp} {C : CL} {i : Int} (h : CliAt σ C) (hi : (decide (i < 0) || decide (i ≥ (C.ts.length : Int))) = true) : NoT (.pointer (some ⟨C.g, 0, none⟩)) i σ := fun σ' hs => tx62x (Sub.at hs h.cli) (h.vt.subK hs) _ (by simpa using hi)
theorem rtC {σ : Hp} {C : CL} (h : CliAt σ C) : Rt (.pointer (some ⟨C.g, 0, none⟩)) C.c.retries σ := fun σ' hs => retries68 (Sub.at hs h.cli)
/-- An answer that is a message and a number. -/
def MsgE (R : Msg → Int → Hp → Prop) (u : Value) (σ' : Hp) : Prop := ∃ (m : Msg) (e : Int), u = .tuple #[.agg m.cells.toArray, .int .i64 e] ∧ one m.writes = true ∧ one m.keys = true ∧ R m e σ'
def MsgB (R : Msg → Bool → Hp → Prop) (u : Value) (σ' : Hp) : Prop := ∃ (m : Msg) (b : Bool), u = .tuple #[.agg m.cells.toArray, .bool b] ∧ one m.writes = true ∧ one m.keys = true ∧ R m b σ'
theorem commit39g {c w : Value} {s : Int} {g : Nat} {σ : Hp} {R : Msg → Int → Hp → Prop} (h : YesS c s g σ) (hop : ACalls Tryz.prog 39 #[.pointer (some ⟨g, 0, none⟩), w] σ (MsgE R)) : ACalls Tryz.prog 13 #[c, .int .i64 s, w] σ (MsgE R) := by
  have H := Hid.mk h
  have HO := Hid.mk hop
  clear h hop
  (refine acalls_F ok13 (by simp) ?_; unfold c13 r13)
  (repeat' (first | (simp +contextual -dsimp only [*, CliC, Msg.cells, ↓reduceIte, ↓evP, evQ, splice, Nat.reduceAdd, Nat.reduceEqDiff, Nat.reduceLeDiff, Nat.reduceMul, reduceCtorEq, Int.reduceLT, Int.reduceLE, Int.reduceGT, Int.reduceGE, Int.reduceEq, Int.reduceNeg]) | (refine condF_split (fun hc => ?_) (fun hc => ?_) <;> (try simp only [Bool.not_eq_true', Bool.not_eq_false', Bool.and_eq_true, Bool.or_eq_false_iff] at hc)) | refine callF_v (H.out _ (by (repeat (first | exact Sub.refl _ | (refine Sub.drop ?_ ?_; focus (simp only [evN, *]; done)) | refine Sub.both ?_)); done)) ?_ | refine ccallF_of (H.out _ (by (repeat (first | exact Sub.refl _ | (refine Sub.drop ?_ ?_; focus (simp only [evN, *]; done)) | refine Sub.both ?_)); done)) ?_ | refine gcallF_of (H.out _ (by (repeat (first | exact Sub.refl _ | (refine Sub.drop ?_ ?_; focus (simp only [evN, *]; done)) | refine Sub.both ?_)); done)) ?_ | (intro _; intros) | (refine And.intro ?_ ?_; focus (first | omega | ((repeat (first | exact Sub.refl _ | (refine Sub.drop ?_ ?_; focus (simp only [evN, *]; done)) | refine Sub.both ?_)); done) | (simp_all; done) | (simp_all; omega)))))
  refine callF_of (ACalls.beside ?_ HO.out) ?_
  · (simp only [evN, *]; done)
  rintro u σ'' ⟨σ1, ⟨m, e, rfl, hw, hk, hR⟩, n1, rfl⟩
  have HR := Hid.mk hR
  clear hR
  simp +contextual -dsimp only [*, CliC, Msg.cells, ↓reduceIte, ↓evP, evQ, splice, Nat.reduceAdd, Nat.reduceEqDiff, Nat.reduceLeDiff, Nat.reduceMul, reduceCtorEq, Int.reduceLT, Int.reduceLE, Int.reduceGT, Int.reduceGE, Int.reduceEq, Int.reduceNeg]
  exact endF_sub (τ := σ1) (by (repeat (first | exact Sub.refl _ | (refine Sub.drop ?_ ?_; focus (simp only [evN, *]; done)) | refine Sub.both ?_)); done) ⟨m, e, rfl, hw, hk, HR.out⟩
theorem again40g {c : Value} {s r : Int} {g : Nat} {σ : Hp} {R : Msg → Int → Hp → Prop} (h : YesS c s g σ) (h2 : Rt c r σ) (hop : ACalls Tryz.prog 90 #[.pointer (some ⟨g, 0, none⟩), .int .i64 r] σ (MsgE R)) : ACalls Tryz.prog 65 #[c, .int .i64 s] σ (MsgE R) := by
  have H := Hid.mk h
  have H2 := Hid.mk h2
  have HO := Hid.mk hop
  clear h h2 hop
  (refine acalls_F ok65 (by simp) ?_; unfold c65 r65)
  (repeat' (first | (simp +contextual -dsimp only [*, CliC, Msg.cells, ↓reduceIte, ↓evP, evQ, splice, Nat.reduceAdd, Nat.reduceEqDiff, Nat.reduceLeDiff, Nat.reduceMul, reduceCtorEq, Int.reduceLT, Int.reduceLE, Int.reduceGT, Int.reduceGE, Int.reduceEq, Int.reduceNeg]) | (refine condF_split (fun hc => ?_) (fun hc => ?_) <;> (try simp only [Bool.not_eq_true', Bool.not_eq_false', Bool.and_eq_true, Bool.or_eq_false_iff] at hc)) | refine callF_v (H.out _ (by (repeat (first | exact Sub.refl _ | (refine Sub.drop ?_ ?_; focus (simp only [evN, *]; done)) | refine Sub.both ?_)); done)) ?_ | refine callF_v (H2.out _ (by (repeat (first | exact Sub.refl _ | (refine Sub.drop ?_ ?_; focus (simp only [evN, *]; done)) | refine Sub.both ?_)); done)) ?_ | refine ccallF_of (H.out _ (by (repeat (first | exact Sub.refl _ | (refine Sub.drop ?_ ?_; focus (simp only [evN, *]; done)) | refine Sub.both ?_)); done)) ?_ | refine ccallF_of (H2.out _ (by (repeat (first | exact Sub.refl _ | (refine Sub.drop ?_ ?_; focus (simp only [evN, *]; done)) | refine Sub.both ?_)); done)) ?_ | refine gcallF_of (H.out _ (by (repeat (first | exact Sub.refl _ | (refine Sub.drop ?_ ?_; focus (simp only [evN, *]; done)) | refine Sub.both ?_)); done)) ?_ | refine gcallF_of (H2.out _ (by (repeat (first | exact Sub.refl _ | (refine Sub.drop ?_ ?_; focus (simp only [evN, *]; done)) | refine Sub.both ?_)); done)) ?_ | (intro _; intros) | (refine And.intro ?_ ?_; focus (first | omega | ((repeat (first | exact Sub.refl _ | (refine Sub.drop ?_ ?_; focus (simp only [evN, *]; done)) | refine Sub.both ?_)); done) | (simp_all; done) | (simp_all; omega)))))
  refine callF_of (ACalls.beside ?_ HO.out) ?_
  · (simp only [evN, *]; done)
  rintro u σ'' ⟨σ1, ⟨m, e, rfl, hw, hk, hR⟩, n1, rfl⟩
  have HR := Hid.mk hR
  clear hR
  simp +contextual -dsimp only [*, CliC, Msg.cells, ↓reduceIte, ↓evP, evQ, splice, Nat.reduceAdd, Nat.reduceEqDiff, Nat.reduceLeDiff, Nat.reduceMul, reduceCtorEq, Int.reduceLT, Int.reduceLE, Int.reduceGT, Int.reduceGE, Int.reduceEq, Int.reduceNeg]
  exact endF_sub (τ := σ1) (by (repeat (first | exact Sub.refl _ | (refine Sub.drop ?_ ?_; focus (simp only [evN, *]; done)) | refine Sub.both ?_)); done) ⟨m, e, rfl, hw, hk, HR.out⟩
theorem retry42g {c : Value} {t r : Int} {p : Nat × Nat} {σ : Hp} {R : Msg → Int → Hp → Prop} (h : YesT c t p σ) (h2 : Rt c r σ) (hop : ACalls Tryz.prog 55 #[.pointer (some ⟨p.1, 0, none⟩), .int .i64 r] σ (MsgE R)) : ACalls Tryz.prog 25 #[c, .int .i64 t] σ (MsgE R) := by
  have H := Hid.mk h
  have H2 := Hid.mk h2
  have HO := Hid.mk hop
  clear h h2 hop
  (refine acalls_F ok25 (by simp) ?_; unfold c25 r25)
  (repeat' (first | (simp +contextual -dsimp only [*, CliC, Msg.cells, ↓reduceIte, ↓evP, evQ, splice, Nat.reduceAdd, Nat.reduceEqDiff, Nat.reduceLeDiff, Nat.reduceMul, reduceCtorEq, Int.reduceLT, Int.reduceLE, Int.reduceGT, Int.reduceGE, Int.reduceEq, Int.reduceNeg]) | (refine condF_split (fun hc => ?_) (fun hc => ?_) <;> (try simp only [Bool.not_eq_true', Bool.not_eq_false', Bool.and_eq_true, Bool.or_eq_false_iff] at hc)) | refine callF_v (H.out _ (by (repeat (first | exact Sub.refl _ | (refine Sub.drop ?_ ?_; focus (simp only [evN, *]; done)) | refine Sub.both ?_)); done)) ?_ | refine callF_v (H2.out _ (by (repeat (first | exact Sub.refl _ | (refine Sub.drop ?_ ?_; focus (simp only [evN, *]; done)) | refine Sub.both ?_)); done)) ?_ | refine ccallF_of (H.out _ (by (repeat (first | exact Sub.refl _ | (refine Sub.drop ?_ ?_; focus (simp only [evN, *]; done)) | refine Sub.both ?_)); done)) ?_ | refine ccallF_of (H2.out _ (by (repeat (first | exact Sub.refl _ | (refine Sub.drop ?_ ?_; focus (simp only [evN, *]; done)) | refine Sub.both ?_)); done)) ?_ | refine gcallF_of (H.out _ (by (repeat (first | exact Sub.refl _ | (refine Sub.drop ?_ ?_; focus (simp only [evN, *]; done)) | refine Sub.both ?_)); done)) ?_ | refine gcallF_of (H2.out _ (by (repeat (first | exact Sub.refl _ | (refine Sub.drop ?_ ?_; focus (simp only [evN, *]; done)) | refine Sub.both ?_)); done)) ?_ | (intro _; intros) | (refine And.intro ?_ ?_; focus (first | omega | ((repeat (first | exact Sub.refl _ | (refine Sub.drop ?_ ?_; focus (simp only [evN, *]; done)) | refine Sub.both ?_)); done) | (simp_all; done) | (simp_all; omega)))))
  refine callF_of (ACalls.beside ?_ HO.out) ?_
  · (simp only [evN, *]; done)
  rintro u σ'' ⟨σ1, ⟨m, e, rfl, hw, hk, hR⟩, n1, rfl⟩
  have HR := Hid.mk hR
  clear hR
  simp +contextual -dsimp only [*, CliC, Msg.cells, ↓reduceIte, ↓evP, evQ, splice, Nat.reduceAdd, Nat.reduceEqDiff, Nat.reduceLeDiff, Nat.reduceMul, reduceCtorEq, Int.reduceLT, Int.reduceLE, Int.reduceGT, Int.reduceGE, Int.reduceEq, Int.reduceNeg]
  exact endF_sub (τ := σ1) (by (repeat (first | exact Sub.refl _ | (refine Sub.drop ?_ ?_; focus (simp only [evN, *]; done)) | refine Sub.both ?_)); done) ⟨m, e, rfl, hw, hk, HR.out⟩
theorem join43g {c : Value} {s : Int} {g : Nat} {t : ByteArray} {σ : Hp} {R : Value → Hp → Prop} (h : YesS c s g σ) (hop : ACalls Tryz.prog 45 #[.pointer (some ⟨g, 0, none⟩), .string t] σ R) : ACalls Tryz.prog 17 #[c, .int .i64 s, .string t] σ R := by
  have H := Hid.mk h
  have HO := Hid.mk hop
  clear h hop
  (refine acalls_F ok17 (by simp) ?_; unfold c17 r17)
  (repeat' (first | (simp +contextual -dsimp only [*, CliC, Msg.cells, ↓reduceIte, ↓evP, evQ, splice, Nat.reduceAdd, Nat.reduceEqDiff, Nat.reduceLeDiff, Nat.reduceMul, reduceCtorEq, Int.reduceLT, Int.reduceLE, Int.reduceGT, Int.reduceGE, Int.reduceEq, Int.reduceNeg]) | (refine condF_split (fun hc => ?_) (fun hc => ?_) <;> (try simp only [Bool.not_eq_true', Bool.not_eq_false', Bool.and_eq_true, Bool.or_eq_false_iff] at hc)) | refine callF_v (H.out _ (by (repeat (first | exact Sub.refl _ | (refine Sub.drop ?_ ?_; focus (simp only [evN, *]; done)) | refine Sub.both ?_)); done)) ?_ | refine ccallF_of (H.out _ (by (repeat (first | exact Sub.refl _ | (refine Sub.drop ?_ ?_; focus (simp only [evN, *]; done)) | refine Sub.both ?_)); done)) ?_ | refine gcallF_of (H.out _ (by (repeat (first | exact Sub.refl _ | (refine Sub.drop ?_ ?_; focus (simp only [evN, *]; done)) | refine Sub.both ?_)); done)) ?_ | (intro _; intros) | (refine And.intro ?_ ?_; focus (first | omega | ((repeat (first | exact Sub.refl _ | (refine Sub.drop ?_ ?_; focus (simp only [evN, *]; done)) | refine Sub.both ?_)); done) | (simp_all; done) | (simp_all; omega)))))
  refine callF_of HO.out ?_
  intro u σ1 hR
  have HR := Hid.mk hR
  clear hR
  simp +contextual -dsimp only [*, CliC, Msg.cells, ↓reduceIte, ↓evP, evQ, splice, Nat.reduceAdd, Nat.reduceEqDiff, Nat.reduceLeDiff, Nat.reduceMul, reduceCtorEq, Int.reduceLT, Int.reduceLE, Int.reduceGT, Int.reduceGE, Int.reduceEq, Int.reduceNeg]
  exact endF_at HR.out
theorem token41g {c : Value} {s n : Int} {g : Nat} {σ : Hp} {k : ByteArray} {e : Int} (h : YesS c s g σ) (hf : ACalls Tryz.prog 44 #[.pointer (some ⟨g, 0, none⟩)] σ fun u σ' => u = .int .i64 n ∧ σ' = σ) (ht : ACalls Tryz.prog 43 #[.int .i64 n] σ fun u σ' => u = .tuple #[.string k, .int .i64 e] ∧ σ' = σ) :
    ACalls Tryz.prog 16 #[c, .int .i64 s] σ fun u σ' => u = .tuple #[.string k, .int .i64 e] ∧ σ' = σ := by
  have H := Hid.mk h
  have H2 := Hid.mk hf
  have H3 := Hid.mk ht
  clear h hf ht
  (refine acalls_F ok16 (by simp) ?_; unfold c16 r16)
  (repeat' (first | (simp +contextual -dsimp only [*, CliC, Msg.cells, ↓reduceIte, ↓evP, evQ, splice, Nat.reduceAdd, Nat.reduceEqDiff, Nat.reduceLeDiff, Nat.reduceMul, reduceCtorEq, Int.reduceLT, Int.reduceLE, Int.reduceGT, Int.reduceGE, Int.reduceEq, Int.reduceNeg]) | (refine condF_split (fun hc => ?_) (fun hc => ?_) <;> (try simp only [Bool.not_eq_true', Bool.not_eq_false', Bool.and_eq_true, Bool.or_eq_false_iff] at hc)) | refine callF_v (H.out _ (by (repeat (first | exact Sub.refl _ | (refine Sub.drop ?_ ?_; focus (simp only [evN, *]; done)) | refine Sub.both ?_)); done)) ?_ | refine callF_v (H2.out) ?_ | refine callF_v (H3.out) ?_ | refine ccallF_of (H.out _ (by (repeat (first | exact Sub.refl _ | (refine Sub.drop ?_ ?_; focus (simp only [evN, *]; done)) | refine Sub.both ?_)); done)) ?_ | refine ccallF_of (H2.out) ?_ | refine ccallF_of (H3.out) ?_ | refine gcallF_of (H.out _ (by (repeat (first | exact Sub.refl _ | (refine Sub.drop ?_ ?_; focus (simp only [evN, *]; done)) | refine Sub.both ?_)); done)) ?_ | refine gcallF_of (H2.out) ?_ | refine gcallF_of (H3.out) ?_ | (intro _; intros) | (refine And.intro ?_ ?_; focus (first | omega | ((repeat (first | exact Sub.refl _ | (refine Sub.drop ?_ ?_; focus (simp only [evN, *]; done)) | refine Sub.both ?_)); done) | (simp_all; done) | (simp_all; omega)))))
  all_goals (refine endF_det ?_ ?_; (focus ((try simp only [cond_true, cond_false, *]) <;> ((try simp only [decide_eq_true_eq, decide_eq_false_iff_not] at *) <;> first | rfl | (simp []; done) | (simp_all []; done) | (simp []; omega) | (simp []; (rw [Bool.eq_iff_iff]); simp; omega) | (simp_all [] <;> omega) | ((try unfold id); (rw [Value.bool.injEq, Bool.eq_iff_iff]); simp <;> omega) | ((try unfold id); (repeat' split) <;> simp_all <;> omega) | (simp_all [] <;> (repeat' split) <;> simp_all <;> omega)))); (focus ((try simp only [cond_true, cond_false, set_same, *]); exact (by (repeat (first | exact Sub.refl _ | (refine Sub.drop ?_ ?_; focus (simp only [evN, *]; done)) | refine Sub.both ?_)); done))))
theorem session37g {c : Value} {s : Int} {g : Nat} {σ : Hp} {S : SesS} (h : YesS c s g σ) (hf : ∀ σ', Sub σ σ' → ACalls Tryz.prog 70 #[.pointer (some ⟨g, 0, none⟩)] σ' fun u σ'' => u = .agg S.view.toArray ∧ σ'' = σ') :
    ACalls Tryz.prog 30 #[c, .int .i64 s] σ fun u σ' => u = .tuple #[.agg S.view.toArray, .bool true] ∧ σ' = σ := by
  have H := Hid.mk h
  have H2 := Hid.mk hf
  clear h hf
  unfold SesS.view at *
  (refine acalls_F ok30 (by simp) ?_; unfold c30 r30)
  (repeat' (first | (simp +contextual -dsimp only [*, CliC, Msg.cells, ↓reduceIte, ↓evP, evQ, splice, Nat.reduceAdd, Nat.reduceEqDiff, Nat.reduceLeDiff, Nat.reduceMul, reduceCtorEq, Int.reduceLT, Int.reduceLE, Int.reduceGT, Int.reduceGE, Int.reduceEq, Int.reduceNeg]) | (refine condF_split (fun hc => ?_) (fun hc => ?_) <;> (try simp only [Bool.not_eq_true', Bool.not_eq_false', Bool.and_eq_true, Bool.or_eq_false_iff] at hc)) | refine callF_v (H.out _ (by (repeat (first | exact Sub.refl _ | (refine Sub.drop ?_ ?_; focus (simp only [evN, *]; done)) | refine Sub.both ?_)); done)) ?_ | refine callF_v (H2.out _ (by (repeat (first | exact Sub.refl _ | (refine Sub.drop ?_ ?_; focus (simp only [evN, *]; done)) | refine Sub.both ?_)); done)) ?_ | refine ccallF_of (H.out _ (by (repeat (first | exact Sub.refl _ | (refine Sub.drop ?_ ?_; focus (simp only [evN, *]; done)) | refine Sub.both ?_)); done)) ?_ | refine ccallF_of (H2.out _ (by (repeat (first | exact Sub.refl _ | (refine Sub.drop ?_ ?_; focus (simp only [evN, *]; done)) | refine Sub.both ?_)); done)) ?_ | refine gcallF_of (H.out _ (by (repeat (first | exact Sub.refl _ | (refine Sub.drop ?_ ?_; focus (simp only [evN, *]; done)) | refine Sub.both ?_)); done)) ?_ | refine gcallF_of (H2.out _ (by (repeat (first | exact Sub.refl _ | (refine Sub.drop ?_ ?_; focus (simp only [evN, *]; done)) | refine Sub.both ?_)); done)) ?_ | (intro _; intros) | (refine And.intro ?_ ?_; focus (first | omega | ((repeat (first | exact Sub.refl _ | (refine Sub.drop ?_ ?_; focus (simp only [evN, *]; done)) | refine Sub.both ?_)); done) | (simp_all; done) | (simp_all; omega)))))
  all_goals (refine endF_det ?_ ?_; (focus ((try simp only [cond_true, cond_false, *]) <;> ((try simp only [decide_eq_true_eq, decide_eq_false_iff_not] at *) <;> first | rfl | (simp []; done) | (simp_all []; done) | (simp []; omega) | (simp []; (rw [Bool.eq_iff_iff]); simp; omega) | (simp_all [] <;> omega) | ((try unfold id); (rw [Value.bool.injEq, Bool.eq_iff_iff]); simp <;> omega) | ((try unfold id); (repeat' split) <;> simp_all <;> omega) | (simp_all [] <;> (repeat' split) <;> simp_all <;> omega)))); (focus ((try simp only [cond_true, cond_false, set_same, *]); exact (by (repeat (first | exact Sub.refl _ | (refine Sub.drop ?_ ?_; focus (simp only [evN, *]; done)) | refine Sub.both ?_)); done))))
theorem hear35a {c : Value} {g : Nat} {σ : Hp} {m : Msg} {R : Bool → Hp → Prop} (hm : m.kind = 2) (h : YesS c m.session g σ) (hop : ACalls Tryz.prog 40 #[.pointer (some ⟨g, 0, none⟩), .agg m.cells.toArray] σ fun u σ' => ∃ b, u = .bool b ∧ R b σ') :
    ACalls Tryz.prog 15 #[c, .agg m.cells.toArray] σ fun u σ' => ∃ b, u = .tuple #[.agg ({} : Msg).cells.toArray, .bool b] ∧ R b σ' := by
  have H := Hid.mk h
  have HO := Hid.mk hop
  have hk : decide (m.kind = 2) = true := by simp [hm]
  clear h hop hm
  (refine acalls_F ok15 (by simp) ?_; unfold c15 r15)
  (repeat' (first | (simp +contextual -dsimp only [*, CliC, Msg.cells, ↓reduceIte, ↓evP, evQ, splice, Nat.reduceAdd, Nat.reduceEqDiff, Nat.reduceLeDiff, Nat.reduceMul, reduceCtorEq, Int.reduceLT, Int.reduceLE, Int.reduceGT, Int.reduceGE, Int.reduceEq, Int.reduceNeg]) | (refine condF_split (fun hc => ?_) (fun hc => ?_) <;> (try simp only [Bool.not_eq_true', Bool.not_eq_false', Bool.and_eq_true, Bool.or_eq_false_iff] at hc)) | refine callF_v (H.out _ (by (repeat (first | exact Sub.refl _ | (refine Sub.drop ?_ ?_; focus (simp only [evN, *]; done)) | refine Sub.both ?_)); done)) ?_ | refine ccallF_of (H.out _ (by (repeat (first | exact Sub.refl _ | (refine Sub.drop ?_ ?_; focus (simp only [evN, *]; done)) | refine Sub.both ?_)); done)) ?_ | refine gcallF_of (H.out _ (by (repeat (first | exact Sub.refl _ | (refine Sub.drop ?_ ?_; focus (simp only [evN, *]; done)) | refine Sub.both ?_)); done)) ?_ | (intro _; intros) | (refine And.intro ?_ ?_; focus (first | omega | ((repeat (first | exact Sub.refl _ | (refine Sub.drop ?_ ?_; focus (simp only [evN, *]; done)) | refine Sub.both ?_)); done) | (simp_all; done) | (simp_all; omega)))))
  refine callF_of (ACalls.beside ?_ (ACalls.beside ?_ HO.out)) ?_
  · (simp only [evN, *]; done)
  · (simp only [evN, *]; done)
  rintro u σ'' ⟨_, ⟨σ1, ⟨b, rfl, hR⟩, n1, rfl⟩, n2, rfl⟩
  simp only [none_upd] at n2
  have HR := Hid.mk hR
  clear hR
  simp +contextual -dsimp only [*, CliC, Msg.cells, ↓reduceIte, ↓evP, evQ, splice, Nat.reduceAdd, Nat.reduceEqDiff, Nat.reduceLeDiff, Nat.reduceMul, reduceCtorEq, Int.reduceLT, Int.reduceLE, Int.reduceGT, Int.reduceGE, Int.reduceEq, Int.reduceNeg]
  exact endF_sub (τ := σ1) (by (repeat (first | exact Sub.refl _ | (refine Sub.drop ?_ ?_; focus (simp only [evN, *]; done)) | refine Sub.both ?_)); done) ⟨b, rfl, HR.out⟩
theorem hear35t {c : Value} {p : Nat × Nat} {σ : Hp} {m : Msg} {R : Msg → Bool → Hp → Prop} (hm : m.kind ≠ 2) (h : YesT c m.tx p σ) (hop : ACalls Tryz.prog 42 #[.pointer (some ⟨p.1, 0, none⟩), .agg m.cells.toArray] σ (MsgB R)) :
    ACalls Tryz.prog 15 #[c, .agg m.cells.toArray] σ (MsgB R) := by
  have H := Hid.mk h
  have HO := Hid.mk hop
  have hk : decide (m.kind = 2) = false := by simp [hm]
  clear h hop hm
  (refine acalls_F ok15 (by simp) ?_; unfold c15 r15)
  (repeat' (first | (simp +contextual -dsimp only [*, CliC, Msg.cells, ↓reduceIte, ↓evP, evQ, splice, Nat.reduceAdd, Nat.reduceEqDiff, Nat.reduceLeDiff, Nat.reduceMul, reduceCtorEq, Int.reduceLT, Int.reduceLE, Int.reduceGT, Int.reduceGE, Int.reduceEq, Int.reduceNeg]) | (refine condF_split (fun hc => ?_) (fun hc => ?_) <;> (try simp only [Bool.not_eq_true', Bool.not_eq_false', Bool.and_eq_true, Bool.or_eq_false_iff] at hc)) | refine callF_v (H.out _ (by (repeat (first | exact Sub.refl _ | (refine Sub.drop ?_ ?_; focus (simp only [evN, *]; done)) | refine Sub.both ?_)); done)) ?_ | refine ccallF_of (H.out _ (by (repeat (first | exact Sub.refl _ | (refine Sub.drop ?_ ?_; focus (simp only [evN, *]; done)) | refine Sub.both ?_)); done)) ?_ | refine gcallF_of (H.out _ (by (repeat (first | exact Sub.refl _ | (refine Sub.drop ?_ ?_; focus (simp only [evN, *]; done)) | refine Sub.both ?_)); done)) ?_ | (intro _; intros) | (refine And.intro ?_ ?_; focus (first | omega | ((repeat (first | exact Sub.refl _ | (refine Sub.drop ?_ ?_; focus (simp only [evN, *]; done)) | refine Sub.both ?_)); done) | (simp_all; done) | (simp_all; omega)))))
  refine callF_of (ACalls.beside ?_ (ACalls.beside ?_ HO.out)) ?_
  · (simp only [evN, *]; done)
  · (simp only [evN, *]; done)
  rintro u σ'' ⟨_, ⟨σ1, ⟨m', b, rfl, hw, hk, hR⟩, n1, rfl⟩, n2, rfl⟩
  simp only [none_upd] at n2
  have HR := Hid.mk hR
  clear hR
  simp +contextual -dsimp only [*, CliC, Msg.cells, ↓reduceIte, ↓evP, evQ, splice, Nat.reduceAdd, Nat.reduceEqDiff, Nat.reduceLeDiff, Nat.reduceMul, reduceCtorEq, Int.reduceLT, Int.reduceLE, Int.reduceGT, Int.reduceGE, Int.reduceEq, Int.reduceNeg]
  exact endF_sub (τ := σ1) (by (repeat (first | exact Sub.refl _ | (refine Sub.drop ?_ ?_; focus (simp only [evN, *]; done)) | refine Sub.both ?_)); done) ⟨m', b, rfl, hw, hk, HR.out⟩
theorem read34g {c : Value} {t : Int} {p : Nat × Nat} {σ : Hp} {key : ByteArray} {R : Bool → ByteArray → Msg → Int → Hp → Prop} (h : YesT c t p σ)
    (hop : ACalls Tryz.prog 51 #[.pointer (some ⟨p.1, 0, none⟩), .string key] σ fun u σ' => ∃ x d m e, u = .tuple #[.agg #[.bool x, .string d], .agg (Msg.cells m).toArray, .int .i64 e] ∧ one m.writes = true ∧ one m.keys = true ∧ R x d m e σ') :
    ACalls Tryz.prog 22 #[c, .int .i64 t, .string key] σ fun u σ' => ∃ x d m e, u = .tuple #[.agg #[.bool x, .string d], .agg (Msg.cells m).toArray, .int .i64 e] ∧ one m.writes = true ∧ one m.keys = true ∧ R x d m e σ' := by
  have H := Hid.mk h
  have HO := Hid.mk hop
  clear h hop
  (refine acalls_F ok22 (by simp) ?_; unfold c22 r22)
  (repeat' (first | (simp +contextual -dsimp only [*, CliC, Msg.cells, ↓reduceIte, ↓evP, evQ, splice, Nat.reduceAdd, Nat.reduceEqDiff, Nat.reduceLeDiff, Nat.reduceMul, reduceCtorEq, Int.reduceLT, Int.reduceLE, Int.reduceGT, Int.reduceGE, Int.reduceEq, Int.reduceNeg]) | (refine condF_split (fun hc => ?_) (fun hc => ?_) <;> (try simp only [Bool.not_eq_true', Bool.not_eq_false', Bool.and_eq_true, Bool.or_eq_false_iff] at hc)) | refine callF_v (H.out _ (by (repeat (first | exact Sub.refl _ | (refine Sub.drop ?_ ?_; focus (simp only [evN, *]; done)) | refine Sub.both ?_)); done)) ?_ | refine ccallF_of (H.out _ (by (repeat (first | exact Sub.refl _ | (refine Sub.drop ?_ ?_; focus (simp only [evN, *]; done)) | refine Sub.both ?_)); done)) ?_ | refine gcallF_of (H.out _ (by (repeat (first | exact Sub.refl _ | (refine Sub.drop ?_ ?_; focus (simp only [evN, *]; done)) | refine Sub.both ?_)); done)) ?_ | (intro _; intros) | (refine And.intro ?_ ?_; focus (first | omega | ((repeat (first | exact Sub.refl _ | (refine Sub.drop ?_ ?_; focus (simp only [evN, *]; done)) | refine Sub.both ?_)); done) | (simp_all; done) | (simp_all; omega)))))
  refine callF_of (ACalls.beside ?_ (ACalls.beside ?_ HO.out)) ?_
  · (simp only [evN, *]; done)
  · (simp only [evN, *]; done)
  rintro u σ'' ⟨_, ⟨σ1, ⟨x, d, m, e, rfl, hw, hk, hR⟩, n1, rfl⟩, n2, rfl⟩
  simp only [none_upd] at n2
  have HR := Hid.mk hR
  clear hR
  simp +contextual -dsimp only [*, CliC, Msg.cells, ↓reduceIte, ↓evP, evQ, splice, Nat.reduceAdd, Nat.reduceEqDiff, Nat.reduceLeDiff, Nat.reduceMul, reduceCtorEq, Int.reduceLT, Int.reduceLE, Int.reduceGT, Int.reduceGE, Int.reduceEq, Int.reduceNeg]
  exact endF_sub (τ := σ1) (by (repeat (first | exact Sub.refl _ | (refine Sub.drop ?_ ?_; focus (simp only [evN, *]; done)) | refine Sub.both ?_)); done) ⟨x, d, m, e, rfl, hw, hk, HR.out⟩
theorem _root_.Go.Sp.gcallF_beside {P : Program} {f : FuncId} {args : List Value} {σ₀ σ : Hp} {R K : Value → Hp → Prop} {δ : Dep K} (h : ACalls P f args.toArray σ₀ R) (h0 : Sub σ₀ σ) (hs : ∀ v σ₁, R v σ₁ → Sub σ₀ σ₁)
    (hk : ∀ v σ₁ σm, R v σ₁ → Sub σ₁ σm → Same (fun _ => False) σ σm → (∀ k, σ₁ k = none → σm k = σ k) → (∀ k, σ₁ k ≠ none → σ₀ k = none → σ k = none) → K v σm) : gcallF P f args σ₀ σ K δ :=
  ⟨R, h, fun v σ₁ hr _ => ⟨hs v σ₁ hr, fun hd => hk v σ₁ _ hr (fun k => by
    unfold mrg
    cases e0 : σ₀ k with
    | none =>
      cases e1 : σ₁ k with
      | none => exact .inl rfl
      | some o => exact .inr rfl
    | some o =>
      have e1 : σ₁ k = some o := by rcases hs v σ₁ hr k with e | e
                                    · rw [e0] at e; cases e
                                    · rw [← e, e0]
      rw [e1]
      rcases h0 k with e | e
      · rw [e0] at e; cases e
      · exact .inr (by dsimp only; rw [← e, e0])) (fun k hk _ => by
    unfold mrg
    cases e0 : σ₀ k with
    | none =>
      cases e1 : σ₁ k with
      | none => rfl
      | some o => exact absurd (hd k e0 (by rw [e1]; simp)) hk
    | some o => rfl) (fun k hk => by
    unfold mrg
    rw [hk]
    cases σ₀ k <;> rfl) (fun k h1 h2 => hd k h2 h1)⟩⟩
theorem tx33g {c : Value} {t : Int} {p : Nat × Nat} {σ : Hp} {T : TxS} (h : YesT c t p σ)
    (hop : ∀ σ1, Sub σ σ1 → ACalls Tryz.prog 71 #[.pointer (some ⟨p.1, 0, none⟩)] σ1 fun u σ' => ∃ v', u = .agg (T.view v').toArray ∧ RowsAt 128 3 Got.cells σ' v' T.reads ∧ Made σ1 σ' v') :
    ACalls Tryz.prog 32 #[c, .int .i64 t] σ fun u σ' => ∃ v', u = .tuple #[.agg (T.view v').toArray, .bool true] ∧ RowsAt 128 3 Got.cells σ' v' T.reads ∧ Made σ σ' v' := by
  have H := Hid.mk h
  have HO := Hid.mk hop
  clear h hop
  (refine acalls_F ok32 (by simp) ?_; unfold c32 r32)
  (repeat' (first | (simp +contextual -dsimp only [*, CliC, Msg.cells, ↓reduceIte, ↓evP, evQ, splice, Nat.reduceAdd, Nat.reduceEqDiff, Nat.reduceLeDiff, Nat.reduceMul, reduceCtorEq, Int.reduceLT, Int.reduceLE, Int.reduceGT, Int.reduceGE, Int.reduceEq, Int.reduceNeg]) | (refine condF_split (fun hc => ?_) (fun hc => ?_) <;> (try simp only [Bool.not_eq_true', Bool.not_eq_false', Bool.and_eq_true, Bool.or_eq_false_iff] at hc)) | refine callF_v (H.out _ (by (repeat (first | exact Sub.refl _ | (refine Sub.drop ?_ ?_; focus (simp only [evN, *]; done)) | refine Sub.both ?_)); done)) ?_ | refine ccallF_of (H.out _ (by (repeat (first | exact Sub.refl _ | (refine Sub.drop ?_ ?_; focus (simp only [evN, *]; done)) | refine Sub.both ?_)); done)) ?_ | refine gcallF_of (H.out _ (by (repeat (first | exact Sub.refl _ | (refine Sub.drop ?_ ?_; focus (simp only [evN, *]; done)) | refine Sub.both ?_)); done)) ?_ | (intro _; intros) | (refine And.intro ?_ ?_; focus (first | omega | ((repeat (first | exact Sub.refl _ | (refine Sub.drop ?_ ?_; focus (simp only [evN, *]; done)) | refine Sub.both ?_)); done) | (simp_all; done) | (simp_all; omega)))))
  rename_i a a0 b b1 b1' b0
  have HS0 : Hid (Sub σ (upd σ b (.cells [.pointer (some ⟨p.1, 0, none⟩), .pointer (some ⟨p.2, 0, none⟩)] 96))) := ⟨Sub.drop b0 (Sub.refl _)⟩
  refine drawxF_of (σ₀ := upd σ b (.cells [.pointer (some ⟨p.1, 0, none⟩), .pointer (some ⟨p.2, 0, none⟩)] 96)) (by (repeat (first | exact Sub.refl _ | (refine Sub.drop ?_ ?_; focus (simp only [evN, *]; done)) | refine Sub.both ?_)); done) ?_
  simp +contextual -dsimp only [*, CliC, Msg.cells, ↓reduceIte, ↓evP, evQ, splice, Nat.reduceAdd, Nat.reduceEqDiff, Nat.reduceLeDiff, Nat.reduceMul, reduceCtorEq, Int.reduceLT, Int.reduceLE, Int.reduceGT, Int.reduceGE, Int.reduceEq, Int.reduceNeg]
  refine gcallF_beside (HO.out _ HS0.out) (by (repeat (first | exact Sub.refl _ | (refine Sub.drop ?_ ?_; focus (simp only [evN, *]; done)) | refine Sub.both ?_)); done) (fun u σ₁ h => ?_) ?_
  · obtain ⟨v', _, _, hM⟩ := h; exact hM.sub
  rintro u σ₁ σm ⟨v', rfl, hR, hM⟩ hs1 hs2 hs3 hs4
  obtain ⟨a', c', rfl⟩ := hR.slice
  have hRm := hR.subK hs1
  have ha := hs2.at (show upd (upd σ a (.cells noTx 88)) b (.cells [.pointer (some ⟨p.1, 0, none⟩), .pointer (some ⟨p.2, 0, none⟩)] 96) a = some (.cells noTx 88) by rw [upd_ne _ _ b1', upd_same]) (fun x => x)
  have hb := hs2.at (upd_same _ _ _) (fun x => x)
  have HF : Hid (∀ Y, Sub (upd σ b (.cells [.pointer (some ⟨p.1, 0, none⟩), .pointer (some ⟨p.2, 0, none⟩)] 96)) (upd σm a Y) ∧ RowsAt 128 3 Got.cells (upd σm a Y) (.slice a' T.reads.length c') T.reads ∧ Made σ (upd σm a Y) (.slice a' T.reads.length c')) :=
    ⟨fun Y => ⟨Sub.drop (by (simp only [evN, *]; done)) (hM.sub.trans hs1), hRm.keep fun k hk => upd_ne _ _ fun e => hRm.notCells ha (by rw [hk, e]), fun k hk _ => by
      have e1 : k ≠ a := fun e => hk (by rw [e]; exact a0)
      have e2 : k ≠ b := fun e => hk (by rw [e]; exact b0)
      rw [upd_ne _ _ e1, hs2 k (by rw [upd_ne _ _ e2, upd_ne _ _ e1]; exact hk) (fun x => x), upd_ne _ _ e2, upd_ne _ _ e1], fun k hk => ((none_upd _ _ _ _).1 (hM.2 k hk)).2⟩⟩
  clear hR hM hs1 hs2 hs3 hs4 hRm
  obtain ⟨τ, rfl⟩ := open_2 ha hb b1'
  clear ha hb
  unfold noTx TxS.view at *
  simp +contextual -dsimp only [*, CliC, Msg.cells, ↓reduceIte, ↓evP, evQ, splice, Nat.reduceAdd, Nat.reduceEqDiff, Nat.reduceLeDiff, Nat.reduceMul, reduceCtorEq, Int.reduceLT, Int.reduceLE, Int.reduceGT, Int.reduceGE, Int.reduceEq, Int.reduceNeg]
  refine ⟨?_, ?_⟩
  · have := (HF.out (.cells (T.view (.slice a' T.reads.length c')) 88)).1
    rw [upd_upd] at this; exact this
  (try simp +contextual -dsimp only [*, CliC, Msg.cells, ↓reduceIte, ↓evP, evQ, splice, Nat.reduceAdd, Nat.reduceEqDiff, Nat.reduceLeDiff, Nat.reduceMul, reduceCtorEq, Int.reduceLT, Int.reduceLE, Int.reduceGT, Int.reduceGE, Int.reduceEq, Int.reduceNeg])
  refine endF_at ⟨_, rfl, ?_, ?_⟩
  · have := (HF.out (.cells (T.view (.slice a' T.reads.length c')) 88)).2.1
    rw [upd_upd] at this; exact this
  · have := (HF.out (.cells (T.view (.slice a' T.reads.length c')) 88)).2.2
    rw [upd_upd] at this; exact this
theorem snoc_get {α : Type} {l : List α} {x y : α} {j : Nat} (h : (l ++ [x])[j]? = some y) : (j = l.length ∧ y = x) ∨ (j < l.length ∧ l[j]? = some y) := by
  rw [List.getElem?_append] at h
  split at h
  · rename_i hlt; exact .inr ⟨hlt, h⟩
  · rename_i hge
    have hlt := (List.getElem?_eq_some_iff.1 h).1
    simp only [List.length_cons, List.length_nil] at hlt
    have e : j - l.length = 0 := by omega
    rw [e] at h
    exact .inl ⟨by omega, (Option.some.inj h).symm⟩
theorem get_snoc {α : Type} {l : List α} {x y : α} {j : Nat} (h : l[j]? = some y) : (l ++ [x])[j]? = some y := by
  rw [List.getElem?_append_left (List.getElem?_eq_some_iff.1 h).1]; exact h
/-- One session more. -/
def CL.opens (C : CL) (k : Nat) (vs' : Value) : CL := { C with vs := vs', ss := C.ss ++ [⟨k, newS C.ss.length, .slice none 0 0, []⟩] }
theorem open_moved {σ σ' : Hp} {C : CL} (h : CliAt σ C) (ho : Opened σ C.g C.c C.vs C.vt C.vh (C.ss.map (·.g)) σ') : ∃ k vs', Moved σ C σ' (C.opens k vs') := by
  obtain ⟨k, vs', hk, hg, hr, hkk, hs, hv⟩ := ho
  refine ⟨k, vs', ⟨hg, ?_, ?_, ?_, ?_, ?_, ?_, ?_, h.dT, h.dR⟩, ?_, ?_⟩
  · show RowsAt _ _ _ _ _ ((C.ss ++ [_]).map _)
    rw [List.map_append]; exact hr
  · exact h.vt.sameF hs fun i hi e => e.elim (fun e => h.vt.notCells h.cli (by rw [hi, e])) (h.vt.apart h.vs (by decide) hi)
  · exact h.vh.sameF hs fun i hi e => e.elim (fun e => h.vh.notCells h.cli (by rw [hi, e])) (h.vh.apart h.vs (by decide) hi)
  · intro j x hx
    rcases snoc_get hx with ⟨rfl, rfl⟩ | ⟨_, hx⟩
    · rw [List.length_map] at hkk
      exact ⟨hkk, .inl ⟨rfl, rfl⟩⟩
    · obtain ⟨a, b⟩ := h.ses j x hx
      exact ⟨by rw [hs _ (by rw [a]; simp) (fun e => e.elim (cells_ne a h.cli (by decide)) (h.vs.notCells a))]; exact a,
        b.sameF hs fun i hi e => e.elim (fun e => b.notCells h.cli (by rw [hi, e])) (b.apart h.vs (by decide) hi)⟩
  · intro j t ht
    have a := h.tx j t ht
    exact a.keepF hs (fun e => e.elim (cells_ne a.1 h.cli (by decide)) (h.vs.notCells a.1)) fun i hi e => e.elim (fun e => a.2.notCells h.cli (by rw [hi, e])) (a.2.apart h.vs (by decide) hi)
  · intro j t ht
    obtain ⟨s, h1, h2⟩ := h.home j t ht
    exact ⟨s, get_snoc h1, h2⟩
  · intro a b x y hx hy e
    rcases snoc_get hx with ⟨ea, rfl⟩ | ⟨_, hx'⟩ <;> rcases snoc_get hy with ⟨eb, rfl⟩ | ⟨_, hy'⟩
    · rw [ea, eb]
    · exfalso; have := (h.ses b y hy').1; rw [← e] at this; rw [show (⟨k, newS C.ss.length, .slice none 0 0, []⟩ : SR).g = k from rfl, hk] at this; cases this
    · exfalso; have := (h.ses a x hx').1; rw [e] at this; rw [show (⟨k, newS C.ss.length, .slice none 0 0, []⟩ : SR).g = k from rfl, hk] at this; cases this
    · exact h.dS a b x y hx' hy' e
  · exact fun i hi hf => hs i hi fun e => hf (e.imp id .inl)
  · rintro i (e | e | e | e | ⟨x, hx, e⟩ | e)
    · exact .inl (.inl e)
    · exact (hv i e).imp (fun e => .inr (.inl e)) id
    · exact .inl (.inr (.inr (.inl e)))
    · exact .inl (.inr (.inr (.inr (.inl e))))
    · rcases List.mem_append.1 hx with hx | hx
      · exact .inl (.inr (.inr (.inr (.inr (.inl ⟨x, hx, e⟩)))))
      · obtain rfl := List.mem_singleton.1 hx
        rcases e with e | e
        · exact .inr (by rw [e]; exact hk)
        · cases e
    · exact .inl (.inr (.inr (.inr (.inr (.inr e)))))
/-- One transaction more. -/
def CL.begins (C : CL) (t : Nat) (vt' vh' : Value) (i : Nat) (s : SR) : CL := { C with vt := vt', vh := vh', ts := C.ts ++ [⟨t, newT C.ts.length C.c.nodes s.S.floor, .slice none 0 0, i, s.g⟩] }
theorem begin_moved {σ σ' : Hp} {C : CL} {i : Nat} {s : SR} (h : CliAt σ C) (hi : C.ss[i]? = some s) (hb : Begun σ C.g C.c C.vs C.vt C.vh (C.ts.map fun t => (t.g, t.h)) (C.ts.map fun t => (t.k : Int)) s.g i s.S.floor σ') : ∃ t vt' vh', Moved σ C σ' (C.begins t vt' vh' i s) := by
  obtain ⟨t, vt', vh', ht, hg, hr1, hr2, htt, hs, hv1, hv2⟩ := hb
  have F : ∀ {α : Type} {E sz : Nat} {f : α → List Value} {v : Value} {l : List α}, RowsAt E sz f σ v l → E ≠ 96 → E ≠ 3 → ∀ j, blk v = some j → ¬ (j = C.g ∨ blk C.vt = some j ∨ blk C.vh = some j) := fun r e1 e2 j hj e => by
    rcases e with e | e | e
    · exact r.notCells h.cli (by rw [hj, e])
    · exact r.apart h.vt e1 hj e
    · exact r.apart h.vh e2 hj e
  have G : ∀ {j : Nat} {cs : List Value} {ty : TypeId}, σ j = some (.cells cs ty) → ty ≠ 67 → ¬ (j = C.g ∨ blk C.vt = some j ∨ blk C.vh = some j) := fun a e1 e => by
    rcases e with e | e | e
    · exact cells_ne a h.cli e1 e
    · exact h.vt.notCells a e
    · exact h.vh.notCells a e
  refine ⟨t, vt', vh', ⟨hg, ?_, ?_, ?_, ?_, ?_, ?_, h.dS, ?_, ?_⟩, ?_, ?_⟩
  · exact h.vs.sameF hs (F h.vs (by decide) (by decide))
  · show RowsAt _ _ _ _ _ ((C.ts ++ [_]).map _)
    rw [List.map_append]; exact hr1
  · show RowsAt _ _ _ _ _ ((C.ts ++ [_]).map _)
    rw [List.map_append]; exact hr2
  · intro j x hx
    obtain ⟨a, b⟩ := h.ses j x hx
    exact ⟨by rw [hs _ (by rw [a]; simp) (G a (by decide))]; exact a, b.sameF hs (F b (by decide) (by decide))⟩
  · intro j x hx
    rcases snoc_get hx with ⟨rfl, rfl⟩ | ⟨_, hx⟩
    · rw [List.length_map] at htt
      exact ⟨htt, .inl ⟨rfl, rfl⟩⟩
    · have a := h.tx j x hx
      exact a.keepF hs (G a.1 (by decide)) (F a.2 (by decide) (by decide))
  · intro j x hx
    rcases snoc_get hx with ⟨rfl, rfl⟩ | ⟨_, hx⟩
    · exact ⟨s, hi, rfl⟩
    · exact h.home j x hx
  · intro a b x y hx hy e
    rcases snoc_get hx with ⟨ea, rfl⟩ | ⟨_, hx'⟩ <;> rcases snoc_get hy with ⟨eb, rfl⟩ | ⟨_, hy'⟩
    · rw [ea, eb]
    · exfalso; have := (h.tx b y hy').1; rw [← e] at this; rw [ht] at this; cases this
    · exfalso; have := (h.tx a x hx').1; rw [e] at this; rw [ht] at this; cases this
    · exact h.dT a b x y hx' hy' e
  · intro a b x y k hx hy ex ey
    rcases snoc_get hx with ⟨ea, rfl⟩ | ⟨_, hx'⟩
    · cases ex
    · rcases snoc_get hy with ⟨eb, rfl⟩ | ⟨_, hy'⟩
      · cases ey
      · exact h.dR a b x y k hx' hy' ex ey
  · exact fun i hi hf => hs i hi fun e => hf (e.imp id fun e => e.elim (fun e => .inr (.inl e)) fun e => .inr (.inr (.inl e)))
  · rintro j (e | e | e | e | e | ⟨x, hx, e⟩)
    · exact .inl (.inl e)
    · exact .inl (.inr (.inl e))
    · exact (hv1 j e).imp (fun e => .inr (.inr (.inl e))) id
    · exact (hv2 j e).imp (fun e => .inr (.inr (.inr (.inl e)))) id
    · exact .inl (.inr (.inr (.inr (.inr (.inl e)))))
    · rcases List.mem_append.1 hx with hx | hx
      · exact .inl (.inr (.inr (.inr (.inr (.inr ⟨x, hx, e⟩)))))
      · obtain rfl := List.mem_singleton.1 hx
        rcases e with e | e
        · exact .inr (by rw [e]; exact ht)
        · cases e
theorem openC {σ : Hp} {C : CL} (h : CliAt σ C) (hn : C.ss.length < 64) : ACalls Tryz.prog 12 #[.pointer (some ⟨C.g, 0, none⟩)] σ fun u σ' => u = .tuple #[.int .i64 C.ss.length, .int .i64 0] ∧ ∃ k vs', Moved σ C σ' (C.opens k vs') :=
  (open31 h.cli h.vs (by simpa using hn)).mono fun u σ' ⟨h1, h2⟩ => ⟨by simpa using h1, open_moved h h2⟩
theorem openF {σ : Hp} {C : CL} (h : CliAt σ C) (hn : C.ss.length ≥ 64) : ACalls Tryz.prog 12 #[.pointer (some ⟨C.g, 0, none⟩)] σ fun u σ' => u = .tuple #[.int .i64 0, .int .i64 2] ∧ σ' = σ :=
  open31f h.cli h.vs (by simpa using hn)
theorem beginC {σ : Hp} {C : CL} {i : Nat} {s : SR} (h : CliAt σ C) (hi : C.ss[i]? = some s) (hn : C.ts.length < 256) : ACalls Tryz.prog 18 #[.pointer (some ⟨C.g, 0, none⟩), .int .i64 i] σ fun u σ' => u = .tuple #[.int .i64 C.ts.length, .int .i64 0] ∧ ∃ t vt' vh', Moved σ C σ' (C.begins t vt' vh' i s) :=
  (begin32 h.cli h.vs h.vt h.vh (by simp [hi]) (h.ses i s hi).1 (by simpa using hn) (by simpa using hn)).mono fun u σ' ⟨h1, h2⟩ => ⟨by simpa using h1, begin_moved h hi h2⟩
theorem beginF {σ : Hp} {C : CL} {i : Nat} {s : SR} (h : CliAt σ C) (hi : C.ss[i]? = some s) (hn : C.ts.length ≥ 256) : ACalls Tryz.prog 18 #[.pointer (some ⟨C.g, 0, none⟩), .int .i64 i] σ fun u σ' => u = .tuple #[.int .i64 0, .int .i64 2] ∧ σ' = σ :=
  begin32f (k := s.g) h.cli h.vs h.vt (by simp [hi]) (by simpa using hn)
theorem newC (c : Cfg) (σ : Hp) : ACalls Tryz.prog 6 #[.agg c.cells.toArray] σ fun u σ' => ∃ g, σ g = none ∧ u = .pointer (some ⟨g, 0, none⟩) ∧ Sub σ σ' ∧ CliAt σ' ⟨g, c.held, .slice none 0 0, .slice none 0 0, .slice none 0 0, [], []⟩ :=
  (new30 c σ).mono fun u σ' ⟨g, hg, hu, hs⟩ => ⟨g, hg, hu, by rw [hs]; exact Sub.drop hg (Sub.refl _), by
    rw [hs]
    exact ⟨upd_same _ _ _, .inl ⟨rfl, rfl⟩, .inl ⟨rfl, rfl⟩, .inl ⟨rfl, rfl⟩, fun i s h => by simp at h, fun i s h => by simp at h, fun i s h => by simp at h, fun i j s s' h => by simp at h, fun i j s s' h => by simp at h, fun i j s s' k h => by simp at h⟩⟩
theorem newOwn {g : Nat} {c : Cfg} {k : Nat} (h : CL.own ⟨g, c, .slice none 0 0, .slice none 0 0, .slice none 0 0, [], []⟩ k) : k = g := by
  rcases h with e | e | e | e | ⟨x, hx, _⟩ | ⟨x, hx, _⟩
  · exact e
  · cases e
  · cases e
  · cases e
  · cases hx
  · cases hx
/-- A client beside what was there: σ0. -/
structure Cli (σ0 σ : Hp) (C : CL) : Prop where
  at_ : CliAt σ C
  sub : Sub σ0 σ
  new : ∀ k, C.own k → σ0 k = none
theorem Cli.on {σ0 σ σ' : Hp} {C C' : CL} (h : Cli σ0 σ C) (m : Moved σ C σ' C') : Cli σ0 σ' C' := ⟨m.1, (m.sub h.sub h.new).1, (m.sub h.sub h.new).2⟩
theorem newCli (c : Cfg) (σ : Hp) : ACalls Tryz.prog 6 #[.agg c.cells.toArray] σ fun u σ' => ∃ g, u = .pointer (some ⟨g, 0, none⟩) ∧ Cli σ σ' ⟨g, c.held, .slice none 0 0, .slice none 0 0, .slice none 0 0, [], []⟩ :=
  (newC c σ).mono fun u σ' ⟨g, hg, hu, hs, ha⟩ => ⟨g, hu, ha, hs, fun k hk => by rw [newOwn hk]; exact hg⟩
theorem same_set (σ : Hp) (g : Nat) (o : Blk) : Same (fun k => k = g) σ (set σ g o) := fun k _ hf => upd_ne _ _ hf
theorem ses_set {σ : Hp} {C : CL} {i : Nat} {s : SR} (h : CliAt σ C) (hi : C.ss[i]? = some s) (S' : SesS) : Moved σ C (set σ s.g (.cells (S'.cells s.v) 130)) (C.ses i s S' s.v s.ws) :=
  ses_moved h hi (same_set _ _ _) (upd_same _ _ _) ((h.ses i s hi).2.sameF (same_set _ _ _) fun k hk e => (h.ses i s hi).2.notCells (h.ses i s hi).1 (by rw [hk, e])) fun k hk => .inl hk
theorem ses_clear {σ : Hp} {C : CL} {i : Nat} {s : SR} (h : CliAt σ C) (hi : C.ss[i]? = some s) (S' : SesS) : Moved σ C (set σ s.g (.cells (S'.cells (.slice none 0 0)) 130)) (C.ses i s S' (.slice none 0 0) []) :=
  ses_moved h hi (same_set _ _ _) (upd_same _ _ _) (.inl ⟨rfl, rfl⟩) fun k hk => by cases hk
theorem tx_set {σ : Hp} {C : CL} {i : Nat} {t : TR} (h : CliAt σ C) (hi : C.ts[i]? = some t) (T' : TxS) (hr : T'.reads = t.T.reads) : Moved σ C (set σ t.g (.cells (T'.cells t.v) 133)) (C.tx i t T' t.v) :=
  tx_moved h hi ((h.tx i t hi).same (same_set _ _ _) (upd_same _ _ _) hr) ⟨fun k hk hf => upd_ne _ _ fun e => hf (.inl e), fun k hk => .inl hk⟩
theorem tokenC {σ : Hp} {C : CL} {i : Nat} {s : SR} (hG : Glob σ) (h : CliAt σ C) (hi : C.ss[i]? = some s) : ACalls Tryz.prog 16 #[.pointer (some ⟨C.g, 0, none⟩), .int .i64 i] σ fun u σ' => u = .tuple #[.string (tokV s.S.floor), .int .i64 (tokE s.S.floor)] ∧ σ' = σ :=
  token41g (yesS h hi) (floor26 (h.ses i s hi).1) (token19 hG _)
theorem joinC {σ : Hp} {C : CL} {i : Nat} {s : SR} (hG : Glob σ) (h : CliAt σ C) (hi : C.ss[i]? = some s) (t : ByteArray) (ht : t.size ≤ 281474976710656) :
    ACalls Tryz.prog 17 #[.pointer (some ⟨C.g, 0, none⟩), .int .i64 i, .string t] σ fun u σ' => u = .int .i64 (parE t) ∧ Moved σ C σ' (C.ses i s (s.S.joined t) s.v s.ws) :=
  (join43g (yesS h hi) (join24 hG (h.ses i s hi).1 t ht)).mono fun u σ' ⟨h1, h2⟩ => ⟨h1, by rw [h2]; exact ses_set h hi _⟩
theorem ackC {σ : Hp} {C : CL} {i : Nat} {s : SR} {m : Msg} (h : CliAt σ C) (hi : C.ss[i]? = some s) (hm : m.kind = 2) (hs : m.session = i) :
    ACalls Tryz.prog 15 #[.pointer (some ⟨C.g, 0, none⟩), .agg m.cells.toArray] σ fun u σ' => u = .tuple #[.agg ({} : Msg).cells.toArray, .bool (s.S.hears m)] ∧ Moved σ C σ' (cond (s.S.hears m) (C.ses i s (s.S.acked m) (.slice none 0 0) []) C) :=
  (hear35a (R := fun b σ' => b = s.S.hears m ∧ Moved σ C σ' (cond (s.S.hears m) (C.ses i s (s.S.acked m) (.slice none 0 0) []) C)) hm (by rw [hs]; exact yesS h hi) ((ack25 (h.ses i s hi).1 m).mono fun u σ' ⟨h1, h2⟩ => ⟨_, h1, rfl, by
    rw [h2]
    cases s.S.hears m
    · exact Moved.refl h
    · exact ses_clear h hi _⟩)).mono fun u σ' ⟨b, h1, h2, h3⟩ => ⟨by rw [h1, h2], h3⟩
theorem viewC {σ : Hp} {C : CL} {i : Nat} {s : SR} (h : CliAt σ C) (hi : C.ss[i]? = some s) : ACalls Tryz.prog 30 #[.pointer (some ⟨C.g, 0, none⟩), .int .i64 i] σ fun u σ' => u = .tuple #[.agg s.S.view.toArray, .bool true] ∧ σ' = σ :=
  session37g (yesS h hi) fun σ' hs => view18 (Sub.at hs (h.ses i s hi).1)
theorem txC {σ : Hp} {C : CL} {i : Nat} {t : TR} (h : CliAt σ C) (hi : C.ts[i]? = some t) (hn : t.T.reads.length * 40 ≤ 140737488355328) : ACalls Tryz.prog 32 #[.pointer (some ⟨C.g, 0, none⟩), .int .i64 i] σ fun u σ' => ∃ v', u = .tuple #[.agg (t.T.view v').toArray, .bool true] ∧ RowsAt 128 3 Got.cells σ' v' t.T.reads ∧ Made σ σ' v' :=
  tx33g (yesT h hi) fun σ' hs => view63 ⟨Sub.at hs (h.tx i t hi).1, (h.tx i t hi).2.subK hs⟩ hn
set_option maxRecDepth 100000 in
theorem readC {σ : Hp} {C : CL} {i : Nat} {t : TR} (h : CliAt σ C) (hi : C.ts[i]? = some t) (key : ByteArray) (hk : key.size ≤ 140737488351232) (hn : t.T.reads.length ≤ 140737488351232) :
    ACalls Tryz.prog 22 #[.pointer (some ⟨C.g, 0, none⟩), .int .i64 i, .string key] σ fun u σ' => u = .tuple #[.agg #[.bool (t.T.read key).2.1.1, .string (t.T.read key).2.1.2], .agg (t.T.read key).2.2.1.cells.toArray, .int .i64 (t.T.read key).2.2.2] ∧ Moved σ C σ' (C.tx i t (t.T.read key).1 t.v) :=
by
  have k := read64 (h.tx i t hi).1 (h.tx i t hi).2 key hk hn
  have n1 : one (t.T.read key).2.2.1.writes = true := by rw [(nil_read t.T key).1]; rfl
  have n2 : one (t.T.read key).2.2.1.keys = true := by rw [(nil_read t.T key).2]; rfl
  have m := tx_set h hi (t.T.read key).1 (reads_read _ _)
  generalize t.T.read key = x at k n1 n2 m ⊢
  obtain ⟨T', ⟨x, d⟩, mm, e⟩ := x
  refine (read34g (p := (t.g, t.h)) (R := fun x' d' m' e' σ' => x' = x ∧ d' = d ∧ m' = mm ∧ e' = e ∧ Moved σ C σ' (C.tx i t T' t.v)) (yesT h hi) (k.mono ?_)).mono ?_
  · rintro u σ' ⟨h1, rfl⟩
    exact ⟨x, d, mm, e, h1, n1, n2, rfl, rfl, rfl, rfl, m⟩
  · rintro u σ' ⟨x', d', m', e', h1, _, _, rfl, rfl, rfl, rfl, h6⟩
    exact ⟨h1, h6⟩
theorem hearC {σ : Hp} {C : CL} {i : Nat} {t : TR} {m : Msg} (h : CliAt σ C) (hi : C.ts[i]? = some t) (hm : m.kind ≠ 2) (hs : m.tx = i) (hk : t.T.key.size ≤ 140737488351232) (hn : (t.T.reads.length + 1) * 40 ≤ 140737488355328) :
    ACalls Tryz.prog 15 #[.pointer (some ⟨C.g, 0, none⟩), .agg m.cells.toArray] σ fun u σ' => u = .tuple #[.agg (t.T.hear m).2.1.cells.toArray, .bool (t.T.hear m).2.2] ∧ ∃ v', Moved σ C σ' (C.tx i t (t.T.hear m).1 v') :=
by
  have k := hear65 (h.tx i t hi) m hk hn
  have n1 : one (t.T.hear m).2.1.writes = true := by rw [(nil_hear t.T m).1]; rfl
  have n2 : one (t.T.hear m).2.1.keys = true := by rw [(nil_hear t.T m).2]; rfl
  generalize t.T.hear m = x at k n1 n2 ⊢
  obtain ⟨T', mm, b⟩ := x
  refine (hear35t (p := (t.g, t.h)) (R := fun m' b' σ' => m' = mm ∧ b' = b ∧ ∃ v', Moved σ C σ' (C.tx i t T' v')) hm (by rw [hs]; exact yesT h hi) (k.mono ?_)).mono ?_
  · rintro u σ' ⟨h1, v', h2, h3⟩
    exact ⟨mm, b, h1, n1, n2, rfl, rfl, v', tx_moved h hi h2 h3⟩
  · rintro u σ' ⟨m', b', h1, _, _, rfl, rfl, h6⟩
    exact ⟨h1, h6⟩
theorem retryC {σ : Hp} {C : CL} {i : Nat} {t : TR} (h : CliAt σ C) (hi : C.ts[i]? = some t) (hk : t.T.key.size ≤ 140737488351232) :
    ACalls Tryz.prog 25 #[.pointer (some ⟨C.g, 0, none⟩), .int .i64 i] σ fun u σ' => u = .tuple #[.agg (t.T.again C.c.retries).2.1.cells.toArray, .int .i64 (t.T.again C.c.retries).2.2] ∧ Moved σ C σ' (C.tx i t (t.T.again C.c.retries).1 t.v) :=
by
  have k := again69 (h.tx i t hi).1 C.c.retries hk
  have n1 : one (t.T.again C.c.retries).2.1.writes = true := by rw [(nil_again t.T _).1]; rfl
  have n2 : one (t.T.again C.c.retries).2.1.keys = true := by rw [(nil_again t.T _).2]; rfl
  have m := tx_set h hi (t.T.again C.c.retries).1 (reads_again _ _)
  generalize t.T.again C.c.retries = x at k n1 n2 m ⊢
  obtain ⟨T', mm, e⟩ := x
  refine (retry42g (p := (t.g, t.h)) (R := fun m' e' σ' => m' = mm ∧ e' = e ∧ Moved σ C σ' (C.tx i t T' t.v)) (yesT h hi) (rtC h) (k.mono ?_)).mono ?_
  · rintro u σ' ⟨h1, rfl⟩
    exact ⟨mm, e, h1, n1, n2, rfl, rfl, m⟩
  · rintro u σ' ⟨m', b', h1, _, _, rfl, rfl, h6⟩
    exact ⟨h1, h6⟩
/-- What a finish leaves of the client. -/
def CL.fin (C : CL) (i : Nat) (t : TR) (s : SR) : CL := cond (decide (t.T.finish.2.2 = 0)) ((C.tx i t t.T.finish.1 t.v).ses t.k s (s.S.raise t.T.finish.2.1) s.v s.ws) (C.tx i t t.T.finish.1 t.v)
theorem finish36g {σ : Hp} {c : Value} {i : Int} {t s : Nat} {T : TxS} {S : SesS} {v w : Value} (h : YesT c i (t, s) σ) (ht : σ t = some (.cells (T.cells v) 133)) (hs : σ s = some (.cells (S.cells w) 130)) :
    ACalls Tryz.prog 19 #[c, .int .i64 i] σ fun u σ' => u = .tuple #[.int .i64 T.finish.2.1, .int .i64 T.finish.2.2] ∧ σ' = cond (decide (T.finish.2.2 = 0)) (set (set σ t (.cells (T.finish.1.cells v) 133)) s (.cells ((S.raise T.finish.2.1).cells w) 130)) (set σ t (.cells (T.finish.1.cells v) 133)) := by
  have H := Hid.mk h
  have hne : ¬ t = s := cells_ne ht hs (by decide)
  have hne' : ¬ s = t := fun e => hne e.symm
  obtain ⟨τ, rfl⟩ := open_2 ht hs hne
  clear h ht hs
  (refine acalls_F ok19 (by simp) ?_; unfold c19 r19)
  (repeat' (first | (simp +contextual -dsimp only [*, CliC, Msg.cells, ↓reduceIte, ↓evP, evQ, splice, Nat.reduceAdd, Nat.reduceEqDiff, Nat.reduceLeDiff, Nat.reduceMul, reduceCtorEq, Int.reduceLT, Int.reduceLE, Int.reduceGT, Int.reduceGE, Int.reduceEq, Int.reduceNeg]) | (refine condF_split (fun hc => ?_) (fun hc => ?_) <;> (try simp only [Bool.not_eq_true', Bool.not_eq_false', Bool.and_eq_true, Bool.or_eq_false_iff] at hc)) | refine callF_v (H.out _ (by (repeat (first | exact Sub.refl _ | (refine Sub.drop ?_ ?_; focus (simp only [evN, *]; done)) | refine Sub.both ?_)); done)) ?_ | refine callF_v (finish66 (T := T) (v := v) (by first | rfl | (simp only [upd_same, upd_at, set_at, *, ↓reduceIte]; done) | (simp only [upd_same, upd_at, set_at, *, ↓reduceIte]; rfl))) ?_ | refine callF_v (raise23 (S := S) (v := w) (by first | rfl | (simp only [upd_same, upd_at, set_at, *, ↓reduceIte]; done) | (simp only [upd_same, upd_at, set_at, *, ↓reduceIte]; rfl)) _) ?_ | refine ccallF_of (H.out _ (by (repeat (first | exact Sub.refl _ | (refine Sub.drop ?_ ?_; focus (simp only [evN, *]; done)) | refine Sub.both ?_)); done)) ?_ | refine ccallF_of (finish66 (T := T) (v := v) (by first | rfl | (simp only [upd_same, upd_at, set_at, *, ↓reduceIte]; done) | (simp only [upd_same, upd_at, set_at, *, ↓reduceIte]; rfl))) ?_ | refine ccallF_of (raise23 (S := S) (v := w) (by first | rfl | (simp only [upd_same, upd_at, set_at, *, ↓reduceIte]; done) | (simp only [upd_same, upd_at, set_at, *, ↓reduceIte]; rfl)) _) ?_ | refine gcallF_of (H.out _ (by (repeat (first | exact Sub.refl _ | (refine Sub.drop ?_ ?_; focus (simp only [evN, *]; done)) | refine Sub.both ?_)); done)) ?_ | refine gcallF_of (finish66 (T := T) (v := v) (by first | rfl | (simp only [upd_same, upd_at, set_at, *, ↓reduceIte]; done) | (simp only [upd_same, upd_at, set_at, *, ↓reduceIte]; rfl))) ?_ | refine gcallF_of (raise23 (S := S) (v := w) (by first | rfl | (simp only [upd_same, upd_at, set_at, *, ↓reduceIte]; done) | (simp only [upd_same, upd_at, set_at, *, ↓reduceIte]; rfl)) _) ?_ | (intro _; intros) | (refine And.intro ?_ ?_; focus (first | omega | ((repeat (first | exact Sub.refl _ | (refine Sub.drop ?_ ?_; focus (simp only [evN, *]; done)) | refine Sub.both ?_)); done) | (simp_all; done) | (simp_all; omega)))))
  all_goals (refine endF_det rfl ?_; simp only [cond_true, cond_false, *, set_same, set_ne, ↓reduceIte, not_false_eq_true]; exact (by (repeat (first | exact Sub.refl _ | (refine Sub.drop ?_ ?_; focus (simp only [evN, *]; done)) | refine Sub.both ?_)); done))
theorem finishC {σ : Hp} {C : CL} {i : Nat} {t : TR} {s : SR} (h : CliAt σ C) (hi : C.ts[i]? = some t) (hs : C.ss[t.k]? = some s) (hg : s.g = t.h) :
    ACalls Tryz.prog 19 #[.pointer (some ⟨C.g, 0, none⟩), .int .i64 i] σ fun u σ' => u = .tuple #[.int .i64 t.T.finish.2.1, .int .i64 t.T.finish.2.2] ∧ Moved σ C σ' (C.fin i t s) :=
  (finish36g (by rw [hg]; exact yesT h hi) (h.tx i t hi).1 (h.ses t.k s hs).1).mono fun u σ' ⟨h1, h2⟩ => ⟨h1, by
    rw [h2]
    have m1 := tx_set h hi t.T.finish.1 (reads_finish _)
    unfold CL.fin
    cases decide (t.T.finish.2.2 = 0)
    · exact m1
    · exact m1.trans (ses_set m1.1 hs _)⟩
/-- What turns beside the client leaves it. -/
theorem CliAt.keep {σ σ' : Hp} {C : CL} {F : Nat → Prop} (h : CliAt σ C) (hs : Same F σ σ') (hF : ∀ k, C.own k → ¬ F k) : CliAt σ' C := by
  have own1 : ∀ (i : Nat) s, C.ss[i]? = some s → ∀ k, (k = s.g ∨ blk s.v = some k) → C.own k := fun i s hi k e => .inr (.inr (.inr (.inr (.inl ⟨s, List.mem_of_getElem? hi, e⟩))))
  have own2 : ∀ (i : Nat) t, C.ts[i]? = some t → ∀ k, (k = t.g ∨ blk t.v = some k) → C.own k := fun i t hi k e => .inr (.inr (.inr (.inr (.inr ⟨t, List.mem_of_getElem? hi, e⟩))))
  refine ⟨?_, h.vs.sameF hs fun k hk => hF k (.inr (.inl hk)), h.vt.sameF hs fun k hk => hF k (.inr (.inr (.inl hk))), h.vh.sameF hs fun k hk => hF k (.inr (.inr (.inr (.inl hk)))), ?_, ?_, h.home, h.dS, h.dT, h.dR⟩
  · rw [hs _ (by rw [h.cli]; simp) (hF _ (.inl rfl))]; exact h.cli
  · intro i s hi
    obtain ⟨a, b⟩ := h.ses i s hi
    exact ⟨by rw [hs _ (by rw [a]; simp) (hF _ (own1 i s hi _ (.inl rfl)))]; exact a, b.sameF hs fun k hk => hF k (own1 i s hi k (.inr hk))⟩
  · intro i t hi
    exact (h.tx i t hi).keepF hs (hF _ (own2 i t hi _ (.inl rfl))) fun k hk => hF k (own2 i t hi k (.inr hk))
theorem CliAt.fresh {σ : Hp} {C : CL} (h : CliAt σ C) {b : Nat} (hb : σ b = none) (X : Blk) : CliAt (upd σ b X) C :=
  h.keep (F := fun _ => False) (Same.updNew hb (Same.refl _ _)) fun _ _ x => x
theorem Cli.beside {σ0 σ : Hp} {C : CL} (h : Cli σ0 σ C) {b : Nat} (hb : σ b = none) (X : Blk) : Cli (upd σ0 b X) (upd σ b X) C :=
  ⟨h.at_.fresh hb X, h.sub.both, fun k hk => by rw [upd_ne _ _ (fun e => h.at_.known hk (by rw [e]; exact hb))]; exact h.new k hk⟩
theorem Cli.less {σ0 σ τ : Hp} {C : CL} (h : Cli σ0 σ C) (hs : Sub τ σ0) : Cli τ σ C := ⟨h.at_, hs.trans h.sub, fun k hk => hs.noneAt (h.new k hk)⟩
theorem msg_cells (S : SesS) (v : Value) : S.msg v = Msg.cells { kind := 1, session := S.id, seq := S.seq, writes := v } := rfl
theorem commitC {σ0 σ : Hp} {C : CL} {i : Nat} {s : SR} {w : Value} {ws : List Wr} (h : Cli σ0 σ C) (hi : C.ss[i]? = some s) (hv : RoRows 3 Wr.cells σ0 w ws) (hn : ws.length * 40 ≤ 140737488355328) (hb : s.S.busy = false) (he : checkV ws = 0) (hq : decide (s.S.seq ≥ 2147483647) = false) :
    ACalls Tryz.prog 13 #[.pointer (some ⟨C.g, 0, none⟩), .int .i64 i, w] σ fun u σ' => ∃ v1 v2, u = .tuple #[.agg (Msg.cells { kind := 1, session := s.S.id, seq := s.S.sent.seq, writes := v2 }).toArray, .int .i64 0] ∧ Moved σ C σ' (C.ses i s s.S.sent v1 ws) ∧ RowsAt 52 3 Wr.cells σ' v2 ws ∧ New σ v2 ∧ blk v1 ≠ blk v2 := by
  have hs := h.at_.ses i s hi
  have hsub : Sub σ0 (off σ s.g) := fun k => by
    by_cases e : k = s.g
    · left; rw [e]; exact h.new _ (.inr (.inr (.inr (.inr (.inl ⟨s, List.mem_of_getElem? hi, .inl rfl⟩)))))
    · rw [off_ne _ e]; exact h.sub k
  have k := send15e hs.1 (hv.sub hsub) hn hb he hq
  refine (commit39g (R := fun m e σ' => e = 0 ∧ ∃ v1 v2, m = { kind := 1, session := s.S.id, seq := s.S.sent.seq, writes := v2 } ∧ Moved σ C σ' (C.ses i s s.S.sent v1 ws) ∧ RowsAt 52 3 Wr.cells σ' v2 ws ∧ New σ v2 ∧ blk v1 ≠ blk v2) (yesS h.at_ hi) (k.mono ?_)).mono ?_
  · rintro u σ' ⟨v1, v2, h1, h2, h3, h4, h5, h6, h7, h8⟩
    obtain ⟨a, c, hv2⟩ := h4.slice
    rw [msg_cells] at h1
    exact ⟨{ kind := 1, session := s.S.id, seq := s.S.sent.seq, writes := v2 }, 0, h1, by show one v2 = true; rw [hv2]; rfl, rfl, rfl, v1, v2, rfl, ses_moved h.at_ hi h5 h2 h3 fun k hk => .inr (h6 k hk), h4, h7, h8⟩
  · rintro u σ' ⟨m, e, h1, _, _, rfl, v1, v2, rfl, h2⟩
    exact ⟨v1, v2, h1, h2⟩
theorem put58 (k d : ByteArray) (σ : Hp) : ACalls Tryz.prog 14 #[.string k, .string d] σ fun v σ' => v = .agg #[.string k, .bool true, .string d] ∧ σ' = σ := by
  (refine acalls_F ok14 (by simp) ?_; unfold c14 r14)
  (repeat' (first | (simp +contextual -dsimp only [*, CliC, Msg.cells, ↓reduceIte, ↓evP, evQ, splice, Nat.reduceAdd, Nat.reduceEqDiff, Nat.reduceLeDiff, Nat.reduceMul, reduceCtorEq, Int.reduceLT, Int.reduceLE, Int.reduceGT, Int.reduceGE, Int.reduceEq, Int.reduceNeg]) | (refine condF_split (fun hc => ?_) (fun hc => ?_) <;> (try simp only [Bool.not_eq_true', Bool.not_eq_false', Bool.and_eq_true, Bool.or_eq_false_iff] at hc)) | (intro _; intros) | (refine And.intro ?_ ?_; focus (first | omega | ((repeat (first | exact Sub.refl _ | (refine Sub.drop ?_ ?_; focus (simp only [evN, *]; done)) | refine Sub.both ?_)); done) | (simp_all; done) | (simp_all; omega)))))
  all_goals (refine endF_det ?_ ?_; (focus ((try simp only [cond_true, cond_false, *]) <;> ((try simp only [decide_eq_true_eq, decide_eq_false_iff_not] at *) <;> first | rfl | (simp []; done) | (simp_all []; done) | (simp []; omega) | (simp []; (rw [Bool.eq_iff_iff]); simp; omega) | (simp_all [] <;> omega) | ((try unfold id); (rw [Value.bool.injEq, Bool.eq_iff_iff]); simp <;> omega) | ((try unfold id); (repeat' split) <;> simp_all <;> omega) | (simp_all [] <;> (repeat' split) <;> simp_all <;> omega)))); (focus ((try simp only [cond_true, cond_false, set_same, *]); exact (by (repeat (first | exact Sub.refl _ | (refine Sub.drop ?_ ?_; focus (simp only [evN, *]; done)) | refine Sub.both ?_)); done))))
theorem tok5 : tokV 5 = ⟨#[116, 53, 46, 109]⟩ ∧ tokE 5 = 0 := by
  have h : Lib.itoa 5 = [53] := by
    show (if (5 : Int) < 0 then _ else Lib.decDigits 5) = _
    rw [if_neg (by omega), Lib.decDigits, dif_pos (by omega)]; rfl
  unfold tokV tokE tokBad tokB deci
  rw [h]
  exact ⟨rfl, rfl⟩
theorem par5 : parE ⟨#[116, 53, 46, 109]⟩ = 0 ∧ parV ⟨#[116, 53, 46, 109]⟩ = 5 := by
  rw [← tok5.1]; exact parE_tok (by decide)
def w1 : Wr := ⟨⟨#[97]⟩, true, ⟨#[120]⟩⟩
set_option maxHeartbeats 4000000 in
set_option maxRecDepth 100000 in
theorem fixed29 {σ : Hp} (hG : Glob σ) : ACalls Tryz.prog 5 #[] σ fun u σ' => u = .bool true ∧ σ' = σ := by
  have HG := Hid.mk hG
  clear hG
  (refine acalls_F ok5 (by simp) ?_; unfold c5 r5)
  (repeat' (first | (simp +contextual -dsimp only [*, CliC, Msg.cells, ↓reduceIte, ↓evP, evQ, splice, Nat.reduceAdd, Nat.reduceEqDiff, Nat.reduceLeDiff, Nat.reduceMul, reduceCtorEq, Int.reduceLT, Int.reduceLE, Int.reduceGT, Int.reduceGE, Int.reduceEq, Int.reduceNeg]) | (refine condF_split (fun hc => ?_) (fun hc => ?_) <;> (try simp only [Bool.not_eq_true', Bool.not_eq_false', Bool.and_eq_true, Bool.or_eq_false_iff] at hc)) | (intro _; intros) | (refine And.intro ?_ ?_; focus (first | omega | ((repeat (first | exact Sub.refl _ | (refine Sub.drop ?_ ?_; focus (simp only [evN, *]; done)) | refine Sub.both ?_)); done) | (simp_all; done) | (simp_all; omega)))))
  refine callF_of (newCli { nodes := 1 } σ) ?_
  rintro u σ1 ⟨g, rfl, h1⟩
  generalize Cfg.held { nodes := 1 } = c0 at h1
  have H1 := Hid.mk h1
  clear h1
  (repeat' (first | (simp +contextual -dsimp only [*, CliC, Msg.cells, ↓reduceIte, ↓evP, evQ, splice, Nat.reduceAdd, Nat.reduceEqDiff, Nat.reduceLeDiff, Nat.reduceMul, reduceCtorEq, Int.reduceLT, Int.reduceLE, Int.reduceGT, Int.reduceGE, Int.reduceEq, Int.reduceNeg]) | (refine condF_split (fun hc => ?_) (fun hc => ?_) <;> (try simp only [Bool.not_eq_true', Bool.not_eq_false', Bool.and_eq_true, Bool.or_eq_false_iff] at hc)) | (intro _; intros) | (refine And.intro ?_ ?_; focus (first | omega | ((repeat (first | exact Sub.refl _ | (refine Sub.drop ?_ ?_; focus (simp only [evN, *]; done)) | refine Sub.both ?_)); done) | (simp_all; done) | (simp_all; omega)))))
  have q := openC H1.out.at_ (by simp)
  refine callF_of q ?_
  clear q
  rintro u σ2 ⟨hu, k, vs, m⟩
  obtain rfl : u = .tuple #[.int .i64 0, .int .i64 0] := hu
  have H2 := Hid.mk (H1.out.on m)
  clear m
  (repeat' (first | (simp +contextual -dsimp only [*, CliC, Msg.cells, ↓reduceIte, ↓evP, evQ, splice, Nat.reduceAdd, Nat.reduceEqDiff, Nat.reduceLeDiff, Nat.reduceMul, reduceCtorEq, Int.reduceLT, Int.reduceLE, Int.reduceGT, Int.reduceGE, Int.reduceEq, Int.reduceNeg]) | (refine condF_split (fun hc => ?_) (fun hc => ?_) <;> (try simp only [Bool.not_eq_true', Bool.not_eq_false', Bool.and_eq_true, Bool.or_eq_false_iff] at hc)) | (intro _; intros) | (refine And.intro ?_ ?_; focus (first | omega | ((repeat (first | exact Sub.refl _ | (refine Sub.drop ?_ ?_; focus (simp only [evN, *]; done)) | refine Sub.both ?_)); done) | (simp_all; done) | (simp_all; omega)))))
  have q := openC H2.out.at_ (by simp [CL.opens])
  refine callF_of q ?_
  clear q
  rintro u σ3 ⟨hu, k2, vs2, m⟩
  obtain rfl : u = .tuple #[.int .i64 1, .int .i64 0] := hu
  have H3 := Hid.mk (H2.out.on m)
  clear m
  (repeat' (first | (simp +contextual -dsimp only [*, CliC, Msg.cells, ↓reduceIte, ↓evP, evQ, splice, Nat.reduceAdd, Nat.reduceEqDiff, Nat.reduceLeDiff, Nat.reduceMul, reduceCtorEq, Int.reduceLT, Int.reduceLE, Int.reduceGT, Int.reduceGE, Int.reduceEq, Int.reduceNeg]) | (refine condF_split (fun hc => ?_) (fun hc => ?_) <;> (try simp only [Bool.not_eq_true', Bool.not_eq_false', Bool.and_eq_true, Bool.or_eq_false_iff] at hc)) | refine callF_v (put58 _ _ _) ?_ | refine ccallF_of (put58 _ _ _) ?_ | refine gcallF_of (put58 _ _ _) ?_ | (intro _; intros) | (refine And.intro ?_ ?_; focus (first | omega | ((repeat (first | exact Sub.refl _ | (refine Sub.drop ?_ ?_; focus (simp only [evN, *]; done)) | refine Sub.both ?_)); done) | (simp_all; done) | (simp_all; omega)))))
  rename_i b b0
  have hr : RowsAt 52 3 Wr.cells (upd σ b (.row (w1.cells) 3 52)) (.slice (some ⟨b, 0, none⟩) 1 1) [w1] := rows_mk rfl (Nat.le_refl 1) (upd_same _ _ _)
  have q := commitC (H3.out.beside b0 (.row w1.cells 3 52)) (i := 0) (s := ⟨k, newS 0, .slice none 0 0, []⟩) rfl (hr.ro Wr.cells_len) (by decide) rfl (by decide) (show decide ((0 : Int) ≥ 2147483647) = false by decide)
  refine callF_of q ?_
  clear q hr
  rintro u σ4 ⟨v1, v2, rfl, m, hr2, _, _⟩
  have H4 := Hid.mk (((H3.out.beside b0 (.row w1.cells 3 52)).on m).less (Sub.drop (H3.out.sub.noneAt b0) (Sub.refl σ)))
  obtain ⟨a2, c2, rfl⟩ := hr2.slice
  clear m hr2
  (repeat' (first | (simp +contextual -dsimp only [*, CliC, Msg.cells, ↓reduceIte, ↓evP, evQ, splice, Nat.reduceAdd, Nat.reduceEqDiff, Nat.reduceLeDiff, Nat.reduceMul, reduceCtorEq, Int.reduceLT, Int.reduceLE, Int.reduceGT, Int.reduceGE, Int.reduceEq, Int.reduceNeg]) | (refine condF_split (fun hc => ?_) (fun hc => ?_) <;> (try simp only [Bool.not_eq_true', Bool.not_eq_false', Bool.and_eq_true, Bool.or_eq_false_iff] at hc)) | (intro _; intros) | (refine And.intro ?_ ?_; focus (first | omega | ((repeat (first | exact Sub.refl _ | (refine Sub.drop ?_ ?_; focus (simp only [evN, *]; done)) | refine Sub.both ?_)); done) | (simp_all; done) | (simp_all; omega)))))
  rename_i d d0
  have q := ackC H4.out.at_ (i := 0) (s := ⟨k, (newS 0).sent, v1, [w1]⟩) (m := { kind := 2, seq := 1, n := 5 }) rfl rfl rfl
  refine callF_of (ACalls.beside ?_ q) ?_
  · (simp only [evN, *]; done)
  clear q
  rintro u _ ⟨σ5, ⟨hu, m⟩, n1, rfl⟩
  rw [show SesS.hears (newS 0).sent { kind := 2, seq := 1, n := 5 } = true by decide] at hu m
  subst hu
  have H5 := Hid.mk (H4.out.on m)
  clear m
  (repeat' (first | (simp +contextual -dsimp only [*, CliC, Msg.cells, ↓reduceIte, ↓evP, evQ, splice, Nat.reduceAdd, Nat.reduceEqDiff, Nat.reduceLeDiff, Nat.reduceMul, reduceCtorEq, Int.reduceLT, Int.reduceLE, Int.reduceGT, Int.reduceGE, Int.reduceEq, Int.reduceNeg]) | (refine condF_split (fun hc => ?_) (fun hc => ?_) <;> (try simp only [Bool.not_eq_true', Bool.not_eq_false', Bool.and_eq_true, Bool.or_eq_false_iff] at hc)) | (intro _; intros) | (refine And.intro ?_ ?_; focus (first | omega | ((repeat (first | exact Sub.refl _ | (refine Sub.drop ?_ ?_; focus (simp only [evN, *]; done)) | refine Sub.both ?_)); done) | (simp_all; done) | (simp_all; omega)))))
  rename_i e e1 e1' e0
  have q := tokenC (HG.out.sub H5.out.sub) H5.out.at_ (i := 0) (s := ⟨k, ⟨0, 5, false, 1, 0, 5, 0⟩, .slice none 0 0, []⟩) rfl
  rw [show tokV _ = _ from tok5.1, show tokE _ = _ from tok5.2] at q
  refine callF_of (ACalls.beside ?_ (ACalls.beside ?_ q)) ?_
  · (simp only [evN, *]; done)
  · (simp only [evN, *]; done)
  clear q
  rintro u _ ⟨_, ⟨_, ⟨rfl, rfl⟩, n2, rfl⟩, n3, rfl⟩
  (repeat' (first | (simp +contextual -dsimp only [*, CliC, Msg.cells, ↓reduceIte, ↓evP, evQ, splice, Nat.reduceAdd, Nat.reduceEqDiff, Nat.reduceLeDiff, Nat.reduceMul, reduceCtorEq, Int.reduceLT, Int.reduceLE, Int.reduceGT, Int.reduceGE, Int.reduceEq, Int.reduceNeg]) | (refine condF_split (fun hc => ?_) (fun hc => ?_) <;> (try simp only [Bool.not_eq_true', Bool.not_eq_false', Bool.and_eq_true, Bool.or_eq_false_iff] at hc)) | (intro _; intros) | (refine And.intro ?_ ?_; focus (first | omega | ((repeat (first | exact Sub.refl _ | (refine Sub.drop ?_ ?_; focus (simp only [evN, *]; done)) | refine Sub.both ?_)); done) | (simp_all; done) | (simp_all; omega)))))
  have q := joinC (HG.out.sub H5.out.sub) H5.out.at_ (i := 1) (s := ⟨k2, newS 1, .slice none 0 0, []⟩) rfl ⟨#[116, 53, 46, 109]⟩ (by decide)
  refine callF_of (ACalls.beside ?_ (ACalls.beside ?_ q)) ?_
  · (simp only [evN, *]; done)
  · (simp only [evN, *]; done)
  clear q
  rintro u _ ⟨_, ⟨σ6, ⟨rfl, m⟩, n4, rfl⟩, n5, rfl⟩
  simp only [none_upd] at n5
  have H6 := Hid.mk (H5.out.on m)
  clear m
  rw [par5.1]
  (repeat' (first | (simp +contextual -dsimp only [*, CliC, Msg.cells, ↓reduceIte, ↓evP, evQ, splice, Nat.reduceAdd, Nat.reduceEqDiff, Nat.reduceLeDiff, Nat.reduceMul, reduceCtorEq, Int.reduceLT, Int.reduceLE, Int.reduceGT, Int.reduceGE, Int.reduceEq, Int.reduceNeg]) | (refine condF_split (fun hc => ?_) (fun hc => ?_) <;> (try simp only [Bool.not_eq_true', Bool.not_eq_false', Bool.and_eq_true, Bool.or_eq_false_iff] at hc)) | (intro _; intros) | (refine And.intro ?_ ?_; focus (first | omega | ((repeat (first | exact Sub.refl _ | (refine Sub.drop ?_ ?_; focus (simp only [evN, *]; done)) | refine Sub.both ?_)); done) | (simp_all; done) | (simp_all; omega)))))
  have q := beginC H6.out.at_ (i := 1) (s := ⟨k2, (newS 1).joined ⟨#[116, 53, 46, 109]⟩, .slice none 0 0, []⟩) rfl (by show (0 : Nat) < 256; omega)
  refine callF_of (ACalls.beside ?_ (ACalls.beside ?_ q)) ?_
  · (simp only [evN, *]; done)
  · (simp only [evN, *]; done)
  clear q
  rintro u _ ⟨_, ⟨σ7, ⟨hu, t, vt', vh', m⟩, n6, rfl⟩, n7, rfl⟩
  obtain rfl : u = .tuple #[.int .i64 0, .int .i64 0] := hu
  simp only [none_upd] at n7
  have H7 := Hid.mk (H6.out.on m)
  clear m
  (repeat' (first | (simp +contextual -dsimp only [*, CliC, Msg.cells, ↓reduceIte, ↓evP, evQ, splice, Nat.reduceAdd, Nat.reduceEqDiff, Nat.reduceLeDiff, Nat.reduceMul, reduceCtorEq, Int.reduceLT, Int.reduceLE, Int.reduceGT, Int.reduceGE, Int.reduceEq, Int.reduceNeg]) | (refine condF_split (fun hc => ?_) (fun hc => ?_) <;> (try simp only [Bool.not_eq_true', Bool.not_eq_false', Bool.and_eq_true, Bool.or_eq_false_iff] at hc)) | (intro _; intros) | (refine And.intro ?_ ?_; focus (first | omega | ((repeat (first | exact Sub.refl _ | (refine Sub.drop ?_ ?_; focus (simp only [evN, *]; done)) | refine Sub.both ?_)); done) | (simp_all; done) | (simp_all; omega)))))
  have q := finishC H7.out.at_ (i := 0) (t := ⟨t, newT 0 c0.nodes ((newS 1).joined ⟨#[116, 53, 46, 109]⟩).floor, .slice none 0 0, 1, k2⟩) (s := ⟨k2, (newS 1).joined ⟨#[116, 53, 46, 109]⟩, .slice none 0 0, []⟩) rfl rfl rfl
  have ef : ((newS 1).joined ⟨#[116, 53, 46, 109]⟩).floor = 5 := by unfold SesS.joined; rw [par5.1, par5.2]; rfl
  refine callF_of (ACalls.beside ?_ (ACalls.beside ?_ q)) ?_
  · (simp only [evN, *]; done)
  · (simp only [evN, *]; done)
  clear q
  rintro u _ ⟨_, ⟨σ8, ⟨hu, m⟩, n8, rfl⟩, n9, rfl⟩
  rw [ef] at hu
  obtain rfl : u = .tuple #[.int .i64 5, .int .i64 0] := hu
  simp only [none_upd] at n9
  have H8 := Hid.mk (H7.out.on m)
  clear m ef
  (repeat' (first | (simp +contextual -dsimp only [*, CliC, Msg.cells, ↓reduceIte, ↓evP, evQ, splice, Nat.reduceAdd, Nat.reduceEqDiff, Nat.reduceLeDiff, Nat.reduceMul, reduceCtorEq, Int.reduceLT, Int.reduceLE, Int.reduceGT, Int.reduceGE, Int.reduceEq, Int.reduceNeg]) | (refine condF_split (fun hc => ?_) (fun hc => ?_) <;> (try simp only [Bool.not_eq_true', Bool.not_eq_false', Bool.and_eq_true, Bool.or_eq_false_iff] at hc)) | (intro _; intros) | (refine And.intro ?_ ?_; focus (first | omega | ((repeat (first | exact Sub.refl _ | (refine Sub.drop ?_ ?_; focus (simp only [evN, *]; done)) | refine Sub.both ?_)); done) | (simp_all; done) | (simp_all; omega)))))
  exact endF_det rfl (Sub.drop (H8.out.sub.noneAt n9.2) (Sub.drop (H8.out.sub.noneAt n8) H8.out.sub))
theorem has52w (a b x : Int) (σ : Hp) : ACalls Tryz.prog 137 #[.agg #[.int .i64 a, .int .i64 b], .int .i64 x] σ fun v σ' => v = .bool (decide (x ≥ a) && decide (x < b)) ∧ σ' = σ := by
  (refine acalls_F ok137 (by simp) ?_; unfold c137 r137)
  (repeat' (first | (simp +contextual -dsimp only [*, ↓reduceIte, ↓evP, evQ, splice, Nat.reduceAdd, Nat.reduceEqDiff, Nat.reduceLeDiff, Nat.reduceMul, reduceCtorEq, Int.reduceLT, Int.reduceLE, Int.reduceGT, Int.reduceGE, Int.reduceEq, Int.reduceNeg]) | (refine condF_split (fun hc => ?_) (fun hc => ?_) <;> (try simp only [Bool.not_eq_true', Bool.not_eq_false', Bool.and_eq_true, Bool.or_eq_false_iff] at hc)) | (intro _; intros) | (refine And.intro ?_ ?_; focus (first | omega | ((repeat (first | exact Sub.refl _ | (refine Sub.drop ?_ ?_; focus (simp only [evN, *]; done)) | refine Sub.both ?_)); done) | (simp_all; done) | (simp_all; omega)))))
  all_goals exact endF_sub (by (repeat (first | exact Sub.refl _ | (refine Sub.drop ?_ ?_; focus (simp only [evN, *]; done)) | refine Sub.both ?_)); done) ⟨by ((try simp only [decide_eq_true_eq, decide_eq_false_iff_not] at *) <;> first | rfl | (simp []; done) | (simp_all []; done) | (simp []; omega) | (simp []; (rw [Bool.eq_iff_iff]); simp; omega) | (simp_all [] <;> omega) | ((try unfold id); (rw [Value.bool.injEq, Bool.eq_iff_iff]); simp <;> omega) | ((try unfold id); (repeat' split) <;> simp_all <;> omega) | (simp_all [] <;> (repeat' split) <;> simp_all <;> omega)), rfl⟩
theorem empty50w (a b : Int) (σ : Hp) : ACalls Tryz.prog 124 #[.agg #[.int .i64 a, .int .i64 b]] σ fun v σ' => v = .bool (decide (a ≥ b)) ∧ σ' = σ := by
  (refine acalls_F ok124 (by simp) ?_; unfold c124 r124)
  (repeat' (first | (simp +contextual -dsimp only [*, ↓reduceIte, ↓evP, evQ, splice, Nat.reduceAdd, Nat.reduceEqDiff, Nat.reduceLeDiff, Nat.reduceMul, reduceCtorEq, Int.reduceLT, Int.reduceLE, Int.reduceGT, Int.reduceGE, Int.reduceEq, Int.reduceNeg]) | (refine condF_split (fun hc => ?_) (fun hc => ?_) <;> (try simp only [Bool.not_eq_true', Bool.not_eq_false', Bool.and_eq_true, Bool.or_eq_false_iff] at hc)) | refine callF_v (has52w _ _ _ _) ?_ | refine ccallF_of (has52w _ _ _ _) ?_ | refine gcallF_of (has52w _ _ _ _) ?_ | (intro _; intros) | (refine And.intro ?_ ?_; focus (first | omega | ((repeat (first | exact Sub.refl _ | (refine Sub.drop ?_ ?_; focus (simp only [evN, *]; done)) | refine Sub.both ?_)); done) | (simp_all; done) | (simp_all; omega)))))
  all_goals exact endF_sub (by (repeat (first | exact Sub.refl _ | (refine Sub.drop ?_ ?_; focus (simp only [evN, *]; done)) | refine Sub.both ?_)); done) ⟨by ((try simp only [decide_eq_true_eq, decide_eq_false_iff_not] at *) <;> first | rfl | (simp []; done) | (simp_all []; done) | (simp []; omega) | (simp []; (rw [Bool.eq_iff_iff]); simp; omega) | (simp_all [] <;> omega) | ((try unfold id); (rw [Value.bool.injEq, Bool.eq_iff_iff]); simp <;> omega) | ((try unfold id); (repeat' split) <;> simp_all <;> omega) | (simp_all [] <;> (repeat' split) <;> simp_all <;> omega)), rfl⟩
theorem of47w (lo hi : Int) (σ : Hp) : ACalls Tryz.prog 105 #[.int .i64 lo, .int .i64 hi] σ fun v σ' => v = .agg #[.int .i64 (ofS lo hi).1, .int .i64 (ofS lo hi).2] ∧ σ' = σ := by
  (refine acalls_F ok105 (by simp) ?_; unfold c105 r105)
  (repeat' (first | (simp +contextual -dsimp only [*, ↓reduceIte, ↓evP, evQ, splice, Nat.reduceAdd, Nat.reduceEqDiff, Nat.reduceLeDiff, Nat.reduceMul, reduceCtorEq, Int.reduceLT, Int.reduceLE, Int.reduceGT, Int.reduceGE, Int.reduceEq, Int.reduceNeg]) | (refine condF_split (fun hc => ?_) (fun hc => ?_) <;> (try simp only [Bool.not_eq_true', Bool.not_eq_false', Bool.and_eq_true, Bool.or_eq_false_iff] at hc)) | refine callF_v (empty50w _ _ _) ?_ | refine ccallF_of (empty50w _ _ _) ?_ | refine gcallF_of (empty50w _ _ _) ?_ | (intro _; intros) | (refine And.intro ?_ ?_; focus (first | omega | ((repeat (first | exact Sub.refl _ | (refine Sub.drop ?_ ?_; focus (simp only [evN, *]; done)) | refine Sub.both ?_)); done) | (simp_all; done) | (simp_all; omega)))))
  all_goals exact endF_sub (by (repeat (first | exact Sub.refl _ | (refine Sub.drop ?_ ?_; focus (simp only [evN, *]; done)) | refine Sub.both ?_)); done) ⟨by ((try simp only [decide_eq_true_eq, decide_eq_false_iff_not] at *) <;> first | rfl | (simp [ofS]; done) | (simp_all [ofS]; done) | (simp [ofS]; omega) | (simp [ofS]; (rw [Bool.eq_iff_iff]); simp; omega) | (simp_all [ofS] <;> omega) | ((try unfold ofS); (rw [Value.bool.injEq, Bool.eq_iff_iff]); simp <;> omega) | ((try unfold ofS); (repeat' split) <;> simp_all <;> omega) | (simp_all [ofS] <;> (repeat' split) <;> simp_all <;> omega)), rfl⟩
def meetR (a b c d : Int) : Int × Int := if a ≥ b ∨ c ≥ d then (0, 0) else ofS (mxI a c) (mnI b d)
theorem meet49w (a b c d : Int) (σ : Hp) : ACalls Tryz.prog 123 #[.agg #[.int .i64 a, .int .i64 b], .agg #[.int .i64 c, .int .i64 d]] σ fun v σ' => v = .agg #[.int .i64 (meetR a b c d).1, .int .i64 (meetR a b c d).2] ∧ σ' = σ := by
  (refine acalls_F ok123 (by simp) ?_; unfold c123 r123)
  (repeat' (first | (simp +contextual -dsimp only [*, ↓reduceIte, ↓evP, evQ, splice, Nat.reduceAdd, Nat.reduceEqDiff, Nat.reduceLeDiff, Nat.reduceMul, reduceCtorEq, Int.reduceLT, Int.reduceLE, Int.reduceGT, Int.reduceGE, Int.reduceEq, Int.reduceNeg]) | (refine condF_split (fun hc => ?_) (fun hc => ?_) <;> (try simp only [Bool.not_eq_true', Bool.not_eq_false', Bool.and_eq_true, Bool.or_eq_false_iff] at hc)) | refine callF_v (empty50w _ _ _) ?_ | refine callF_v (of47w _ _ _) ?_ | refine ccallF_of (empty50w _ _ _) ?_ | refine ccallF_of (of47w _ _ _) ?_ | refine gcallF_of (empty50w _ _ _) ?_ | refine gcallF_of (of47w _ _ _) ?_ | (intro _; intros) | (refine And.intro ?_ ?_; focus (first | omega | ((repeat (first | exact Sub.refl _ | (refine Sub.drop ?_ ?_; focus (simp only [evN, *]; done)) | refine Sub.both ?_)); done) | (simp_all; done) | (simp_all; omega)))))
  all_goals exact endF_sub (by (repeat (first | exact Sub.refl _ | (refine Sub.drop ?_ ?_; focus (simp only [evN, *]; done)) | refine Sub.both ?_)); done) ⟨by ((try simp only [decide_eq_true_eq, decide_eq_false_iff_not] at *) <;> first | rfl | (simp [meetR, mxI, mnI]; done) | (simp_all [meetR, mxI, mnI]; done) | (simp [meetR, mxI, mnI]; omega) | (simp [meetR, mxI, mnI]; (rw [Bool.eq_iff_iff]); simp; omega) | (simp_all [meetR, mxI, mnI] <;> omega) | ((try unfold meetR  mxI  mnI); (rw [Value.bool.injEq, Bool.eq_iff_iff]); simp <;> omega) | ((try unfold meetR  mxI  mnI); (repeat' split) <;> simp_all <;> omega) | (simp_all [meetR, mxI, mnI] <;> (repeat' split) <;> simp_all <;> omega)), rfl⟩
theorem narrow46w (a b c d : Int) (σ : Hp) : ACalls Tryz.prog 104 #[.agg #[.int .i64 a, .int .i64 b], .agg #[.int .i64 c, .int .i64 d]] σ fun v σ' =>
    v = .tuple #[.agg #[.int .i64 (meetR (ofS a b).1 (ofS a b).2 c d).1, .int .i64 (meetR (ofS a b).1 (ofS a b).2 c d).2], .bool (!decide ((meetR (ofS a b).1 (ofS a b).2 c d).1 ≥ (meetR (ofS a b).1 (ofS a b).2 c d).2))] ∧ σ' = σ := by
  (refine acalls_F ok104 (by simp) ?_; unfold c104 r104)
  (repeat' (first | (simp +contextual -dsimp only [*, ↓reduceIte, ↓evP, evQ, splice, Nat.reduceAdd, Nat.reduceEqDiff, Nat.reduceLeDiff, Nat.reduceMul, reduceCtorEq, Int.reduceLT, Int.reduceLE, Int.reduceGT, Int.reduceGE, Int.reduceEq, Int.reduceNeg]) | (refine condF_split (fun hc => ?_) (fun hc => ?_) <;> (try simp only [Bool.not_eq_true', Bool.not_eq_false', Bool.and_eq_true, Bool.or_eq_false_iff] at hc)) | refine callF_v (of47w _ _ _) ?_ | refine callF_v (meet49w _ _ _ _ _) ?_ | refine callF_v (empty50w _ _ _) ?_ | refine ccallF_of (of47w _ _ _) ?_ | refine ccallF_of (meet49w _ _ _ _ _) ?_ | refine ccallF_of (empty50w _ _ _) ?_ | refine gcallF_of (of47w _ _ _) ?_ | refine gcallF_of (meet49w _ _ _ _ _) ?_ | refine gcallF_of (empty50w _ _ _) ?_ | (intro _; intros) | (refine And.intro ?_ ?_; focus (first | omega | ((repeat (first | exact Sub.refl _ | (refine Sub.drop ?_ ?_; focus (simp only [evN, *]; done)) | refine Sub.both ?_)); done) | (simp_all; done) | (simp_all; omega)))))
  all_goals exact endF_sub (by (repeat (first | exact Sub.refl _ | (refine Sub.drop ?_ ?_; focus (simp only [evN, *]; done)) | refine Sub.both ?_)); done) ⟨by ((try simp only [decide_eq_true_eq, decide_eq_false_iff_not] at *) <;> first | rfl | (simp []; done) | (simp_all []; done) | (simp []; omega) | (simp []; (rw [Bool.eq_iff_iff]); simp; omega) | (simp_all [] <;> omega) | ((try unfold id); (rw [Value.bool.injEq, Bool.eq_iff_iff]); simp <;> omega) | ((try unfold id); (repeat' split) <;> simp_all <;> omega) | (simp_all [] <;> (repeat' split) <;> simp_all <;> omega)), rfl⟩
def posR (n : Int) : Int := if n < 0 then 0 else if n > 1099511627776 then 1099511627776 else n
theorem position110 (n : Int) (σ : Hp) : ACalls Tryz.prog 110 #[.int .i64 n] σ fun v σ' => v = .int .i64 (posR n) ∧ σ' = σ := by
  (refine acalls_F ok110 (by simp) ?_; unfold c110 r110)
  (repeat' (first | (simp +contextual -dsimp only [*, ↓reduceIte, ↓evP, evQ, splice, Nat.reduceAdd, Nat.reduceEqDiff, Nat.reduceLeDiff, Nat.reduceMul, reduceCtorEq, Int.reduceLT, Int.reduceLE, Int.reduceGT, Int.reduceGE, Int.reduceEq, Int.reduceNeg]) | (refine condF_split (fun hc => ?_) (fun hc => ?_) <;> (try simp only [Bool.not_eq_true', Bool.not_eq_false', Bool.and_eq_true, Bool.or_eq_false_iff] at hc)) | (intro _; intros) | (refine And.intro ?_ ?_; focus (first | omega | ((repeat (first | exact Sub.refl _ | (refine Sub.drop ?_ ?_; focus (simp only [evN, *]; done)) | refine Sub.both ?_)); done) | (simp_all; done) | (simp_all; omega)))))
  all_goals exact endF_sub (by (repeat (first | exact Sub.refl _ | (refine Sub.drop ?_ ?_; focus (simp only [evN, *]; done)) | refine Sub.both ?_)); done) ⟨by ((try simp only [decide_eq_true_eq, decide_eq_false_iff_not] at *) <;> first | rfl | (simp [posR]; done) | (simp_all [posR]; done) | (simp [posR]; omega) | (simp [posR]; (rw [Bool.eq_iff_iff]); simp; omega) | (simp_all [posR] <;> omega) | ((try unfold posR); (rw [Value.bool.injEq, Bool.eq_iff_iff]); simp <;> omega) | ((try unfold posR); (repeat' split) <;> simp_all <;> omega) | (simp_all [posR] <;> (repeat' split) <;> simp_all <;> omega)), rfl⟩
theorem or_eq_xor_add_and (n : Nat) : ∀ a b : Nat, a < 2 ^ n → b < 2 ^ n → a ||| b = (a ^^^ b) + (a &&& b) := by
  induction n with
  | zero =>
    intro a b ha hb
    obtain rfl : a = 0 := by omega
    obtain rfl : b = 0 := by omega
    rfl
  | succ n ih =>
    intro a b ha hb
    have h2 := ih (a / 2) (b / 2) (by omega) (by omega)
    rw [← Nat.or_div_two, ← Nat.xor_div_two, ← Nat.and_div_two] at h2
    have m1 := Nat.or_mod_two_eq_one (a := a) (b := b)
    have m2 := Nat.xor_mod_two_eq_one (a := a) (b := b)
    have m3 := Nat.and_mod_two_eq_one (a := a) (b := b)
    generalize a ||| b = x at *
    generalize a ^^^ b = y at *
    generalize a &&& b = z at *
    by_cases ea : a % 2 = 1 <;> by_cases eb : b % 2 = 1 <;> simp [ea, eb] at m1 m2 m3 <;> omega

theorem or_and (x y : BitVec 64) : IntKind.u64.wrap ((IntKind.u64.wrap ((x ||| y).toNat : Int)) - IntKind.u64.wrap ((x &&& y).toNat : Int)) = IntKind.u64.wrap ((x ^^^ y).toNat : Int) := by
  have h := or_eq_xor_add_and 64 x.toNat y.toNat x.isLt y.isLt
  have l1 := (x ||| y).isLt
  have l2 := (x &&& y).isLt
  rw [← BitVec.toNat_or, ← BitVec.toNat_xor, ← BitVec.toNat_and] at h
  simp only [IntKind.wrap_u64]
  omega
theorem or_and' (x y : BitVec IntKind.u64.bits) : IntKind.u64.wrap ((IntKind.u64.wrap ((x ||| y).toNat : Int)) - IntKind.u64.wrap ((x &&& y).toNat : Int)) = IntKind.u64.wrap ((x ^^^ y).toNat : Int) := or_and x y
theorem hash51w (key : ByteArray) (σ : Hp) (hsz : key.size ≤ 140737488351232) : ACalls Tryz.prog 122 #[.string key] σ fun v σ' => v = .int .u64 (hashK key) ∧ σ' = σ := by
  (refine acalls_F ok122 (by simp) ?_; unfold c122 r122; simp +contextual -dsimp only [↓reduceIte, ↓evP, evQ, splice, Nat.reduceAdd, Nat.reduceEqDiff, Nat.reduceLeDiff, Nat.reduceMul, reduceCtorEq, Int.reduceLT, Int.reduceLE, Int.reduceGT, Int.reduceGE, Int.reduceEq, Int.reduceNeg])
  refine loopF_of (fun k s σ' => ∃ i : Nat, i ≤ key.size ∧ k = key.size - i ∧ s 4 = .int .i64 i ∧ s 3 = .int .u64 (hashN key.data.toList i) ∧ s 0 = .string key ∧ σ' = σ) key.size (Sub.refl _) ⟨0, by omega, rfl, rfl, rfl, rfl, rfl⟩ ?_
  rintro k s σ' ⟨i, hi, hk, h4, h3, h0, rfl⟩
  (repeat' (first | (simp +contextual -dsimp only [*, ↓reduceIte, ↓evP, evQ, splice, Nat.reduceAdd, Nat.reduceEqDiff, Nat.reduceLeDiff, Nat.reduceMul, reduceCtorEq, Int.reduceLT, Int.reduceLE, Int.reduceGT, Int.reduceGE, Int.reduceEq, Int.reduceNeg]) | (refine condF_split (fun hc => ?_) (fun hc => ?_) <;> (try simp only [Bool.not_eq_true', Bool.not_eq_false', Bool.and_eq_true, Bool.or_eq_false_iff] at hc)) | (intro _; intros) | (refine And.intro ?_ ?_; focus (first | omega | ((repeat (first | exact Sub.refl _ | (refine Sub.drop ?_ ?_; focus (simp only [evN, *]; done)) | refine Sub.both ?_)); done) | (simp_all; done) | (simp_all; omega)))))
  all_goals (try simp only [decide_eq_true_eq, decide_eq_false_iff_not] at *)
  · refine nextF_of (key.size - (i + 1)) (by omega) (Sub.refl _) ⟨i + 1, by omega, rfl, ?_, ?_, (by first | rfl | (simp only [↓putO_get, ↓putO_no, init_zero, init_succ, Nat.reduceEqDiff, ↓reduceIte, *]; done) | (simp only [↓putO_get, ↓putO_no, init_zero, init_succ, Nat.reduceEqDiff, ↓reduceIte, *]; rfl)), rfl⟩
    · show Value.int .i64 (IntKind.i64.wrap _) = _; rw [wi64 (by omega)]; rfl
    · rw [hashN_succ _ _ (by rw [← size_len]; omega)]; unfold hstep; rw [← or_and']; rfl
  · obtain rfl : i = key.size := by omega
    exact endF_sub (by (repeat (first | exact Sub.refl _ | (refine Sub.drop ?_ ?_; focus (simp only [evN, *]; done)) | refine Sub.both ?_)); done) ⟨by rw [size_len]; rfl, rfl⟩
theorem to48w (key : ByteArray) (n : Int) (σ : Hp) (hsz : key.size ≤ 140737488351232) : ACalls Tryz.prog 103 #[.string key, .int .i64 n] σ fun v σ' => v = .int .i64 (toN key n) ∧ σ' = σ := by
  have hr := hashN_range key.data.toList key.data.toList.length
  have e1 : ∀ h : ¬ (n < 1 ∨ n > 8), IntKind.u64.wrap n = n := fun h => by rw [IntKind.wrap_u64]; omega
  (refine acalls_F ok103 (by simp) ?_; unfold c103 r103)
  (repeat' (first | (simp +contextual -dsimp only [*, ↓reduceIte, ↓evP, evQ, splice, Nat.reduceAdd, Nat.reduceEqDiff, Nat.reduceLeDiff, Nat.reduceMul, reduceCtorEq, Int.reduceLT, Int.reduceLE, Int.reduceGT, Int.reduceGE, Int.reduceEq, Int.reduceNeg]) | (refine condF_split (fun hc => ?_) (fun hc => ?_) <;> (try simp only [Bool.not_eq_true', Bool.not_eq_false', Bool.and_eq_true, Bool.or_eq_false_iff] at hc)) | refine callF_v (hash51w _ _ (by assumption)) ?_ | refine ccallF_of (hash51w _ _ (by assumption)) ?_ | refine gcallF_of (hash51w _ _ (by assumption)) ?_ | (intro _; intros) | (refine And.intro ?_ ?_; focus (first | omega | ((repeat (first | exact Sub.refl _ | (refine Sub.drop ?_ ?_; focus (simp only [evN, *]; done)) | refine Sub.both ?_)); done) | (simp_all; done) | (simp_all; omega)))))
  all_goals (try simp only [decide_eq_true_eq, decide_eq_false_iff_not] at *)
  · exact endF_sub (by (repeat (first | exact Sub.refl _ | (refine Sub.drop ?_ ?_; focus (simp only [evN, *]; done)) | refine Sub.both ?_)); done) ⟨by unfold toN; rw [if_pos (by omega)], rfl⟩
  · exact endF_sub (by (repeat (first | exact Sub.refl _ | (refine Sub.drop ?_ ?_; focus (simp only [evN, *]; done)) | refine Sub.both ?_)); done) ⟨by unfold toN; rw [if_pos (by omega)], rfl⟩
  · rw [e1 (by omega), if_neg (by omega)]
    simp +contextual -dsimp only [*, ↓reduceIte, ↓evP, evQ, splice, Nat.reduceAdd, Nat.reduceEqDiff, Nat.reduceLeDiff, Nat.reduceMul, reduceCtorEq, Int.reduceLT, Int.reduceLE, Int.reduceGT, Int.reduceGE, Int.reduceEq, Int.reduceNeg]
    refine endF_sub (by (repeat (first | exact Sub.refl _ | (refine Sub.drop ?_ ?_; focus (simp only [evN, *]; done)) | refine Sub.both ?_)); done) ⟨?_, rfl⟩
    unfold toN hashK
    have m1 := Int.emod_nonneg (hashN key.data.toList key.data.toList.length) (show n ≠ 0 by omega)
    have m2 := Int.emod_lt_of_pos (hashN key.data.toList key.data.toList.length) (show 0 < n by omega)
    generalize hashN key.data.toList key.data.toList.length = t at *
    have d0 : 0 ≤ t / n := Int.ediv_nonneg hr.1 (by omega)
    have d1 : t / n ≤ t := Int.ediv_le_self _ hr.1
    have e := Int.emod_add_mul_ediv t n
    rw [if_neg (by omega), Int.tdiv_eq_ediv_of_nonneg hr.1]
    simp only [IntKind.wrap_u64]
    rw [Int.emod_eq_of_lt d0 (by omega), Int.emod_eq_of_lt (a := n) (by omega) (by omega)]
    have d2 : 0 ≤ n * (t / n) := Int.mul_nonneg (by omega) d0
    have e2 : t / n * n = t - t % n := by rw [Int.mul_comm]; omega
    rw [e2, wi64 (by omega)]
    congr 1
    omega
/-- A transaction's cells within a row, its reads behind v. -/
def TxW (Wa Wb : List Value) (wn : Nat) (σ : Hp) (g : Nat) (T : TxS) (v : Value) : Prop := σ g = some (.row (win Wa (T.cells v) Wb) wn 112) ∧ RowsAt 128 3 Got.cells σ v T.reads
theorem TxW.same {Wa Wb : List Value} {wn : Nat} {σ σ' : Hp} {g : Nat} {T T' : TxS} {v : Value} (h : TxW Wa Wb wn σ g T v) (hs : Same (fun k => k = g) σ σ') (hg : σ' g = some (.row (win Wa (T'.cells v) Wb) wn 112)) (hr : T'.reads = T.reads) : TxW Wa Wb wn σ' g T' v :=
  ⟨hg, by rw [hr]; exact h.2.sameF hs fun k hk e => h.2.notRow h.1 (by decide) (by rw [hk, e])⟩
theorem ends40w {Wa Wb : List Value} {wn : Nat} {σ : Hp} {g : Nat} {T : TxS} {v : Value} (hg : σ g = some (.row (win Wa (T.cells v) Wb) wn 112)) (st er : Int) :
    ACalls Tryz.prog 87 #[.pointer (some ⟨g, Wa.length, none⟩), .int .i64 st, .int .i64 er] σ fun u σ' => u = .tuple #[] ∧ σ' = set σ g (.row (win Wa ((T.rests st er).cells v) Wb) wn 112) := by
  (unfold TxS.cells at hg; obtain ⟨τ, rfl⟩ := open_upd hg; clear hg)
  (refine acalls_F ok87 (by simp) ?_; unfold c87 r87)
  (repeat' (first | (simp +contextual -dsimp only [*, winR, Msg.cells, TxS.cells, TxS.req, TxS.rests, TxS.asks, TxS.more, ↓reduceIte, ↓evP, evQ, splice_nil, splice_zero, splice_skip, Nat.reduceAdd, Nat.reduceEqDiff, Nat.reduceLeDiff, Nat.reduceMul, reduceCtorEq, Int.reduceLT, Int.reduceLE, Int.reduceGT, Int.reduceGE, Int.reduceEq, Int.reduceNeg]) | (refine condF_split (fun hc => ?_) (fun hc => ?_) <;> (try simp only [Bool.not_eq_true', Bool.not_eq_false', Bool.and_eq_true, Bool.or_eq_false_iff] at hc)) | (intro _; intros) | (refine And.intro ?_ ?_; focus (first | omega | ((repeat (first | exact Sub.refl _ | (refine Sub.drop ?_ ?_; focus (simp only [evN, *]; done)) | refine Sub.both ?_)); done) | (simp_all; done) | (simp_all; omega)))))
  all_goals (refine endF_det ?_ ?_; (focus ((try simp only [cond_true, cond_false, *]) <;> ((try simp only [decide_eq_true_eq, decide_eq_false_iff_not] at *) <;> first | rfl | (simp []; done) | (simp_all []; done) | (simp []; omega) | (simp []; (rw [Bool.eq_iff_iff]); simp; omega) | (simp_all [] <;> omega) | ((try unfold id); (rw [Value.bool.injEq, Bool.eq_iff_iff]); simp <;> omega) | ((try unfold id); (repeat' split) <;> simp_all <;> omega) | (simp_all [] <;> (repeat' split) <;> simp_all <;> omega)))); (focus ((try simp only [cond_true, cond_false, set_same, *]); exact (by (repeat (first | exact Sub.refl _ | (refine Sub.drop ?_ ?_; focus (simp only [evN, *]; done)) | refine Sub.both ?_)); done))))
theorem request41w {Wa Wb : List Value} {wn : Nat} {σ : Hp} {g : Nat} {T : TxS} {v : Value} (hg : σ g = some (.row (win Wa (T.cells v) Wb) wn 112)) (hk : T.key.size ≤ 140737488351232) :
    ACalls Tryz.prog 86 #[.pointer (some ⟨g, Wa.length, none⟩)] σ fun u σ' => u = .agg T.req.cells.toArray ∧ σ' = σ := by
  (unfold TxS.cells at hg; obtain ⟨τ, rfl⟩ := open_upd hg; clear hg)
  (refine acalls_F ok86 (by simp) ?_; unfold c86 r86)
  (repeat' (first | (simp +contextual -dsimp only [*, winR, Msg.cells, TxS.cells, TxS.req, TxS.rests, TxS.asks, TxS.more, ↓reduceIte, ↓evP, evQ, splice_nil, splice_zero, splice_skip, Nat.reduceAdd, Nat.reduceEqDiff, Nat.reduceLeDiff, Nat.reduceMul, reduceCtorEq, Int.reduceLT, Int.reduceLE, Int.reduceGT, Int.reduceGE, Int.reduceEq, Int.reduceNeg]) | (refine condF_split (fun hc => ?_) (fun hc => ?_) <;> (try simp only [Bool.not_eq_true', Bool.not_eq_false', Bool.and_eq_true, Bool.or_eq_false_iff] at hc)) | refine callF_v (to48w _ _ _ (by assumption)) ?_ | refine ccallF_of (to48w _ _ _ (by assumption)) ?_ | refine gcallF_of (to48w _ _ _ (by assumption)) ?_ | (intro _; intros) | (refine And.intro ?_ ?_; focus (first | omega | ((repeat (first | exact Sub.refl _ | (refine Sub.drop ?_ ?_; focus (simp only [evN, *]; done)) | refine Sub.both ?_)); done) | (simp_all; done) | (simp_all; omega)))))
  all_goals (refine endF_det ?_ ?_; (focus ((try simp only [TxS.req, Msg.cells, cond_true, cond_false, *]) <;> ((try simp only [decide_eq_true_eq, decide_eq_false_iff_not] at *) <;> first | rfl | (simp [TxS.req, Msg.cells]; done) | (simp_all [TxS.req, Msg.cells]; done) | (simp [TxS.req, Msg.cells]; omega) | (simp [TxS.req, Msg.cells]; (rw [Bool.eq_iff_iff]); simp; omega) | (simp_all [TxS.req, Msg.cells] <;> omega) | ((try unfold TxS.req  Msg.cells); (rw [Value.bool.injEq, Bool.eq_iff_iff]); simp <;> omega) | ((try unfold TxS.req  Msg.cells); (repeat' split) <;> simp_all <;> omega) | (simp_all [TxS.req, Msg.cells] <;> (repeat' split) <;> simp_all <;> omega)))); (focus ((try simp only [TxS.req, Msg.cells, cond_true, cond_false, set_same, *]); exact (by (repeat (first | exact Sub.refl _ | (refine Sub.drop ?_ ?_; focus (simp only [evN, *]; done)) | refine Sub.both ?_)); done))))
theorem asks37w {Wa Wb : List Value} {wn : Nat} {σ : Hp} {g : Nat} {T : TxS} {v : Value} (hg : σ g = some (.row (win Wa (T.cells v) Wb) wn 112)) (st : Int) (hk : T.key.size ≤ 140737488351232) :
    ACalls Tryz.prog 84 #[.pointer (some ⟨g, Wa.length, none⟩), .int .i64 st] σ fun u σ' => u = .agg (T.asks st T.key).req.cells.toArray ∧ σ' = set σ g (.row (win Wa ((T.asks st T.key).cells v) Wb) wn 112) := by
  (unfold TxS.cells at hg; obtain ⟨τ, rfl⟩ := open_upd hg; clear hg)
  (refine acalls_F ok84 (by simp) ?_; unfold c84 r84)
  (repeat' (first | (simp +contextual -dsimp only [*, winR, Msg.cells, TxS.cells, TxS.req, TxS.rests, TxS.asks, TxS.more, ↓reduceIte, ↓evP, evQ, splice_nil, splice_zero, splice_skip, Nat.reduceAdd, Nat.reduceEqDiff, Nat.reduceLeDiff, Nat.reduceMul, reduceCtorEq, Int.reduceLT, Int.reduceLE, Int.reduceGT, Int.reduceGE, Int.reduceEq, Int.reduceNeg]) | (refine condF_split (fun hc => ?_) (fun hc => ?_) <;> (try simp only [Bool.not_eq_true', Bool.not_eq_false', Bool.and_eq_true, Bool.or_eq_false_iff] at hc)) | refine callF_v (request41w (T := T.asks st T.key) (v := v) (by first | rfl | (simp only [upd_same, upd_at, set_at, *, ↓reduceIte]; done) | (simp only [upd_same, upd_at, set_at, *, ↓reduceIte]; rfl)) (by assumption)) ?_ | refine ccallF_of (request41w (T := T.asks st T.key) (v := v) (by first | rfl | (simp only [upd_same, upd_at, set_at, *, ↓reduceIte]; done) | (simp only [upd_same, upd_at, set_at, *, ↓reduceIte]; rfl)) (by assumption)) ?_ | refine gcallF_of (request41w (T := T.asks st T.key) (v := v) (by first | rfl | (simp only [upd_same, upd_at, set_at, *, ↓reduceIte]; done) | (simp only [upd_same, upd_at, set_at, *, ↓reduceIte]; rfl)) (by assumption)) ?_ | (intro _; intros) | (refine And.intro ?_ ?_; focus (first | omega | ((repeat (first | exact Sub.refl _ | (refine Sub.drop ?_ ?_; focus (simp only [evN, *]; done)) | refine Sub.both ?_)); done) | (simp_all; done) | (simp_all; omega)))))
  all_goals (refine endF_det ?_ ?_; (focus ((try simp only [TxS.req, Msg.cells, cond_true, cond_false, *]) <;> ((try simp only [decide_eq_true_eq, decide_eq_false_iff_not] at *) <;> first | rfl | (simp [TxS.req, Msg.cells]; done) | (simp_all [TxS.req, Msg.cells]; done) | (simp [TxS.req, Msg.cells]; omega) | (simp [TxS.req, Msg.cells]; (rw [Bool.eq_iff_iff]); simp; omega) | (simp_all [TxS.req, Msg.cells] <;> omega) | ((try unfold TxS.req  Msg.cells); (rw [Value.bool.injEq, Bool.eq_iff_iff]); simp <;> omega) | ((try unfold TxS.req  Msg.cells); (repeat' split) <;> simp_all <;> omega) | (simp_all [TxS.req, Msg.cells] <;> (repeat' split) <;> simp_all <;> omega)))); (focus ((try simp only [TxS.req, Msg.cells, cond_true, cond_false, set_same, *]); exact (by (repeat (first | exact Sub.refl _ | (refine Sub.drop ?_ ?_; focus (simp only [evN, *]; done)) | refine Sub.both ?_)); done))))
theorem again31w {Wa Wb : List Value} {wn : Nat} {σ : Hp} {g : Nat} {T : TxS} {v : Value} (hg : σ g = some (.row (win Wa (T.cells v) Wb) wn 112)) (n : Int) (hk : T.key.size ≤ 140737488351232) :
    ACalls Tryz.prog 57 #[.pointer (some ⟨g, Wa.length, none⟩), .int .i64 n] σ fun u σ' => u = .tuple #[.agg (T.again n).2.1.cells.toArray, .int .i64 (T.again n).2.2] ∧ σ' = set σ g (.row (win Wa ((T.again n).1.cells v) Wb) wn 112) := by
  (unfold TxS.cells at hg; obtain ⟨τ, rfl⟩ := open_upd hg; clear hg)
  (refine acalls_F ok57 (by simp) ?_; unfold c57 r57)
  (repeat' (first | (simp +contextual -dsimp only [*, winR, Msg.cells, TxS.cells, TxS.req, TxS.rests, TxS.asks, TxS.more, ↓reduceIte, ↓evP, evQ, splice_nil, splice_zero, splice_skip, Nat.reduceAdd, Nat.reduceEqDiff, Nat.reduceLeDiff, Nat.reduceMul, reduceCtorEq, Int.reduceLT, Int.reduceLE, Int.reduceGT, Int.reduceGE, Int.reduceEq, Int.reduceNeg]) | (refine condF_split (fun hc => ?_) (fun hc => ?_) <;> (try simp only [Bool.not_eq_true', Bool.not_eq_false', Bool.and_eq_true, Bool.or_eq_false_iff] at hc)) | refine callF_v (request41w (T := T.more) (v := v) (by first | rfl | (simp only [upd_same, upd_at, set_at, *, ↓reduceIte]; done) | (simp only [upd_same, upd_at, set_at, *, ↓reduceIte]; rfl)) (by assumption)) ?_ | refine callF_v (asks37w (T := T) (v := v) (by first | rfl | (simp only [upd_same, upd_at, set_at, *, ↓reduceIte]; done) | (simp only [upd_same, upd_at, set_at, *, ↓reduceIte]; rfl)) _ (by assumption)) ?_ | refine callF_v (ends40w (T := T) (v := v) (by first | rfl | (simp only [upd_same, upd_at, set_at, *, ↓reduceIte]; done) | (simp only [upd_same, upd_at, set_at, *, ↓reduceIte]; rfl)) _ _) ?_ | refine ccallF_of (request41w (T := T.more) (v := v) (by first | rfl | (simp only [upd_same, upd_at, set_at, *, ↓reduceIte]; done) | (simp only [upd_same, upd_at, set_at, *, ↓reduceIte]; rfl)) (by assumption)) ?_ | refine ccallF_of (asks37w (T := T) (v := v) (by first | rfl | (simp only [upd_same, upd_at, set_at, *, ↓reduceIte]; done) | (simp only [upd_same, upd_at, set_at, *, ↓reduceIte]; rfl)) _ (by assumption)) ?_ | refine ccallF_of (ends40w (T := T) (v := v) (by first | rfl | (simp only [upd_same, upd_at, set_at, *, ↓reduceIte]; done) | (simp only [upd_same, upd_at, set_at, *, ↓reduceIte]; rfl)) _ _) ?_ | refine gcallF_of (request41w (T := T.more) (v := v) (by first | rfl | (simp only [upd_same, upd_at, set_at, *, ↓reduceIte]; done) | (simp only [upd_same, upd_at, set_at, *, ↓reduceIte]; rfl)) (by assumption)) ?_ | refine gcallF_of (asks37w (T := T) (v := v) (by first | rfl | (simp only [upd_same, upd_at, set_at, *, ↓reduceIte]; done) | (simp only [upd_same, upd_at, set_at, *, ↓reduceIte]; rfl)) _ (by assumption)) ?_ | refine gcallF_of (ends40w (T := T) (v := v) (by first | rfl | (simp only [upd_same, upd_at, set_at, *, ↓reduceIte]; done) | (simp only [upd_same, upd_at, set_at, *, ↓reduceIte]; rfl)) _ _) ?_ | (intro _; intros) | (refine And.intro ?_ ?_; focus (first | omega | ((repeat (first | exact Sub.refl _ | (refine Sub.drop ?_ ?_; focus (simp only [evN, *]; done)) | refine Sub.both ?_)); done) | (simp_all; done) | (simp_all; omega)))))
  all_goals (refine endF_det ?_ ?_; (focus ((try simp only [TxS.again, TxS.rests, TxS.asks, TxS.more, TxS.cells, TxS.req, Msg.cells, TxS.busy, Bool.or_false, Bool.or_true, Bool.false_or, Bool.true_or, cond_true, cond_false, *]) <;> ((try simp only [decide_eq_true_eq, decide_eq_false_iff_not] at *) <;> first | rfl | (simp [TxS.again, TxS.rests, TxS.asks, TxS.more, TxS.cells, TxS.req, Msg.cells, TxS.busy, Bool.or_false, Bool.or_true, Bool.false_or, Bool.true_or]; done) | (simp_all [TxS.again, TxS.rests, TxS.asks, TxS.more, TxS.cells, TxS.req, Msg.cells, TxS.busy, Bool.or_false, Bool.or_true, Bool.false_or, Bool.true_or]; done) | (simp [TxS.again, TxS.rests, TxS.asks, TxS.more, TxS.cells, TxS.req, Msg.cells, TxS.busy, Bool.or_false, Bool.or_true, Bool.false_or, Bool.true_or]; omega) | (simp [TxS.again, TxS.rests, TxS.asks, TxS.more, TxS.cells, TxS.req, Msg.cells, TxS.busy, Bool.or_false, Bool.or_true, Bool.false_or, Bool.true_or]; (rw [Bool.eq_iff_iff]); simp; omega) | (simp_all [TxS.again, TxS.rests, TxS.asks, TxS.more, TxS.cells, TxS.req, Msg.cells, TxS.busy, Bool.or_false, Bool.or_true, Bool.false_or, Bool.true_or] <;> omega) | ((try unfold TxS.again  TxS.rests  TxS.asks  TxS.more  TxS.cells  TxS.req  Msg.cells  TxS.busy  Bool.or_false  Bool.or_true  Bool.false_or  Bool.true_or); (rw [Value.bool.injEq, Bool.eq_iff_iff]); simp <;> omega) | ((try unfold TxS.again  TxS.rests  TxS.asks  TxS.more  TxS.cells  TxS.req  Msg.cells  TxS.busy  Bool.or_false  Bool.or_true  Bool.false_or  Bool.true_or); (repeat' split) <;> simp_all <;> omega) | (simp_all [TxS.again, TxS.rests, TxS.asks, TxS.more, TxS.cells, TxS.req, Msg.cells, TxS.busy, Bool.or_false, Bool.or_true, Bool.false_or, Bool.true_or] <;> (repeat' split) <;> simp_all <;> omega)))); (focus ((try simp only [TxS.again, TxS.rests, TxS.asks, TxS.more, TxS.cells, TxS.req, Msg.cells, TxS.busy, Bool.or_false, Bool.or_true, Bool.false_or, Bool.true_or, cond_true, cond_false, set_same, *]); exact (by (repeat (first | exact Sub.refl _ | (refine Sub.drop ?_ ?_; focus (simp only [evN, *]; done)) | refine Sub.both ?_)); done))))
theorem finish32w {Wa Wb : List Value} {wn : Nat} {σ : Hp} {g : Nat} {T : TxS} {v : Value} (hg : σ g = some (.row (win Wa (T.cells v) Wb) wn 112)) :
    ACalls Tryz.prog 58 #[.pointer (some ⟨g, Wa.length, none⟩)] σ fun u σ' => u = .tuple #[.int .i64 T.finish.2.1, .int .i64 T.finish.2.2] ∧ σ' = set σ g (.row (win Wa (T.finish.1.cells v) Wb) wn 112) := by
  rw [finish_alt]
  (unfold TxS.cells at hg; obtain ⟨τ, rfl⟩ := open_upd hg; clear hg)
  (refine acalls_F ok58 (by simp) ?_; unfold c58 r58)
  (repeat' (first | (simp +contextual -dsimp only [*, winR, Msg.cells, TxS.cells, TxS.req, TxS.rests, TxS.asks, TxS.more, ↓reduceIte, ↓evP, evQ, splice_nil, splice_zero, splice_skip, Nat.reduceAdd, Nat.reduceEqDiff, Nat.reduceLeDiff, Nat.reduceMul, reduceCtorEq, Int.reduceLT, Int.reduceLE, Int.reduceGT, Int.reduceGE, Int.reduceEq, Int.reduceNeg]) | (refine condF_split (fun hc => ?_) (fun hc => ?_) <;> (try simp only [Bool.not_eq_true', Bool.not_eq_false', Bool.and_eq_true, Bool.or_eq_false_iff] at hc)) | refine callF_v (ends40w (T := T) (v := v) (by first | rfl | (simp only [upd_same, upd_at, set_at, *, ↓reduceIte]; done) | (simp only [upd_same, upd_at, set_at, *, ↓reduceIte]; rfl)) _ _) ?_ | refine ccallF_of (ends40w (T := T) (v := v) (by first | rfl | (simp only [upd_same, upd_at, set_at, *, ↓reduceIte]; done) | (simp only [upd_same, upd_at, set_at, *, ↓reduceIte]; rfl)) _ _) ?_ | refine gcallF_of (ends40w (T := T) (v := v) (by first | rfl | (simp only [upd_same, upd_at, set_at, *, ↓reduceIte]; done) | (simp only [upd_same, upd_at, set_at, *, ↓reduceIte]; rfl)) _ _) ?_ | (intro _; intros) | (refine And.intro ?_ ?_; focus (first | omega | ((repeat (first | exact Sub.refl _ | (refine Sub.drop ?_ ?_; focus (simp only [evN, *]; done)) | refine Sub.both ?_)); done) | (simp_all; done) | (simp_all; omega)))))
  all_goals (refine endF_det ?_ ?_; (focus ((try simp only [TxS.rests, TxS.cells, cond_true, cond_false, *]) <;> ((try simp only [decide_eq_true_eq, decide_eq_false_iff_not] at *) <;> first | rfl | (simp [TxS.rests, TxS.cells]; done) | (simp_all [TxS.rests, TxS.cells]; done) | (simp [TxS.rests, TxS.cells]; omega) | (simp [TxS.rests, TxS.cells]; (rw [Bool.eq_iff_iff]); simp; omega) | (simp_all [TxS.rests, TxS.cells] <;> omega) | ((try unfold TxS.rests  TxS.cells); (rw [Value.bool.injEq, Bool.eq_iff_iff]); simp <;> omega) | ((try unfold TxS.rests  TxS.cells); (repeat' split) <;> simp_all <;> omega) | (simp_all [TxS.rests, TxS.cells] <;> (repeat' split) <;> simp_all <;> omega)))); (focus ((try simp only [TxS.rests, TxS.cells, cond_true, cond_false, set_same, *]); exact (by (repeat (first | exact Sub.refl _ | (refine Sub.drop ?_ ?_; focus (simp only [evN, *]; done)) | refine Sub.both ?_)); done))))
theorem new94r (σ : Hp) (id nodes floor : Int) : ACalls Tryz.prog 94 #[.int .i64 id, .int .i64 nodes, .int .i64 floor] σ fun u σ' => ∃ g, σ g = none ∧ u = .pointer (some ⟨g, 0, none⟩) ∧ σ' = upd σ g (.cells ((newT id nodes floor).cells (.slice none 0 0)) 112) := by
  have e1 : posR floor = mnI (mxI floor 0) 1099511627776 := by unfold posR mnI mxI; (repeat' split) <;> omega
  have e2 : mnI (mxI nodes 1) 8 = if nodes < 1 then 1 else if nodes > 8 then 8 else nodes := by unfold mnI mxI; (repeat' split) <;> omega
  (refine acalls_F ok94 (by simp) ?_; unfold c94 r94)
  (repeat' (first | (simp +contextual -dsimp only [*, winR, Msg.cells, TxS.cells, TxS.req, TxS.rests, TxS.asks, TxS.more, ↓reduceIte, ↓evP, evQ, splice_nil, splice_zero, splice_skip, Nat.reduceAdd, Nat.reduceEqDiff, Nat.reduceLeDiff, Nat.reduceMul, reduceCtorEq, Int.reduceLT, Int.reduceLE, Int.reduceGT, Int.reduceGE, Int.reduceEq, Int.reduceNeg]) | (refine condF_split (fun hc => ?_) (fun hc => ?_) <;> (try simp only [Bool.not_eq_true', Bool.not_eq_false', Bool.and_eq_true, Bool.or_eq_false_iff] at hc)) | refine callF_v (position110 _ _) ?_ | refine ccallF_of (position110 _ _) ?_ | refine gcallF_of (position110 _ _) ?_ | (intro _; intros) | (refine And.intro ?_ ?_; focus (first | omega | ((repeat (first | exact Sub.refl _ | (refine Sub.drop ?_ ?_; focus (simp only [evN, *]; done)) | refine Sub.both ?_)); done) | (simp_all; done) | (simp_all; omega)))))
  all_goals refine endF_at ⟨_, by assumption, rfl, ?_⟩
  all_goals (unfold TxS.cells newT; simp only [e1, e2]; (try simp only [decide_eq_true_eq, decide_eq_false_iff_not] at *); simp [*])
theorem read_alt (T : TxS) (key : ByteArray) (hst : 0 ≤ T.st ∧ T.st ≤ 4) : T.read key =
  cond (decide (T.st > 2)) (T, (false, ⟨#[]⟩), {}, (40 : Int)) (cond (decide (T.st > 0)) (T, (false, ⟨#[]⟩), {}, 31) (cond (goodK key)
    (match T.find key with | some x => (T, (x.has, x.data), {}, 0) | none => (T.asks 1 key, (false, ⟨#[]⟩), (T.asks 1 key).req, 0)) (T, (false, ⟨#[]⟩), {}, 1))) := by
  unfold TxS.read
  have e1 : decide (T.st ≥ 3) = decide (T.st > 2) := by rw [Bool.eq_iff_iff]; simp; omega
  rw [e1]
  by_cases h : T.st > 2
  · simp [h]
  · have e2 : T.busy = decide (T.st > 0) := by unfold TxS.busy; rw [Bool.eq_iff_iff]; simp; omega
    rw [e2]
    rfl
theorem read28w {Wa Wb : List Value} {wn : Nat} {σ : Hp} {g : Nat} {T : TxS} {v : Value} (hg : σ g = some (.row (win Wa (T.cells v) Wb) wn 112)) (hr : RowsAt 128 3 Got.cells σ v T.reads) (key : ByteArray) (hk : key.size ≤ 140737488351232) (hn : T.reads.length ≤ 140737488351232) (hst : 0 ≤ T.st ∧ T.st ≤ 4) :
    ACalls Tryz.prog 53 #[.pointer (some ⟨g, Wa.length, none⟩), .string key] σ fun u σ' => u = .tuple #[.agg #[.bool (T.read key).2.1.1, .string (T.read key).2.1.2], .agg (T.read key).2.2.1.cells.toArray, .int .i64 (T.read key).2.2.2] ∧ σ' = set σ g (.row (win Wa ((T.read key).1.cells v) Wb) wn 112) := by
  rw [read_alt T key hst]; clear hst
  rcases hr with ⟨rfl, hnil⟩ | ⟨b, c, rfl, hc, hb⟩
  · (unfold TxS.cells at hg; obtain ⟨τ, rfl⟩ := open_upd hg; clear hg)
    (refine acalls_F ok53 (by simp) ?_; unfold c53 r53)
    (repeat' (first | (simp +contextual -dsimp only [*, winR, Msg.cells, TxS.cells, TxS.req, TxS.rests, TxS.asks, TxS.more, ↓reduceIte, ↓evP, evQ, splice_nil, splice_zero, splice_skip, Nat.reduceAdd, Nat.reduceEqDiff, Nat.reduceLeDiff, Nat.reduceMul, reduceCtorEq, Int.reduceLT, Int.reduceLE, Int.reduceGT, Int.reduceGE, Int.reduceEq, Int.reduceNeg]) | (refine condF_split (fun hc => ?_) (fun hc => ?_) <;> (try simp only [Bool.not_eq_true', Bool.not_eq_false', Bool.and_eq_true, Bool.or_eq_false_iff] at hc)) | refine callF_v (goodKey95 _ _) ?_ | refine ccallF_of (goodKey95 _ _) ?_ | refine gcallF_of (goodKey95 _ _) ?_ | (intro _; intros) | (refine And.intro ?_ ?_; focus (first | omega | ((repeat (first | exact Sub.refl _ | (refine Sub.drop ?_ ?_; focus (simp only [evN, *]; done)) | refine Sub.both ?_)); done) | (simp_all; done) | (simp_all; omega)))))
    all_goals (try (refine endF_det ?_ ?_; (focus ((try simp only [cond_true, cond_false, *]) <;> ((try simp only [decide_eq_true_eq, decide_eq_false_iff_not] at *) <;> first | rfl | (simp []; done) | (simp_all []; done) | (simp []; omega) | (simp []; (rw [Bool.eq_iff_iff]); simp; omega) | (simp_all [] <;> omega) | ((try unfold id); (rw [Value.bool.injEq, Bool.eq_iff_iff]); simp <;> omega) | ((try unfold id); (repeat' split) <;> simp_all <;> omega) | (simp_all [] <;> (repeat' split) <;> simp_all <;> omega)))); (focus ((try simp only [cond_true, cond_false, set_same, *]); exact (by (repeat (first | exact Sub.refl _ | (refine Sub.drop ?_ ?_; focus (simp only [evN, *]; done)) | refine Sub.both ?_)); done)))))
    refine loopF_keep [0, 1, 4, 5] (fun k s => s 7 = .int .i64 0) 0 (by first | rfl | (simp only [↓putO_get, ↓putO_no, init_zero, init_succ, Nat.reduceEqDiff, ↓reduceIte, *]; done) | (simp only [↓putO_get, ↓putO_no, init_zero, init_succ, Nat.reduceEqDiff, ↓reduceIte, *]; rfl)) ?_
    intro k s hL h7
    simp only [List.map_cons, List.map_nil, ↓putO_get, ↓putO_no, init_zero, init_succ, Nat.reduceEqDiff, ↓reduceIte, List.cons.injEq, and_true] at hL
    (repeat' (first | (simp +contextual -dsimp only [*, winR, Msg.cells, TxS.cells, TxS.req, TxS.rests, TxS.asks, TxS.more, ↓reduceIte, ↓evP, evQ, splice_nil, splice_zero, splice_skip, Nat.reduceAdd, Nat.reduceEqDiff, Nat.reduceLeDiff, Nat.reduceMul, reduceCtorEq, Int.reduceLT, Int.reduceLE, Int.reduceGT, Int.reduceGE, Int.reduceEq, Int.reduceNeg]) | (refine condF_split (fun hc => ?_) (fun hc => ?_) <;> (try simp only [Bool.not_eq_true', Bool.not_eq_false', Bool.and_eq_true, Bool.or_eq_false_iff] at hc)) | refine callF_v (asks37w (T := { T with key := key }) (v := .slice none 0 0) (by first | rfl | (simp only [upd_same, upd_at, set_at, *, ↓reduceIte]; done) | (simp only [upd_same, upd_at, set_at, *, ↓reduceIte]; rfl)) _ (by assumption)) ?_ | refine ccallF_of (asks37w (T := { T with key := key }) (v := .slice none 0 0) (by first | rfl | (simp only [upd_same, upd_at, set_at, *, ↓reduceIte]; done) | (simp only [upd_same, upd_at, set_at, *, ↓reduceIte]; rfl)) _ (by assumption)) ?_ | refine gcallF_of (asks37w (T := { T with key := key }) (v := .slice none 0 0) (by first | rfl | (simp only [upd_same, upd_at, set_at, *, ↓reduceIte]; done) | (simp only [upd_same, upd_at, set_at, *, ↓reduceIte]; rfl)) _ (by assumption)) ?_ | (intro _; intros) | (refine And.intro ?_ ?_; focus (first | omega | ((repeat (first | exact Sub.refl _ | (refine Sub.drop ?_ ?_; focus (simp only [evN, *]; done)) | refine Sub.both ?_)); done) | (simp_all; done) | (simp_all; omega)))))
    have hf : T.find key = none := by unfold TxS.find; rw [hnil]; rfl
    all_goals (refine endF_det ?_ ?_; (focus ((try simp only [hf, TxS.asks, TxS.req, TxS.cells, Msg.cells, cond_true, cond_false, *]) <;> ((try simp only [decide_eq_true_eq, decide_eq_false_iff_not] at *) <;> first | rfl | (simp [hf, TxS.asks, TxS.req, TxS.cells, Msg.cells]; done) | (simp_all [hf, TxS.asks, TxS.req, TxS.cells, Msg.cells]; done) | (simp [hf, TxS.asks, TxS.req, TxS.cells, Msg.cells]; omega) | (simp [hf, TxS.asks, TxS.req, TxS.cells, Msg.cells]; (rw [Bool.eq_iff_iff]); simp; omega) | (simp_all [hf, TxS.asks, TxS.req, TxS.cells, Msg.cells] <;> omega) | ((try unfold hf  TxS.asks  TxS.req  TxS.cells  Msg.cells); (rw [Value.bool.injEq, Bool.eq_iff_iff]); simp <;> omega) | ((try unfold hf  TxS.asks  TxS.req  TxS.cells  Msg.cells); (repeat' split) <;> simp_all <;> omega) | (simp_all [hf, TxS.asks, TxS.req, TxS.cells, Msg.cells] <;> (repeat' split) <;> simp_all <;> omega)))); (focus ((try simp only [hf, TxS.asks, TxS.req, TxS.cells, Msg.cells, cond_true, cond_false, set_same, *]); exact (by (repeat (first | exact Sub.refl _ | (refine Sub.drop ?_ ?_; focus (simp only [evN, *]; done)) | refine Sub.both ?_)); done))))
  · unfold TxS.cells at hg
    obtain ⟨τ, rfl, hne1, hne2⟩ := open_two hg hb (by simp)
    clear hg hb
    (refine acalls_F ok53 (by simp) ?_; unfold c53 r53)
    (repeat' (first | (simp +contextual -dsimp only [*, winR, Msg.cells, TxS.cells, TxS.req, TxS.rests, TxS.asks, TxS.more, ↓reduceIte, ↓evP, evQ, splice_nil, splice_zero, splice_skip, Nat.reduceAdd, Nat.reduceEqDiff, Nat.reduceLeDiff, Nat.reduceMul, reduceCtorEq, Int.reduceLT, Int.reduceLE, Int.reduceGT, Int.reduceGE, Int.reduceEq, Int.reduceNeg]) | (refine condF_split (fun hc => ?_) (fun hc => ?_) <;> (try simp only [Bool.not_eq_true', Bool.not_eq_false', Bool.and_eq_true, Bool.or_eq_false_iff] at hc)) | refine callF_v (goodKey95 _ _) ?_ | refine ccallF_of (goodKey95 _ _) ?_ | refine gcallF_of (goodKey95 _ _) ?_ | (intro _; intros) | (refine And.intro ?_ ?_; focus (first | omega | ((repeat (first | exact Sub.refl _ | (refine Sub.drop ?_ ?_; focus (simp only [evN, *]; done)) | refine Sub.both ?_)); done) | (simp_all; done) | (simp_all; omega)))))
    all_goals (try (refine endF_det ?_ ?_; (focus ((try simp only [cond_true, cond_false, *]) <;> ((try simp only [decide_eq_true_eq, decide_eq_false_iff_not] at *) <;> first | rfl | (simp []; done) | (simp_all []; done) | (simp []; omega) | (simp []; (rw [Bool.eq_iff_iff]); simp; omega) | (simp_all [] <;> omega) | ((try unfold id); (rw [Value.bool.injEq, Bool.eq_iff_iff]); simp <;> omega) | ((try unfold id); (repeat' split) <;> simp_all <;> omega) | (simp_all [] <;> (repeat' split) <;> simp_all <;> omega)))); (focus ((try simp only [cond_true, cond_false, set_same, *]); exact (by (repeat (first | exact Sub.refl _ | (refine Sub.drop ?_ ?_; focus (simp only [evN, *]; done)) | refine Sub.both ?_)); done)))))
    refine loopF_keep [0, 1, 4, 5] (fun k s => ∃ i : Nat, i ≤ T.reads.length ∧ k = T.reads.length - i ∧ s 7 = .int .i64 i ∧ (T.reads.take i).find? (fun x => decide (x.key = key)) = none) T.reads.length ⟨0, by omega, rfl, (by first | rfl | (simp only [↓putO_get, ↓putO_no, init_zero, init_succ, Nat.reduceEqDiff, ↓reduceIte, *]; done) | (simp only [↓putO_get, ↓putO_no, init_zero, init_succ, Nat.reduceEqDiff, ↓reduceIte, *]; rfl)), rfl⟩ ?_
    rintro k s hL ⟨i, hi, hk, h7, hfi⟩
    simp only [List.map_cons, List.map_nil, ↓putO_get, ↓putO_no, init_zero, init_succ, Nat.reduceEqDiff, ↓reduceIte, List.cons.injEq, and_true] at hL
    rcases Nat.lt_or_ge i T.reads.length with hlt | hge
    · obtain ⟨x, hx⟩ : ∃ x, T.reads[i]? = some x := ⟨_, List.getElem?_eq_getElem hlt⟩
      have hseg := got_row hx
      have hd : decide ((i : Int) < (T.reads.length : Int)) = true := by simp; omega
      have hsx := find_step hx hfi
      clear hx hfi
      (repeat' (first | (simp +contextual -dsimp only [*, winR, Msg.cells, TxS.cells, TxS.req, TxS.rests, TxS.asks, TxS.more, ↓reduceIte, ↓evP, evQ, splice_nil, splice_zero, splice_skip, Nat.reduceAdd, Nat.reduceEqDiff, Nat.reduceLeDiff, Nat.reduceMul, reduceCtorEq, Int.reduceLT, Int.reduceLE, Int.reduceGT, Int.reduceGE, Int.reduceEq, Int.reduceNeg]) | (refine condF_split (fun hc => ?_) (fun hc => ?_) <;> (try simp only [Bool.not_eq_true', Bool.not_eq_false', Bool.and_eq_true, Bool.or_eq_false_iff] at hc)) | (intro _; intros) | (refine And.intro ?_ ?_; focus (first | omega | ((repeat (first | exact Sub.refl _ | (refine Sub.drop ?_ ?_; focus (simp only [evN, *]; done)) | refine Sub.both ?_)); done) | (simp_all; done) | (simp_all; omega)))))
      · have hf : T.find key = some x := hsx.1 hc
        all_goals (refine endF_det ?_ ?_; (focus ((try simp only [hf, TxS.cells, Msg.cells, cond_true, cond_false, *]) <;> ((try simp only [decide_eq_true_eq, decide_eq_false_iff_not] at *) <;> first | rfl | (simp [hf, TxS.cells, Msg.cells]; done) | (simp_all [hf, TxS.cells, Msg.cells]; done) | (simp [hf, TxS.cells, Msg.cells]; omega) | (simp [hf, TxS.cells, Msg.cells]; (rw [Bool.eq_iff_iff]); simp; omega) | (simp_all [hf, TxS.cells, Msg.cells] <;> omega) | ((try unfold hf  TxS.cells  Msg.cells); (rw [Value.bool.injEq, Bool.eq_iff_iff]); simp <;> omega) | ((try unfold hf  TxS.cells  Msg.cells); (repeat' split) <;> simp_all <;> omega) | (simp_all [hf, TxS.cells, Msg.cells] <;> (repeat' split) <;> simp_all <;> omega)))); (focus ((try simp only [hf, TxS.cells, Msg.cells, cond_true, cond_false, set_same, *]); exact (by (repeat (first | exact Sub.refl _ | (refine Sub.drop ?_ ?_; focus (simp only [evN, *]; done)) | refine Sub.both ?_)); done))))
      · refine keep_of (T.reads.length - (i + 1)) (by omega) (by simp only [List.map_cons, List.map_nil, ↓putO_get, ↓putO_no, init_zero, init_succ, Nat.reduceEqDiff, ↓reduceIte, *]) (by (repeat (first | exact Sub.refl _ | (refine Sub.drop ?_ ?_; focus (simp only [evN, *]; done)) | refine Sub.both ?_)); done) ⟨i + 1, by omega, rfl, ?_, hsx.2 hc⟩
        show Value.int .i64 (IntKind.i64.wrap _) = _; rw [wi64 (by omega)]; rfl
    · have hd : decide ((i : Int) < (T.reads.length : Int)) = false := by simp; omega
      obtain rfl : i = T.reads.length := by omega
      (repeat' (first | (simp +contextual -dsimp only [*, winR, Msg.cells, TxS.cells, TxS.req, TxS.rests, TxS.asks, TxS.more, ↓reduceIte, ↓evP, evQ, splice_nil, splice_zero, splice_skip, Nat.reduceAdd, Nat.reduceEqDiff, Nat.reduceLeDiff, Nat.reduceMul, reduceCtorEq, Int.reduceLT, Int.reduceLE, Int.reduceGT, Int.reduceGE, Int.reduceEq, Int.reduceNeg]) | (refine condF_split (fun hc => ?_) (fun hc => ?_) <;> (try simp only [Bool.not_eq_true', Bool.not_eq_false', Bool.and_eq_true, Bool.or_eq_false_iff] at hc)) | refine callF_v (asks37w (T := { T with key := key }) (v := .slice (some ⟨b, 0, none⟩) T.reads.length c) (by first | rfl | (simp only [upd_same, upd_at, set_at, *, ↓reduceIte]; done) | (simp only [upd_same, upd_at, set_at, *, ↓reduceIte]; rfl)) _ (by assumption)) ?_ | refine ccallF_of (asks37w (T := { T with key := key }) (v := .slice (some ⟨b, 0, none⟩) T.reads.length c) (by first | rfl | (simp only [upd_same, upd_at, set_at, *, ↓reduceIte]; done) | (simp only [upd_same, upd_at, set_at, *, ↓reduceIte]; rfl)) _ (by assumption)) ?_ | refine gcallF_of (asks37w (T := { T with key := key }) (v := .slice (some ⟨b, 0, none⟩) T.reads.length c) (by first | rfl | (simp only [upd_same, upd_at, set_at, *, ↓reduceIte]; done) | (simp only [upd_same, upd_at, set_at, *, ↓reduceIte]; rfl)) _ (by assumption)) ?_ | (intro _; intros) | (refine And.intro ?_ ?_; focus (first | omega | ((repeat (first | exact Sub.refl _ | (refine Sub.drop ?_ ?_; focus (simp only [evN, *]; done)) | refine Sub.both ?_)); done) | (simp_all; done) | (simp_all; omega)))))
      have hf : T.find key = none := by unfold TxS.find; rw [List.take_length] at hfi; exact hfi
      all_goals (refine endF_det ?_ ?_; (focus ((try simp only [hf, TxS.asks, TxS.req, TxS.cells, Msg.cells, cond_true, cond_false, *]) <;> ((try simp only [decide_eq_true_eq, decide_eq_false_iff_not] at *) <;> first | rfl | (simp [hf, TxS.asks, TxS.req, TxS.cells, Msg.cells]; done) | (simp_all [hf, TxS.asks, TxS.req, TxS.cells, Msg.cells]; done) | (simp [hf, TxS.asks, TxS.req, TxS.cells, Msg.cells]; omega) | (simp [hf, TxS.asks, TxS.req, TxS.cells, Msg.cells]; (rw [Bool.eq_iff_iff]); simp; omega) | (simp_all [hf, TxS.asks, TxS.req, TxS.cells, Msg.cells] <;> omega) | ((try unfold hf  TxS.asks  TxS.req  TxS.cells  Msg.cells); (rw [Value.bool.injEq, Bool.eq_iff_iff]); simp <;> omega) | ((try unfold hf  TxS.asks  TxS.req  TxS.cells  Msg.cells); (repeat' split) <;> simp_all <;> omega) | (simp_all [hf, TxS.asks, TxS.req, TxS.cells, Msg.cells] <;> (repeat' split) <;> simp_all <;> omega)))); (focus ((try simp only [hf, TxS.asks, TxS.req, TxS.cells, Msg.cells, cond_true, cond_false, set_same, *]); exact (by (repeat (first | exact Sub.refl _ | (refine Sub.drop ?_ ?_; focus (simp only [evN, *]; done)) | refine Sub.both ?_)); done))))
theorem nar_ref (a b c d : Int) : meetR (ofS a b).1 (ofS a b).2 (ofS c d).1 (ofS c d).2 = nar a b (ofS c d).1 (ofS c d).2 := by
  unfold meetR nar ofS mxI mnI
  (repeat' split) <;> simp_all <;> omega
theorem narrow46rw (a b lo hi : Int) (σ : Hp) : ACalls Tryz.prog 104 #[.agg #[.int .i64 a, .int .i64 b], .agg #[.int .i64 (ofS lo hi).1, .int .i64 (ofS lo hi).2]] σ fun v σ' =>
    v = .tuple #[.agg #[.int .i64 (nar a b (ofS lo hi).1 (ofS lo hi).2).1, .int .i64 (nar a b (ofS lo hi).1 (ofS lo hi).2).2], .bool (!decide ((nar a b (ofS lo hi).1 (ofS lo hi).2).1 ≥ (nar a b (ofS lo hi).1 (ofS lo hi).2).2))] ∧ σ' = σ := by
  rw [← nar_ref]; exact narrow46w _ _ _ _ _
def StepR (σ : Hp) (g : Nat) (v : Value) (σ' : Hp) (v' : Value) : Prop := Same (fun k => k = g) σ σ' ∧ ∀ k, blk v' = some k → blk v = some k ∨ σ k = none
theorem leafTxRw {Wa Wb : List Value} {wn : Nat} {σ₀ σ : Hp} {g : Nat} {v v' : Value} {T : TxS} (h1 : σ g = some (.row (win Wa (T.cells v') Wb) wn 112)) (h2 : RowsAt 128 3 Got.cells σ v' T.reads) (h3 : Same (fun k => k = g) σ₀ σ) (h4 : ∀ k, blk v' = some k → blk v = some k ∨ σ₀ k = none) :
    ∃ v', TxW Wa Wb wn σ g T v' ∧ StepR σ₀ g v σ v' := ⟨v', ⟨h1, h2⟩, h3, h4⟩
theorem takes39w {Wa Wb : List Value} {wn : Nat} {σ : Hp} {g : Nat} {T : TxS} {v : Value} (hT : TxW Wa Wb wn σ g T v) (m : Msg) (hn : (T.reads.length + 1) * 40 ≤ 140737488355328) :
    ACalls Tryz.prog 88 #[.pointer (some ⟨g, Wa.length, none⟩), .agg m.cells.toArray] σ fun u σ' => u = .bool (T.fits m.lo m.hi) ∧ ∃ v', TxW Wa Wb wn σ' g (T.takes m.has m.data m.lo m.hi) v' ∧ StepR σ g v σ' v' := by
  obtain ⟨hg, hr⟩ := hT
  unfold TxS.cells at hg
  rcases hr with ⟨rfl, hnil⟩ | ⟨b, c, rfl, hcap, hb⟩
  · obtain ⟨τ, rfl⟩ := open_upd hg
    clear hg
    (refine acalls_F ok88 (by simp) ?_; unfold c88 r88)
    (repeat' (first | (simp +contextual -dsimp only [*, winR, Msg.cells, TxS.cells, TxS.req, TxS.rests, TxS.asks, TxS.more, ↓reduceIte, ↓evP, evQ, splice_nil, splice_zero, splice_skip, Nat.reduceAdd, Nat.reduceEqDiff, Nat.reduceLeDiff, Nat.reduceMul, reduceCtorEq, Int.reduceLT, Int.reduceLE, Int.reduceGT, Int.reduceGE, Int.reduceEq, Int.reduceNeg]) | (refine condF_split (fun hc => ?_) (fun hc => ?_) <;> (try simp only [Bool.not_eq_true', Bool.not_eq_false', Bool.and_eq_true, Bool.or_eq_false_iff] at hc)) | refine callF_v (of47w _ _ _) ?_ | refine callF_v (narrow46rw _ _ _ _ _) ?_ | refine ccallF_of (of47w _ _ _) ?_ | refine ccallF_of (narrow46rw _ _ _ _ _) ?_ | refine gcallF_of (of47w _ _ _) ?_ | refine gcallF_of (narrow46rw _ _ _ _ _) ?_ | (intro _; intros) | (refine And.intro ?_ ?_; focus (first | omega | ((repeat (first | exact Sub.refl _ | (refine Sub.drop ?_ ?_; focus (simp only [evN, *]; done)) | refine Sub.both ?_)); done) | (simp_all; done) | (simp_all; omega)))))
    · have hf := fits_eq hc
      rw [hf, takes_no hf]
      refine endF_at ⟨rfl, leafTxRw (by simp only [upd_at, *, ↓reduceIte]; rfl) ?_ (by repeat (first | exact Same.refl _ _ | (refine Same.updNew ?_ ?_; focus (simp only [evN, *]; done)) | (refine Same.both ?_ ?_; focus (first | exact rfl | exact .inl rfl | exact .inr rfl)) | (refine Same.updIn ?_ ?_; focus (first | exact rfl | exact .inl rfl | exact .inr rfl)) | refine Same.eq ?_)) ?_⟩
      · first | exact .inl ⟨rfl, hnil⟩ | exact rows_mk rfl hcap (by simp only [upd_at, *, ↓reduceIte]; done) | exact rows_mk (by simp [TxS.took, TxS.rests, *]) (by omega) (by first | (simp only [upd_at, *, ↓reduceIte, TxS.took, TxS.rests, List.nil_append]; done) | (simp only [upd_at, *, ↓reduceIte, TxS.took, TxS.rests, List.nil_append]; rfl))
      · (intro k hk; first | exact .inl hk | (cases hk; exact .inr (by simp only [evN, *]; done)))
    · have hf := fits_eq hc
      rw [hf, takes_eq hf]
      refine app_bn (Nat.le_refl _) ?_
      (repeat' (first | (simp +contextual -dsimp only [*, winR, Msg.cells, TxS.cells, TxS.req, TxS.rests, TxS.asks, TxS.more, ↓reduceIte, ↓evP, evQ, splice_nil, splice_zero, splice_skip, Nat.reduceAdd, Nat.reduceEqDiff, Nat.reduceLeDiff, Nat.reduceMul, reduceCtorEq, Int.reduceLT, Int.reduceLE, Int.reduceGT, Int.reduceGE, Int.reduceEq, Int.reduceNeg]) | (refine condF_split (fun hc => ?_) (fun hc => ?_) <;> (try simp only [Bool.not_eq_true', Bool.not_eq_false', Bool.and_eq_true, Bool.or_eq_false_iff] at hc)) | (intro _; intros) | (refine And.intro ?_ ?_; focus (first | omega | ((repeat (first | exact Sub.refl _ | (refine Sub.drop ?_ ?_; focus (simp only [evN, *]; done)) | refine Sub.both ?_)); done) | (simp_all; done) | (simp_all; omega)))))
      refine app_b (by first | (simp only [Nat.reduceMul, Nat.one_mul, Nat.zero_mul, rdn_row, rdn_same, rdn_ne, seg_zero, seg_cons, seg_skip, Option.map_some, not_false_eq_true, *]; done) | (simp only [Nat.reduceMul, Nat.one_mul, Nat.zero_mul, rdn_row, rdn_same, rdn_ne, seg_zero, seg_cons, seg_skip, Option.map_some, not_false_eq_true, *]; exact rfl)) rfl (by first | (simp only [upd_at, *, ↓reduceIte]; done) | (simp only [upd_at, *, ↓reduceIte]; rfl)) rfl (by omega) (by omega) (by unfold maxLen; omega) ?_ ?_
      all_goals (repeat' (first | (simp +contextual -dsimp only [*, winR, Msg.cells, TxS.cells, TxS.req, TxS.rests, TxS.asks, TxS.more, ↓reduceIte, ↓evP, evQ, splice_nil, splice_zero, splice_skip, Nat.reduceAdd, Nat.reduceEqDiff, Nat.reduceLeDiff, Nat.reduceMul, reduceCtorEq, Int.reduceLT, Int.reduceLE, Int.reduceGT, Int.reduceGE, Int.reduceEq, Int.reduceNeg]) | (refine condF_split (fun hc => ?_) (fun hc => ?_) <;> (try simp only [Bool.not_eq_true', Bool.not_eq_false', Bool.and_eq_true, Bool.or_eq_false_iff] at hc)) | refine callF_v (ends40w (T := T.took m.has m.data m.lo m.hi) (v := .slice (some ⟨_, 0, none⟩) 1 _) (by first | rfl | (simp only [upd_same, upd_at, set_at, *, ↓reduceIte]; done) | (simp only [upd_same, upd_at, set_at, *, ↓reduceIte]; rfl)) _ _) ?_ | refine ccallF_of (ends40w (T := T.took m.has m.data m.lo m.hi) (v := .slice (some ⟨_, 0, none⟩) 1 _) (by first | rfl | (simp only [upd_same, upd_at, set_at, *, ↓reduceIte]; done) | (simp only [upd_same, upd_at, set_at, *, ↓reduceIte]; rfl)) _ _) ?_ | refine gcallF_of (ends40w (T := T.took m.has m.data m.lo m.hi) (v := .slice (some ⟨_, 0, none⟩) 1 _) (by first | rfl | (simp only [upd_same, upd_at, set_at, *, ↓reduceIte]; done) | (simp only [upd_same, upd_at, set_at, *, ↓reduceIte]; rfl)) _ _) ?_ | (intro _; intros) | (refine And.intro ?_ ?_; focus (first | omega | ((repeat (first | exact Sub.refl _ | (refine Sub.drop ?_ ?_; focus (simp only [evN, *]; done)) | refine Sub.both ?_)); done) | (simp_all; done) | (simp_all; omega)))))
      all_goals (refine endF_at ⟨rfl, leafTxRw (by simp only [upd_at, *, ↓reduceIte]; rfl) ?_ (by repeat (first | exact Same.refl _ _ | (refine Same.updNew ?_ ?_; focus (simp only [evN, *]; done)) | (refine Same.both ?_ ?_; focus (first | exact rfl | exact .inl rfl | exact .inr rfl)) | (refine Same.updIn ?_ ?_; focus (first | exact rfl | exact .inl rfl | exact .inr rfl)) | refine Same.eq ?_)) ?_⟩; (focus (first | exact .inl ⟨rfl, hnil⟩ | exact rows_mk rfl hcap (by simp only [upd_at, *, ↓reduceIte]; done) | exact rows_mk (by simp [TxS.took, TxS.rests, *]) (by omega) (by first | (simp only [upd_at, *, ↓reduceIte, TxS.took, TxS.rests, List.nil_append]; done) | (simp only [upd_at, *, ↓reduceIte, TxS.took, TxS.rests, List.nil_append]; rfl)))); (focus (intro k hk; first | exact .inl hk | (cases hk; exact .inr (by simp only [evN, *]; done)))))
  · have hsg : seg (T.reads.flatMap Got.cells) 0 (T.reads.length * 3) = some (T.reads.flatMap Got.cells) := by rw [← flat_len Got.cells_len]; exact seg_all _
    have hone : (T.reads.flatMap Got.cells).all one = true := got_one _
    obtain ⟨τ, rfl, hne1, hne2⟩ := open_two hg hb (by simp)
    clear hg hb
    (refine acalls_F ok88 (by simp) ?_; unfold c88 r88)
    (repeat' (first | (simp +contextual -dsimp only [*, winR, Msg.cells, TxS.cells, TxS.req, TxS.rests, TxS.asks, TxS.more, ↓reduceIte, ↓evP, evQ, splice_nil, splice_zero, splice_skip, Nat.reduceAdd, Nat.reduceEqDiff, Nat.reduceLeDiff, Nat.reduceMul, reduceCtorEq, Int.reduceLT, Int.reduceLE, Int.reduceGT, Int.reduceGE, Int.reduceEq, Int.reduceNeg]) | (refine condF_split (fun hc => ?_) (fun hc => ?_) <;> (try simp only [Bool.not_eq_true', Bool.not_eq_false', Bool.and_eq_true, Bool.or_eq_false_iff] at hc)) | refine callF_v (of47w _ _ _) ?_ | refine callF_v (narrow46rw _ _ _ _ _) ?_ | refine ccallF_of (of47w _ _ _) ?_ | refine ccallF_of (narrow46rw _ _ _ _ _) ?_ | refine gcallF_of (of47w _ _ _) ?_ | refine gcallF_of (narrow46rw _ _ _ _ _) ?_ | (intro _; intros) | (refine And.intro ?_ ?_; focus (first | omega | ((repeat (first | exact Sub.refl _ | (refine Sub.drop ?_ ?_; focus (simp only [evN, *]; done)) | refine Sub.both ?_)); done) | (simp_all; done) | (simp_all; omega)))))
    · have hf := fits_eq hc
      rw [hf, takes_no hf]
      refine endF_at ⟨rfl, leafTxRw (by simp only [upd_at, *, ↓reduceIte]; rfl) ?_ (by repeat (first | exact Same.refl _ _ | (refine Same.updNew ?_ ?_; focus (simp only [evN, *]; done)) | (refine Same.both ?_ ?_; focus (first | exact rfl | exact .inl rfl | exact .inr rfl)) | (refine Same.updIn ?_ ?_; focus (first | exact rfl | exact .inl rfl | exact .inr rfl)) | refine Same.eq ?_)) ?_⟩
      · first | exact .inl ⟨rfl, hnil⟩ | exact rows_mk rfl hcap (by simp only [upd_at, *, ↓reduceIte]; done) | exact rows_mk (by simp [TxS.took, TxS.rests, *]) (by omega) (by first | (simp only [upd_at, *, ↓reduceIte, TxS.took, TxS.rests, List.nil_append]; done) | (simp only [upd_at, *, ↓reduceIte, TxS.took, TxS.rests, List.nil_append]; rfl))
      · (intro k hk; first | exact .inl hk | (cases hk; exact .inr (by simp only [evN, *]; done)))
    · have hf := fits_eq hc
      rw [hf, takes_eq hf]
      have hl : (T.reads.flatMap Got.cells ++ [.string T.key, .bool m.has, .string m.data]) = (T.reads ++ [(⟨T.key, m.has, m.data⟩ : Got)]).flatMap Got.cells := by simp only [List.flatMap_append, List.flatMap_cons, List.flatMap_nil, Got.cells, List.append_nil]
      refine app_b (by first | (simp only [Nat.reduceMul, Nat.one_mul, Nat.zero_mul, rdn_row, rdn_same, rdn_ne, seg_zero, seg_cons, seg_skip, Option.map_some, not_false_eq_true, *]; done) | (simp only [Nat.reduceMul, Nat.one_mul, Nat.zero_mul, rdn_row, rdn_same, rdn_ne, seg_zero, seg_cons, seg_skip, Option.map_some, not_false_eq_true, *]; exact rfl)) hone (by first | (simp only [upd_at, *, ↓reduceIte]; done) | (simp only [upd_at, *, ↓reduceIte]; rfl)) rfl (by omega) (by omega) (by unfold maxLen; omega) ?_ ?_
      · (repeat' (first | (simp +contextual -dsimp only [*, winR, Msg.cells, TxS.cells, TxS.req, TxS.rests, TxS.asks, TxS.more, ↓reduceIte, ↓evP, evQ, splice_nil, splice_zero, splice_skip, Nat.reduceAdd, Nat.reduceEqDiff, Nat.reduceLeDiff, Nat.reduceMul, reduceCtorEq, Int.reduceLT, Int.reduceLE, Int.reduceGT, Int.reduceGE, Int.reduceEq, Int.reduceNeg]) | (refine condF_split (fun hc => ?_) (fun hc => ?_) <;> (try simp only [Bool.not_eq_true', Bool.not_eq_false', Bool.and_eq_true, Bool.or_eq_false_iff] at hc)) | (intro _; intros) | (refine And.intro ?_ ?_; focus (first | omega | ((repeat (first | exact Sub.refl _ | (refine Sub.drop ?_ ?_; focus (simp only [evN, *]; done)) | refine Sub.both ?_)); done) | (simp_all; done) | (simp_all; omega)))))
        refine app_b (by first | (simp only [Nat.reduceMul, Nat.one_mul, Nat.zero_mul, rdn_row, rdn_same, rdn_ne, seg_zero, seg_cons, seg_skip, Option.map_some, not_false_eq_true, *]; done) | (simp only [Nat.reduceMul, Nat.one_mul, Nat.zero_mul, rdn_row, rdn_same, rdn_ne, seg_zero, seg_cons, seg_skip, Option.map_some, not_false_eq_true, *]; exact rfl)) rfl (by first | (simp only [upd_at, *, ↓reduceIte]; done) | (simp only [upd_at, *, ↓reduceIte]; rfl)) (flat_len Got.cells_len _) (by omega) (by omega) (by unfold maxLen; omega) ?_ ?_
        all_goals rw [hl]
        all_goals (repeat' (first | (simp +contextual -dsimp only [*, winR, Msg.cells, TxS.cells, TxS.req, TxS.rests, TxS.asks, TxS.more, ↓reduceIte, ↓evP, evQ, splice_nil, splice_zero, splice_skip, Nat.reduceAdd, Nat.reduceEqDiff, Nat.reduceLeDiff, Nat.reduceMul, reduceCtorEq, Int.reduceLT, Int.reduceLE, Int.reduceGT, Int.reduceGE, Int.reduceEq, Int.reduceNeg]) | (refine condF_split (fun hc => ?_) (fun hc => ?_) <;> (try simp only [Bool.not_eq_true', Bool.not_eq_false', Bool.and_eq_true, Bool.or_eq_false_iff] at hc)) | refine callF_v (ends40w (T := T.took m.has m.data m.lo m.hi) (v := .slice (some ⟨_, 0, none⟩) (T.reads.length + 1) _) (by first | rfl | (simp only [upd_same, upd_at, set_at, *, ↓reduceIte]; done) | (simp only [upd_same, upd_at, set_at, *, ↓reduceIte]; rfl)) _ _) ?_ | refine ccallF_of (ends40w (T := T.took m.has m.data m.lo m.hi) (v := .slice (some ⟨_, 0, none⟩) (T.reads.length + 1) _) (by first | rfl | (simp only [upd_same, upd_at, set_at, *, ↓reduceIte]; done) | (simp only [upd_same, upd_at, set_at, *, ↓reduceIte]; rfl)) _ _) ?_ | refine gcallF_of (ends40w (T := T.took m.has m.data m.lo m.hi) (v := .slice (some ⟨_, 0, none⟩) (T.reads.length + 1) _) (by first | rfl | (simp only [upd_same, upd_at, set_at, *, ↓reduceIte]; done) | (simp only [upd_same, upd_at, set_at, *, ↓reduceIte]; rfl)) _ _) ?_ | (intro _; intros) | (refine And.intro ?_ ?_; focus (first | omega | ((repeat (first | exact Sub.refl _ | (refine Sub.drop ?_ ?_; focus (simp only [evN, *]; done)) | refine Sub.both ?_)); done) | (simp_all; done) | (simp_all; omega)))))
        all_goals (refine endF_at ⟨rfl, leafTxRw (by simp only [upd_at, *, ↓reduceIte]; rfl) ?_ (by repeat (first | exact Same.refl _ _ | (refine Same.updNew ?_ ?_; focus (simp only [evN, *]; done)) | (refine Same.both ?_ ?_; focus (first | exact rfl | exact .inl rfl | exact .inr rfl)) | (refine Same.updIn ?_ ?_; focus (first | exact rfl | exact .inl rfl | exact .inr rfl)) | refine Same.eq ?_)) ?_⟩; (focus (first | exact .inl ⟨rfl, hnil⟩ | exact rows_mk rfl hcap (by simp only [upd_at, *, ↓reduceIte]; done) | exact rows_mk (by simp [TxS.took, TxS.rests, *]) (by omega) (by first | (simp only [upd_at, *, ↓reduceIte, TxS.took, TxS.rests, List.nil_append]; done) | (simp only [upd_at, *, ↓reduceIte, TxS.took, TxS.rests, List.nil_append]; rfl)))); (focus (intro k hk; first | exact .inl hk | (cases hk; exact .inr (by simp only [evN, *]; done)))))
      · (repeat' (first | (simp +contextual -dsimp only [*, winR, Msg.cells, TxS.cells, TxS.req, TxS.rests, TxS.asks, TxS.more, ↓reduceIte, ↓evP, evQ, splice_nil, splice_zero, splice_skip, Nat.reduceAdd, Nat.reduceEqDiff, Nat.reduceLeDiff, Nat.reduceMul, reduceCtorEq, Int.reduceLT, Int.reduceLE, Int.reduceGT, Int.reduceGE, Int.reduceEq, Int.reduceNeg]) | (refine condF_split (fun hc => ?_) (fun hc => ?_) <;> (try simp only [Bool.not_eq_true', Bool.not_eq_false', Bool.and_eq_true, Bool.or_eq_false_iff] at hc)) | (intro _; intros) | (refine And.intro ?_ ?_; focus (first | omega | ((repeat (first | exact Sub.refl _ | (refine Sub.drop ?_ ?_; focus (simp only [evN, *]; done)) | refine Sub.both ?_)); done) | (simp_all; done) | (simp_all; omega)))))
        refine app_b (by first | (simp only [Nat.reduceMul, Nat.one_mul, Nat.zero_mul, rdn_row, rdn_same, rdn_ne, seg_zero, seg_cons, seg_skip, Option.map_some, not_false_eq_true, *]; done) | (simp only [Nat.reduceMul, Nat.one_mul, Nat.zero_mul, rdn_row, rdn_same, rdn_ne, seg_zero, seg_cons, seg_skip, Option.map_some, not_false_eq_true, *]; exact rfl)) rfl (by first | (simp only [upd_at, *, ↓reduceIte]; done) | (simp only [upd_at, *, ↓reduceIte]; rfl)) (flat_len Got.cells_len _) (by omega) (by omega) (by unfold maxLen; omega) ?_ ?_
        all_goals rw [hl]
        all_goals (repeat' (first | (simp +contextual -dsimp only [*, winR, Msg.cells, TxS.cells, TxS.req, TxS.rests, TxS.asks, TxS.more, ↓reduceIte, ↓evP, evQ, splice_nil, splice_zero, splice_skip, Nat.reduceAdd, Nat.reduceEqDiff, Nat.reduceLeDiff, Nat.reduceMul, reduceCtorEq, Int.reduceLT, Int.reduceLE, Int.reduceGT, Int.reduceGE, Int.reduceEq, Int.reduceNeg]) | (refine condF_split (fun hc => ?_) (fun hc => ?_) <;> (try simp only [Bool.not_eq_true', Bool.not_eq_false', Bool.and_eq_true, Bool.or_eq_false_iff] at hc)) | refine callF_v (ends40w (T := T.took m.has m.data m.lo m.hi) (v := .slice (some ⟨_, 0, none⟩) (T.reads.length + 1) _) (by first | rfl | (simp only [upd_same, upd_at, set_at, *, ↓reduceIte]; done) | (simp only [upd_same, upd_at, set_at, *, ↓reduceIte]; rfl)) _ _) ?_ | refine ccallF_of (ends40w (T := T.took m.has m.data m.lo m.hi) (v := .slice (some ⟨_, 0, none⟩) (T.reads.length + 1) _) (by first | rfl | (simp only [upd_same, upd_at, set_at, *, ↓reduceIte]; done) | (simp only [upd_same, upd_at, set_at, *, ↓reduceIte]; rfl)) _ _) ?_ | refine gcallF_of (ends40w (T := T.took m.has m.data m.lo m.hi) (v := .slice (some ⟨_, 0, none⟩) (T.reads.length + 1) _) (by first | rfl | (simp only [upd_same, upd_at, set_at, *, ↓reduceIte]; done) | (simp only [upd_same, upd_at, set_at, *, ↓reduceIte]; rfl)) _ _) ?_ | (intro _; intros) | (refine And.intro ?_ ?_; focus (first | omega | ((repeat (first | exact Sub.refl _ | (refine Sub.drop ?_ ?_; focus (simp only [evN, *]; done)) | refine Sub.both ?_)); done) | (simp_all; done) | (simp_all; omega)))))
        all_goals (refine endF_at ⟨rfl, leafTxRw (by simp only [upd_at, *, ↓reduceIte]; rfl) ?_ (by repeat (first | exact Same.refl _ _ | (refine Same.updNew ?_ ?_; focus (simp only [evN, *]; done)) | (refine Same.both ?_ ?_; focus (first | exact rfl | exact .inl rfl | exact .inr rfl)) | (refine Same.updIn ?_ ?_; focus (first | exact rfl | exact .inl rfl | exact .inr rfl)) | refine Same.eq ?_)) ?_⟩; (focus (first | exact .inl ⟨rfl, hnil⟩ | exact rows_mk rfl hcap (by simp only [upd_at, *, ↓reduceIte]; done) | exact rows_mk (by simp [TxS.took, TxS.rests, *]) (by omega) (by first | (simp only [upd_at, *, ↓reduceIte, TxS.took, TxS.rests, List.nil_append]; done) | (simp only [upd_at, *, ↓reduceIte, TxS.took, TxS.rests, List.nil_append]; rfl)))); (focus (intro k hk; first | exact .inl hk | (cases hk; exact .inr (by simp only [evN, *]; done)))))
theorem leafKeepRw {Wa Wb : List Value} {wn : Nat} {σ₀ σ : Hp} {g : Nat} {v : Value} {T T' : TxS} (h : TxW Wa Wb wn σ₀ g T v) (h3 : Same (fun k => k = g) σ₀ σ) (h1 : σ g = some (.row (win Wa (T'.cells v) Wb) wn 112)) (hr : T'.reads = T.reads) :
    ∃ v', TxW Wa Wb wn σ g T' v' ∧ StepR σ₀ g v σ v' := ⟨v, h.same h3 h1 hr, h3, fun k hk => .inl hk⟩
theorem hear_alt (T : TxS) (m : Msg) : T.hear m = cond ((decide (T.st = 1) && decide (m.kind = 4)) || (decide (T.st = 2) && decide (m.kind = 6))) (cond (decide (m.tx = T.id) && decide (m.seq = T.seq))
    (cond (decide (T.st = 1) && decide (m.kind = 4)) (cond (m.hit && T.fits m.lo m.hi) (T.takes m.has m.data m.lo m.hi, {}, true) (T.asks 2 T.key, (T.asks 2 T.key).req, true))
      (cond (decide (m.err = 0)) (T.takes m.has m.data m.lo m.hi, {}, T.fits m.lo m.hi) (T.rests 4 m.err, {}, true))) (T, {}, false)) (T, {}, false) := by
  unfold TxS.hear TxS.busy
  cases decide (T.st = 1) <;> cases decide (T.st = 2) <;> cases decide (m.kind = 4) <;> cases decide (m.kind = 6) <;> cases decide (m.tx = T.id) <;> cases decide (m.seq = T.seq) <;> rfl
theorem stepOnR {Wa Wb : List Value} {wn : Nat} {σ0 σ1 σ2 : Hp} {g : Nat} {v v1 : Value} {T : TxS} (h : StepR σ0 g v σ1 v1) (k : ∃ v', TxW Wa Wb wn σ2 g T v' ∧ StepR σ1 g v1 σ2 v') (hg : σ1 g ≠ none) : ∃ v', TxW Wa Wb wn σ2 g T v' ∧ StepR σ0 g v σ2 v' := by
  obtain ⟨v', a, b⟩ := k
  refine ⟨v', a, h.1.trans b.1 fun _ _ e => e, fun i hi => ?_⟩
  rcases b.2 i hi with e | e
  · exact h.2 i e
  · by_cases e0 : σ0 i = none
    · exact .inr e0
    · by_cases e2 : i = g
      · subst e2; exact absurd e hg
      · exact absurd ((h.1 i e0 e2).symm.trans e) e0
theorem hear30w {Wa Wb : List Value} {wn : Nat} {σ : Hp} {g : Nat} {T : TxS} {v : Value} (hT : TxW Wa Wb wn σ g T v) (m : Msg) (hk : T.key.size ≤ 140737488351232) (hn : (T.reads.length + 1) * 40 ≤ 140737488355328) :
    ACalls Tryz.prog 62 #[.pointer (some ⟨g, Wa.length, none⟩), .agg m.cells.toArray] σ fun u σ' => u = .tuple #[.agg (T.hear m).2.1.cells.toArray, .bool (T.hear m).2.2] ∧ ∃ v', TxW Wa Wb wn σ' g (T.hear m).1 v' ∧ StepR σ g v σ' v' := by
  rw [hear_alt]
  have hg := hT.1
  unfold TxS.cells at hg
  obtain ⟨τ, rfl⟩ := open_upd hg
  clear hg
  have H : Hid (TxW Wa Wb wn _ g T v) := ⟨hT⟩
  clear hT
  (refine acalls_F ok62 (by simp) ?_; unfold c62 r62)
  (repeat' (first | (simp +contextual -dsimp only [*, winR, Msg.cells, TxS.cells, TxS.req, TxS.rests, TxS.asks, TxS.more, ↓reduceIte, ↓evP, evQ, splice_nil, splice_zero, splice_skip, Nat.reduceAdd, Nat.reduceEqDiff, Nat.reduceLeDiff, Nat.reduceMul, reduceCtorEq, Int.reduceLT, Int.reduceLE, Int.reduceGT, Int.reduceGE, Int.reduceEq, Int.reduceNeg]) | (refine condF_split (fun hc => ?_) (fun hc => ?_) <;> (try simp only [Bool.not_eq_true', Bool.not_eq_false', Bool.and_eq_true, Bool.or_eq_false_iff] at hc)) | (intro _; intros) | (refine And.intro ?_ ?_; focus (first | omega | ((repeat (first | exact Sub.refl _ | (refine Sub.drop ?_ ?_; focus (simp only [evN, *]; done)) | refine Sub.both ?_)); done) | (simp_all; done) | (simp_all; omega)))))
  all_goals (try (first | (exfalso; clear H; simp only [decide_eq_true_eq, decide_eq_false_iff_not] at *; omega) | ((with_reducible refine endF_at ⟨?_, ?_⟩); (focus (first | (simp only [cond_true, cond_false, Bool.and_true, Bool.true_and, Bool.and_false, Bool.false_and, Bool.or_true, Bool.true_or, Bool.or_false, Bool.false_or, *]; done) | (simp only [cond_true, cond_false, Bool.and_true, Bool.true_and, Bool.and_false, Bool.false_and, Bool.or_true, Bool.true_or, Bool.or_false, Bool.false_or, *]; rfl))); (focus (simp only [cond_true, cond_false, Bool.and_true, Bool.true_and, Bool.and_false, Bool.false_and, Bool.or_true, Bool.true_or, Bool.or_false, Bool.false_or, *]; exact leafKeepRw H.out (by repeat (first | exact Same.refl _ _ | (refine Same.updNew ?_ ?_; focus (simp only [evN, *]; done)) | (refine Same.both ?_ ?_; focus (first | exact rfl | exact .inl rfl | exact .inr rfl)) | (refine Same.updIn ?_ ?_; focus (first | exact rfl | exact .inl rfl | exact .inr rfl)) | refine Same.eq ?_)) (by first | (simp only [upd_at, *, ↓reduceIte]; done) | (simp only [upd_at, *, ↓reduceIte]; rfl)) rfl))) | ((repeat' (first | (simp +contextual -dsimp only [*, winR, Msg.cells, TxS.cells, TxS.req, TxS.rests, TxS.asks, TxS.more, ↓reduceIte, ↓evP, evQ, splice_nil, splice_zero, splice_skip, Nat.reduceAdd, Nat.reduceEqDiff, Nat.reduceLeDiff, Nat.reduceMul, reduceCtorEq, Int.reduceLT, Int.reduceLE, Int.reduceGT, Int.reduceGE, Int.reduceEq, Int.reduceNeg]) | (refine condF_split (fun hc => ?_) (fun hc => ?_) <;> (try simp only [Bool.not_eq_true', Bool.not_eq_false', Bool.and_eq_true, Bool.or_eq_false_iff] at hc)) | refine callF_v (ends40w (T := T) (v := v) (by first | rfl | (simp only [upd_same, upd_at, set_at, *, ↓reduceIte]; done) | (simp only [upd_same, upd_at, set_at, *, ↓reduceIte]; rfl)) _ _) ?_ | refine callF_v (asks37w (T := T) (v := v) (by first | rfl | (simp only [upd_same, upd_at, set_at, *, ↓reduceIte]; done) | (simp only [upd_same, upd_at, set_at, *, ↓reduceIte]; rfl)) _ (by assumption)) ?_ | refine ccallF_of (ends40w (T := T) (v := v) (by first | rfl | (simp only [upd_same, upd_at, set_at, *, ↓reduceIte]; done) | (simp only [upd_same, upd_at, set_at, *, ↓reduceIte]; rfl)) _ _) ?_ | refine ccallF_of (asks37w (T := T) (v := v) (by first | rfl | (simp only [upd_same, upd_at, set_at, *, ↓reduceIte]; done) | (simp only [upd_same, upd_at, set_at, *, ↓reduceIte]; rfl)) _ (by assumption)) ?_ | refine gcallF_of (ends40w (T := T) (v := v) (by first | rfl | (simp only [upd_same, upd_at, set_at, *, ↓reduceIte]; done) | (simp only [upd_same, upd_at, set_at, *, ↓reduceIte]; rfl)) _ _) ?_ | refine gcallF_of (asks37w (T := T) (v := v) (by first | rfl | (simp only [upd_same, upd_at, set_at, *, ↓reduceIte]; done) | (simp only [upd_same, upd_at, set_at, *, ↓reduceIte]; rfl)) _ (by assumption)) ?_ | (intro _; intros) | (refine And.intro ?_ ?_; focus (first | omega | ((repeat (first | exact Sub.refl _ | (refine Sub.drop ?_ ?_; focus (simp only [evN, *]; done)) | refine Sub.both ?_)); done) | (simp_all; done) | (simp_all; omega))))); ((with_reducible refine endF_at ⟨?_, ?_⟩); (focus (first | (simp only [cond_true, cond_false, Bool.and_true, Bool.true_and, Bool.and_false, Bool.false_and, Bool.or_true, Bool.true_or, Bool.or_false, Bool.false_or, *]; done) | (simp only [cond_true, cond_false, Bool.and_true, Bool.true_and, Bool.and_false, Bool.false_and, Bool.or_true, Bool.true_or, Bool.or_false, Bool.false_or, *]; rfl))); (focus (simp only [cond_true, cond_false, Bool.and_true, Bool.true_and, Bool.and_false, Bool.false_and, Bool.or_true, Bool.true_or, Bool.or_false, Bool.false_or, *]; exact leafKeepRw H.out (by repeat (first | exact Same.refl _ _ | (refine Same.updNew ?_ ?_; focus (simp only [evN, *]; done)) | (refine Same.both ?_ ?_; focus (first | exact rfl | exact .inl rfl | exact .inr rfl)) | (refine Same.updIn ?_ ?_; focus (first | exact rfl | exact .inl rfl | exact .inr rfl)) | refine Same.eq ?_)) (by first | (simp only [upd_at, *, ↓reduceIte]; done) | (simp only [upd_at, *, ↓reduceIte]; rfl)) rfl))))))
  · refine callF_of (ACalls.beside ?_ (ACalls.beside ?_ (takes39w H.out { m with hit := true } hn))) ?_
    · (simp only [none_upd, not_false_eq_true, true_and, and_true, *]; done)
    · (simp only [none_upd, not_false_eq_true, true_and, and_true, *]; done)
    rintro u σ'' ⟨σ1, ⟨σ2, ⟨rfl, v', hT', hS⟩, hn2, rfl⟩, hn1, rfl⟩
    simp only [none_upd] at hn1
    have HS : Hid (StepR _ g v _ v') := ⟨hS⟩
    clear hS
    cases hf : T.fits m.lo m.hi with
    | true =>
      simp +contextual -dsimp only [*, winR, Msg.cells, TxS.cells, TxS.req, TxS.rests, TxS.asks, TxS.more, ↓reduceIte, ↓evP, evQ, splice_nil, splice_zero, splice_skip, Nat.reduceAdd, Nat.reduceEqDiff, Nat.reduceLeDiff, Nat.reduceMul, reduceCtorEq, Int.reduceLT, Int.reduceLE, Int.reduceGT, Int.reduceGE, Int.reduceEq, Int.reduceNeg]
      (with_reducible refine endF_sub (τ := σ2) ?_ ⟨?_, ?_⟩)
      · (repeat (first | exact Sub.refl _ | (refine Sub.drop ?_ ?_; focus (simp only [evN, *]; done)) | refine Sub.both ?_)); done
      · (first | (simp only [cond_true, cond_false, Bool.and_true, Bool.true_and, Bool.and_false, Bool.false_and, Bool.or_true, Bool.true_or, Bool.or_false, Bool.false_or, *]; done) | (simp only [cond_true, cond_false, Bool.and_true, Bool.true_and, Bool.and_false, Bool.false_and, Bool.or_true, Bool.true_or, Bool.or_false, Bool.false_or, *]; rfl))
      · simp only [cond_true, cond_false, Bool.and_true, Bool.true_and, Bool.and_false, Bool.false_and, Bool.or_true, Bool.true_or, Bool.or_false, Bool.false_or, *]; exact ⟨v', hT', HS.out⟩
    | false =>
      rw [takes_no hf] at hT'
      have hg := hT'.1
      unfold TxS.cells at hg
      obtain ⟨τ2, rfl⟩ := open_upd hg
      clear hg
      simp only [none_upd] at hn1 hn2
      have H2 : Hid (TxW Wa Wb wn _ g T v') := ⟨hT'⟩
      clear hT'
      (repeat' (first | (simp +contextual -dsimp only [*, winR, Msg.cells, TxS.cells, TxS.req, TxS.rests, TxS.asks, TxS.more, ↓reduceIte, ↓evP, evQ, splice_nil, splice_zero, splice_skip, Nat.reduceAdd, Nat.reduceEqDiff, Nat.reduceLeDiff, Nat.reduceMul, reduceCtorEq, Int.reduceLT, Int.reduceLE, Int.reduceGT, Int.reduceGE, Int.reduceEq, Int.reduceNeg]) | (refine condF_split (fun hc => ?_) (fun hc => ?_) <;> (try simp only [Bool.not_eq_true', Bool.not_eq_false', Bool.and_eq_true, Bool.or_eq_false_iff] at hc)) | refine callF_v (asks37w (T := T) (v := v') (by first | rfl | (simp only [upd_same, upd_at, set_at, *, ↓reduceIte]; done) | (simp only [upd_same, upd_at, set_at, *, ↓reduceIte]; rfl)) _ (by assumption)) ?_ | refine ccallF_of (asks37w (T := T) (v := v') (by first | rfl | (simp only [upd_same, upd_at, set_at, *, ↓reduceIte]; done) | (simp only [upd_same, upd_at, set_at, *, ↓reduceIte]; rfl)) _ (by assumption)) ?_ | refine gcallF_of (asks37w (T := T) (v := v') (by first | rfl | (simp only [upd_same, upd_at, set_at, *, ↓reduceIte]; done) | (simp only [upd_same, upd_at, set_at, *, ↓reduceIte]; rfl)) _ (by assumption)) ?_ | (intro _; intros) | (refine And.intro ?_ ?_; focus (first | omega | ((repeat (first | exact Sub.refl _ | (refine Sub.drop ?_ ?_; focus (simp only [evN, *]; done)) | refine Sub.both ?_)); done) | (simp_all; done) | (simp_all; omega)))))
      (with_reducible refine endF_at ⟨?_, ?_⟩)
      · (first | (simp only [cond_true, cond_false, Bool.and_true, Bool.true_and, Bool.and_false, Bool.false_and, Bool.or_true, Bool.true_or, Bool.or_false, Bool.false_or, *]; done) | (simp only [cond_true, cond_false, Bool.and_true, Bool.true_and, Bool.and_false, Bool.false_and, Bool.or_true, Bool.true_or, Bool.or_false, Bool.false_or, *]; rfl))
      · simp only [cond_true, cond_false, Bool.and_true, Bool.true_and, Bool.and_false, Bool.false_and, Bool.or_true, Bool.true_or, Bool.or_false, Bool.false_or, *]
        exact stepOnR HS.out (leafKeepRw H2.out (by repeat (first | exact Same.refl _ _ | (refine Same.updNew ?_ ?_; focus (simp only [evN, *]; done)) | (refine Same.both ?_ ?_; focus (first | exact rfl | exact .inl rfl | exact .inr rfl)) | (refine Same.updIn ?_ ?_; focus (first | exact rfl | exact .inl rfl | exact .inr rfl)) | refine Same.eq ?_)) (by first | (simp only [upd_at, *, ↓reduceIte]; done) | (simp only [upd_at, *, ↓reduceIte]; rfl)) rfl) (by rw [upd_same]; simp)
  · refine callF_of (ACalls.beside ?_ (ACalls.beside ?_ (takes39w H.out m hn))) ?_
    · (simp only [none_upd, not_false_eq_true, true_and, and_true, *]; done)
    · (simp only [none_upd, not_false_eq_true, true_and, and_true, *]; done)
    rintro u σ'' ⟨σ1, ⟨σ2, ⟨rfl, v', hT', hS⟩, hn2, rfl⟩, hn1, rfl⟩
    simp only [none_upd] at hn1
    have HS : Hid (StepR _ g v _ v') := ⟨hS⟩
    clear hS
    simp +contextual -dsimp only [*, winR, Msg.cells, TxS.cells, TxS.req, TxS.rests, TxS.asks, TxS.more, ↓reduceIte, ↓evP, evQ, splice_nil, splice_zero, splice_skip, Nat.reduceAdd, Nat.reduceEqDiff, Nat.reduceLeDiff, Nat.reduceMul, reduceCtorEq, Int.reduceLT, Int.reduceLE, Int.reduceGT, Int.reduceGE, Int.reduceEq, Int.reduceNeg]
    (with_reducible refine endF_sub (τ := σ2) ?_ ⟨?_, ?_⟩)
    · (repeat (first | exact Sub.refl _ | (refine Sub.drop ?_ ?_; focus (simp only [evN, *]; done)) | refine Sub.both ?_)); done
    · (first | (simp only [cond_true, cond_false, Bool.and_true, Bool.true_and, Bool.and_false, Bool.false_and, Bool.or_true, Bool.true_or, Bool.or_false, Bool.false_or, *]; done) | (simp only [cond_true, cond_false, Bool.and_true, Bool.true_and, Bool.and_false, Bool.false_and, Bool.or_true, Bool.true_or, Bool.or_false, Bool.false_or, *]; rfl))
    · simp only [cond_true, cond_false, Bool.and_true, Bool.true_and, Bool.and_false, Bool.false_and, Bool.or_true, Bool.true_or, Bool.or_false, Bool.false_or, *]; exact ⟨v', hT', HS.out⟩
theorem same18w {σ : Hp} {T : TxS} {v v' : Value} (hr : RowsAt 128 3 Got.cells σ v T.reads) (hr' : RowsAt 128 3 Got.cells σ v' T.reads) (hn : T.reads.length ≤ 140737488351232) : ACalls Tryz.prog 34 #[.agg (T.view v).toArray, .agg (T.view v').toArray] σ fun u σ' => u = .bool true ∧ σ' = σ := by
  obtain ⟨a, c, rfl⟩ := hr.slice
  obtain ⟨a', c', rfl⟩ := hr'.slice
  (refine acalls_F ok34 (by simp) ?_; unfold c34 r34)
  (repeat' (first | (simp +contextual -dsimp only [*, TxS.cells, TxS.view, Msg.cells, ↓reduceIte, ↓evP, evQ, splice, Nat.reduceAdd, Nat.reduceEqDiff, Nat.reduceLeDiff, Nat.reduceMul, reduceCtorEq, Int.reduceLT, Int.reduceLE, Int.reduceGT, Int.reduceGE, Int.reduceEq, Int.reduceNeg]) | (refine condF_split (fun hc => ?_) (fun hc => ?_) <;> (try simp only [Bool.not_eq_true', Bool.not_eq_false', Bool.and_eq_true, Bool.or_eq_false_iff] at hc)) | (intro _; intros) | (refine And.intro ?_ ?_; focus (first | omega | ((repeat (first | exact Sub.refl _ | (refine Sub.drop ?_ ?_; focus (simp only [evN, *]; done)) | refine Sub.both ?_)); done) | (simp_all; done) | (simp_all; omega)))))
  rename_i l1 h1 l2 h2 h3 h4
  refine loopF_keep [2, 3] (fun k s => ∃ i : Nat, i ≤ T.reads.length ∧ k = T.reads.length - i ∧ s 5 = .int .i64 i) T.reads.length ⟨0, by omega, rfl, (by first | rfl | (simp only [↓putO_get, ↓putO_no, init_zero, init_succ, Nat.reduceEqDiff, ↓reduceIte, *]; done) | (simp only [↓putO_get, ↓putO_no, init_zero, init_succ, Nat.reduceEqDiff, ↓reduceIte, *]; rfl))⟩ ?_
  rintro k s hL ⟨i, hi, hk, h5⟩
  simp only [List.map_cons, List.map_nil, ↓putO_get, ↓putO_no, init_zero, init_succ, Nat.reduceEqDiff, ↓reduceIte, List.cons.injEq, and_true] at hL
  rcases Nat.lt_or_ge i T.reads.length with hlt | hge
  · obtain ⟨x, hx⟩ : ∃ x, T.reads[i]? = some x := ⟨_, List.getElem?_eq_getElem hlt⟩
    have hseg := got_row hx
    have hd : decide ((i : Int) < (T.reads.length : Int)) = true := by simp; omega
    clear hx
    rcases hr with ⟨_, hnil⟩ | ⟨b, c1, e1, hcap, hb⟩
    · rw [hnil] at hlt; cases hlt
    rcases hr' with ⟨_, hnil⟩ | ⟨b', c2, e2, hcap', hb'⟩
    · rw [hnil] at hlt; cases hlt
    cases e1
    cases e2
    by_cases e : b' = b
    · subst e
      obtain ⟨τ, rfl⟩ := open_upd hb
      clear hb hb'
      simp only [none_upd] at h1 h2 h3 h4
      simp +contextual -dsimp only [*, TxS.cells, TxS.view, Msg.cells, ↓reduceIte, ↓evP, evQ, splice, Nat.reduceAdd, Nat.reduceEqDiff, Nat.reduceLeDiff, Nat.reduceMul, reduceCtorEq, Int.reduceLT, Int.reduceLE, Int.reduceGT, Int.reduceGE, Int.reduceEq, Int.reduceNeg]
      refine ⟨by omega, by omega, keep_of (T.reads.length - (i + 1)) (by omega) (by simp only [List.map_cons, List.map_nil, ↓putO_get, ↓putO_no, init_zero, init_succ, Nat.reduceEqDiff, ↓reduceIte, *]) (by (repeat (first | exact Sub.refl _ | (refine Sub.drop ?_ ?_; focus (simp only [evN, *]; done)) | refine Sub.both ?_)); done) ⟨i + 1, by omega, rfl, ?_⟩⟩
      show Value.int .i64 (IntKind.i64.wrap _) = _; rw [wi64 (by omega)]; rfl
    · have e' : ¬ b = b' := fun x => e x.symm
      obtain ⟨τ, rfl⟩ : ∃ τ, σ = upd (upd τ b _) b' _ := ⟨σ, by rw [upd_self hb, upd_self hb']⟩
      clear hb hb'
      simp only [none_upd] at h1 h2 h3 h4
      simp +contextual -dsimp only [*, TxS.cells, TxS.view, Msg.cells, ↓reduceIte, ↓evP, evQ, splice, Nat.reduceAdd, Nat.reduceEqDiff, Nat.reduceLeDiff, Nat.reduceMul, reduceCtorEq, Int.reduceLT, Int.reduceLE, Int.reduceGT, Int.reduceGE, Int.reduceEq, Int.reduceNeg]
      refine ⟨by omega, by omega, keep_of (T.reads.length - (i + 1)) (by omega) (by simp only [List.map_cons, List.map_nil, ↓putO_get, ↓putO_no, init_zero, init_succ, Nat.reduceEqDiff, ↓reduceIte, *]) (by (repeat (first | exact Sub.refl _ | (refine Sub.drop ?_ ?_; focus (simp only [evN, *]; done)) | refine Sub.both ?_)); done) ⟨i + 1, by omega, rfl, ?_⟩⟩
      show Value.int .i64 (IntKind.i64.wrap _) = _; rw [wi64 (by omega)]; rfl
  · have hd : decide ((i : Int) < (T.reads.length : Int)) = false := by simp; omega
    simp +contextual -dsimp only [*, TxS.cells, TxS.view, Msg.cells, ↓reduceIte, ↓evP, evQ, splice, Nat.reduceAdd, Nat.reduceEqDiff, Nat.reduceLeDiff, Nat.reduceMul, reduceCtorEq, Int.reduceLT, Int.reduceLE, Int.reduceGT, Int.reduceGE, Int.reduceEq, Int.reduceNeg]
    exact endF_det rfl (by (repeat (first | exact Sub.refl _ | (refine Sub.drop ?_ ?_; focus (simp only [evN, *]; done)) | refine Sub.both ?_)); done)
end Go.Proofs.YtaoafjlocjjbbaaGreatDoor
