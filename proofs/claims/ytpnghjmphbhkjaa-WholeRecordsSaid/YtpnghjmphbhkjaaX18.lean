/- WholeLogs: whatever is committed, true. -/
import Derived.Test.YtpnghjmphbhkjaaX17
namespace Go.Proofs.Ytpnghjmphbhkjaa
open Go.Sp
set_option linter.unusedSimpArgs false
set_option linter.unusedVariables false
/-- A slice of slices of writes, to be read alone. -/
def ListsAt (σ : Hp) (v : Value) (L : List (List Wr)) : Prop :=
  ∃ A c, v = .slice A L.length c ∧ ∀ (i : Nat) ws, L[i]? = some ws → ∃ b o x, A = some ⟨b, o, none⟩ ∧ rd σ b (o + i * 1) = some x ∧ RoRows 3 Wr.cells σ x ws ∧ ws.length ≤ 140737488355328
def wK : Wr := ⟨⟨#[107]⟩, false, ⟨#[]⟩⟩
theorem check_wK : checkV [wK] = 0 := by decide +kernel
/-- A heap of one block. -/
def only (b : Nat) (o : Blk) : Hp := upd (fun _ => none) b o
theorem only_sub {σ : Hp} {b : Nat} {o : Blk} (h : σ b = some o) : Sub (only b o) σ := fun k => by
  unfold only
  by_cases e : k = b
  · subst e; right; rw [upd_same, h]
  · left; rw [upd_ne _ _ e]
set_option maxHeartbeats 8000000 in
set_option maxRecDepth 100000 in
theorem logs3 {σ : Hp} {v : Value} {L : List (List Wr)} (hL : ListsAt σ v L) (hn : L.length ≤ 140737488355328) (k : ByteArray) (c : Nat) (hc : c ≤ 255) :
    ACalls Try.prog 3 #[v, .string k, .int .u8 c] σ fun u σ' => u = .bool true ∧ σ' = σ := by
  obtain ⟨A, cap, rfl, hrow⟩ := hL
  have HL := Hid.mk hrow
  clear hrow
  (refine acalls_F ok3 (by simp) ?_; unfold c3 r3; simp +contextual -dsimp only [↓reduceIte, ↓evP, evQ, splice, Nat.reduceAdd, Nat.reduceEqDiff, Nat.reduceLeDiff, Nat.reduceMul, reduceCtorEq, Int.reduceLT, Int.reduceLE, Int.reduceGT, Int.reduceGE, Int.reduceEq, Int.reduceNeg])
  refine callF_of (new7 64 σ) ?_
  rintro u τ ⟨m, g, hm, hg, hgm, rfl, rfl⟩
  rw [show mnI (mxI 64 1) 64 = 64 by decide]
  simp +contextual -dsimp only [*, ↓reduceIte, ↓evP, evQ, splice, Nat.reduceAdd, Nat.reduceEqDiff, Nat.reduceLeDiff, Nat.reduceMul, reduceCtorEq, Int.reduceLT, Int.reduceLE, Int.reduceGT, Int.reduceGE, Int.reduceEq, Int.reduceNeg]
  refine callF_of (new8 _) ?_
  rintro u τ ⟨gl, hgl, rfl, rfl⟩
  have hW := WL.new_ hm hg hgm hgl
  generalize hσa : upd (upd (upd σ m (.mp [])) g (.cells [.map (some m), .int .i64 64, .int .i64 0] 100)) gl (.cells [.slice none 0 0] 102) = σa at hW ⊢
  have HW := Hid.mk hW
  clear hW hm hg hgm hgl hσa
  (repeat' (first | (simp +contextual -dsimp only [*, ↓reduceIte, ↓evP, evQ, splice, Nat.reduceAdd, Nat.reduceEqDiff, Nat.reduceLeDiff, Nat.reduceMul, reduceCtorEq, Int.reduceLT, Int.reduceLE, Int.reduceGT, Int.reduceGE, Int.reduceEq, Int.reduceNeg]) | (refine condF_split (fun hc => ?_) (fun hc => ?_) <;> (try simp only [Bool.not_eq_true', Bool.not_eq_false', Bool.and_eq_true, Bool.or_eq_false_iff] at hc)) | (intro _; intros) | (refine And.intro ?_ ?_; focus (first | omega | ((repeat (first | exact Sub.refl _ | (refine Sub.drop ?_ ?_; focus (simp only [evN, *]; done)) | refine Sub.both ?_)); done) | (simp_all; done) | (simp_all; omega)))))
  · exact endF_det rfl HW.out.sub
  have h60 : L.length ≤ 60 := by have := of_decide_eq_false hc; omega
  clear hc
  rename_i y y0
  have hWy := HW.out.same (Same.updNew (b := y) (o := .row [.string ⟨#[107]⟩, .bool false, .string ⟨#[]⟩] 3 33) y0 (Same.refl _ _))
  obtain ⟨n1, n2, n3⟩ := hWy.ne
  have yg : ¬ g = y := fun e => by have := HW.out.store.cell; rw [e, y0] at this; cases this
  have ym : ¬ m = y := fun e => by obtain ⟨l, this, _⟩ := HW.out.store.map; rw [e, y0] at this; cases this
  have hrk : RoRows 3 Wr.cells (only y (.row [.string ⟨#[107]⟩, .bool false, .string ⟨#[]⟩] 3 33)) (.slice (some ⟨y, 0, none⟩) 1 1) [wK] :=
    RowsAt.ro Wr.cells_len (.inr ⟨y, 1, rfl, Nat.le_refl _, by unfold only; rw [upd_same]; rfl⟩)
  refine callF_of (commit9 hWy.store (run_ok (by decide)) hrk (only_sub (upd_same _ _ _)) (by unfold only; rw [upd_ne _ _ yg]) (by unfold only; rw [upd_ne _ _ ym]) (by decide)) ?_
  rintro u τ (⟨hne, _⟩ | ⟨_, rfl, hS, hs⟩)
  · exact absurd check_wK hne
  have hW1 := Hid.mk (hWy.commit hs hS (check_good check_wK))
  clear hWy n1 n2 n3 yg ym hrk hS hs HW y0
  rw [show (St.run 64 []).last + 1 = 1 from rfl]
  (repeat' (first | (simp +contextual -dsimp only [*, ↓reduceIte, ↓evP, evQ, splice, Nat.reduceAdd, Nat.reduceEqDiff, Nat.reduceLeDiff, Nat.reduceMul, reduceCtorEq, Int.reduceLT, Int.reduceLE, Int.reduceGT, Int.reduceGE, Int.reduceEq, Int.reduceNeg]) | (refine condF_split (fun hc => ?_) (fun hc => ?_) <;> (try simp only [Bool.not_eq_true', Bool.not_eq_false', Bool.and_eq_true, Bool.or_eq_false_iff] at hc)) | (intro _; intros) | (refine And.intro ?_ ?_; focus (first | omega | ((repeat (first | exact Sub.refl _ | (refine Sub.drop ?_ ?_; focus (simp only [evN, *]; done)) | refine Sub.both ?_)); done) | (simp_all; done) | (simp_all; omega)))))
  rename_i z z0
  have hWz := hW1.out.same (Same.updNew (b := z) (o := .row [.string ⟨#[107]⟩] 1 9) z0 (Same.refl _ _))
  have hrk : RoRows 1 sC (upd τ z (.row [.string ⟨#[107]⟩] 1 9)) (.slice (some ⟨z, 0, none⟩) 1 1) [⟨#[107]⟩] :=
    RowsAt.ro sC_len (.inr ⟨z, 1, rfl, Nat.le_refl _, by rw [upd_same]; rfl⟩)
  refine callF_of (append10 hWz.log hrk (by decide) (by decide)) ?_
  rintro u τ' (⟨e, _, _, _, hbad⟩ | ⟨v', rfl, hLg, hst, _⟩)
  · exact absurd (check_good check_wK).keys hbad
  have hW2 := Hid.mk (WL.append (ws := [wK]) hWz hLg hst)
  clear hWz hrk hLg hst hW1 z0
  rw [show (([] : List (List Wr)).map keysOf).length + 1 = 1 from rfl]
  (repeat' (first | (simp +contextual -dsimp only [*, ↓reduceIte, ↓evP, evQ, splice, Nat.reduceAdd, Nat.reduceEqDiff, Nat.reduceLeDiff, Nat.reduceMul, reduceCtorEq, Int.reduceLT, Int.reduceLE, Int.reduceGT, Int.reduceGE, Int.reduceEq, Int.reduceNeg]) | (refine condF_split (fun hc => ?_) (fun hc => ?_) <;> (try simp only [Bool.not_eq_true', Bool.not_eq_false', Bool.and_eq_true, Bool.or_eq_false_iff] at hc)) | (intro _; intros) | (refine And.intro ?_ ?_; focus (first | omega | ((repeat (first | exact Sub.refl _ | (refine Sub.drop ?_ ?_; focus (simp only [evN, *]; done)) | refine Sub.both ?_)); done) | (simp_all; done) | (simp_all; omega)))))
  show codeF _ (.seq c3_b0 c3_t0) _ _ _ _
  refine codeF_cut (fun s σ' => ∃ H v, WL σ σ' g m gl v H H ∧ H.length ≤ 61 ∧ s 1 = .string k ∧ s 2 = .int .u8 c ∧ s 7 = .pointer (some ⟨g, 0, none⟩) ∧ s 8 = .pointer (some ⟨gl, 0, none⟩)) ?_ ?_
  · unfold c3_b0
    simp +contextual -dsimp only [*, ↓reduceIte, ↓evP, evQ, splice, Nat.reduceAdd, Nat.reduceEqDiff, Nat.reduceLeDiff, Nat.reduceMul, reduceCtorEq, Int.reduceLT, Int.reduceLE, Int.reduceGT, Int.reduceGE, Int.reduceEq, Int.reduceNeg]
    refine loopF_of (fun n s σ' => ∃ (i : Nat) (H : List (List Wr)) (v : Value), i ≤ L.length ∧ n = L.length - i ∧ H.length ≤ i + 1 ∧ WL σ σ' g m gl v H H ∧ s 13 = .int .i64 i ∧ s 0 = .slice A L.length cap ∧ s 1 = .string k ∧ s 2 = .int .u8 c ∧ s 7 = .pointer (some ⟨g, 0, none⟩) ∧ s 8 = .pointer (some ⟨gl, 0, none⟩)) L.length (Sub.refl _)
      ⟨0, [[wK]], v', by omega, rfl, by decide, hW2.out, (by first | rfl | (simp only [↓putO_get, ↓putO_no, init_zero, init_succ, Nat.reduceEqDiff, ↓reduceIte, *]; done) | (simp only [↓putO_get, ↓putO_no, init_zero, init_succ, Nat.reduceEqDiff, ↓reduceIte, *]; rfl)), (by first | rfl | (simp only [↓putO_get, ↓putO_no, init_zero, init_succ, Nat.reduceEqDiff, ↓reduceIte, *]; done) | (simp only [↓putO_get, ↓putO_no, init_zero, init_succ, Nat.reduceEqDiff, ↓reduceIte, *]; rfl)), (by first | rfl | (simp only [↓putO_get, ↓putO_no, init_zero, init_succ, Nat.reduceEqDiff, ↓reduceIte, *]; done) | (simp only [↓putO_get, ↓putO_no, init_zero, init_succ, Nat.reduceEqDiff, ↓reduceIte, *]; rfl)), (by first | rfl | (simp only [↓putO_get, ↓putO_no, init_zero, init_succ, Nat.reduceEqDiff, ↓reduceIte, *]; done) | (simp only [↓putO_get, ↓putO_no, init_zero, init_succ, Nat.reduceEqDiff, ↓reduceIte, *]; rfl)), (by first | rfl | (simp only [↓putO_get, ↓putO_no, init_zero, init_succ, Nat.reduceEqDiff, ↓reduceIte, *]; done) | (simp only [↓putO_get, ↓putO_no, init_zero, init_succ, Nat.reduceEqDiff, ↓reduceIte, *]; rfl)), (by first | rfl | (simp only [↓putO_get, ↓putO_no, init_zero, init_succ, Nat.reduceEqDiff, ↓reduceIte, *]; done) | (simp only [↓putO_get, ↓putO_no, init_zero, init_succ, Nat.reduceEqDiff, ↓reduceIte, *]; rfl))⟩ ?_
    clear hW2
    rintro n s τ1 ⟨i, H, v1, hi, hk, hH, hW, s13, s0, s1, s2, s7, s8⟩
    rcases Nat.lt_or_ge i L.length with hlt | hge
    · obtain ⟨ws, hws⟩ : ∃ ws, L[i]? = some ws := ⟨_, List.getElem?_eq_getElem hlt⟩
      obtain ⟨b, o, x, e, hrd, hro, hwn⟩ := HL.out i ws hws
      subst e
      have hrd0 := Hid.mk hrd
      have hrd := rd_sub hW.sub hrd
      have hd : decide ((i : Int) < (L.length : Int)) = true := by simp; omega
      have e1 : IntKind.i64.wrap ((i : Int) + 1) = ((i + 1 : Nat) : Int) := by rw [wi64 (by omega)]; rfl
      have hW := Hid.mk hW
      have hro := Hid.mk hro
      clear hws
      (repeat' (first | (simp +contextual -dsimp only [*, ↓reduceIte, ↓evP, evQ, splice, Nat.reduceAdd, Nat.reduceEqDiff, Nat.reduceLeDiff, Nat.reduceMul, reduceCtorEq, Int.reduceLT, Int.reduceLE, Int.reduceGT, Int.reduceGE, Int.reduceEq, Int.reduceNeg]) | (refine condF_split (fun hc => ?_) (fun hc => ?_) <;> (try simp only [Bool.not_eq_true', Bool.not_eq_false', Bool.and_eq_true, Bool.or_eq_false_iff] at hc)) | (intro _; intros) | (refine And.intro ?_ ?_; focus (first | omega | ((repeat (first | exact Sub.refl _ | (refine Sub.drop ?_ ?_; focus (simp only [evN, *]; done)) | refine Sub.both ?_)); done) | (simp_all; done) | (simp_all; omega)))))
      have hl := (hW.out.log)
      refine callF_of (commit9 hW.out.store (run_ok (by omega)) hro.out hW.out.sub hW.out.new.1 hW.out.new.2.1 hwn) ?_
      rintro u τ2 (⟨hne, rfl, rfl⟩ | ⟨h0, rfl, hS, hs⟩)
      · have hz : decide (checkV ws = 0) = false := by simp; exact hne
        (repeat' (first | (simp +contextual -dsimp only [*, ↓reduceIte, ↓evP, evQ, splice, Nat.reduceAdd, Nat.reduceEqDiff, Nat.reduceLeDiff, Nat.reduceMul, reduceCtorEq, Int.reduceLT, Int.reduceLE, Int.reduceGT, Int.reduceGE, Int.reduceEq, Int.reduceNeg]) | (refine condF_split (fun hc => ?_) (fun hc => ?_) <;> (try simp only [Bool.not_eq_true', Bool.not_eq_false', Bool.and_eq_true, Bool.or_eq_false_iff] at hc)) | (intro _; intros) | (refine And.intro ?_ ?_; focus (first | omega | ((repeat (first | exact Sub.refl _ | (refine Sub.drop ?_ ?_; focus (simp only [evN, *]; done)) | refine Sub.both ?_)); done) | (simp_all; done) | (simp_all; omega)))))
        exact nextF_of (L.length - (i + 1)) (by omega) (Sub.refl _) ⟨i + 1, H, v1, by omega, rfl, by omega, hW.out, (by first | rfl | (simp only [↓putO_get, ↓putO_no, init_zero, init_succ, Nat.reduceEqDiff, ↓reduceIte, *]; done) | (simp only [↓putO_get, ↓putO_no, init_zero, init_succ, Nat.reduceEqDiff, ↓reduceIte, *]; rfl)), (by first | rfl | (simp only [↓putO_get, ↓putO_no, init_zero, init_succ, Nat.reduceEqDiff, ↓reduceIte, *]; done) | (simp only [↓putO_get, ↓putO_no, init_zero, init_succ, Nat.reduceEqDiff, ↓reduceIte, *]; rfl)), (by first | rfl | (simp only [↓putO_get, ↓putO_no, init_zero, init_succ, Nat.reduceEqDiff, ↓reduceIte, *]; done) | (simp only [↓putO_get, ↓putO_no, init_zero, init_succ, Nat.reduceEqDiff, ↓reduceIte, *]; rfl)), (by first | rfl | (simp only [↓putO_get, ↓putO_no, init_zero, init_succ, Nat.reduceEqDiff, ↓reduceIte, *]; done) | (simp only [↓putO_get, ↓putO_no, init_zero, init_succ, Nat.reduceEqDiff, ↓reduceIte, *]; rfl)), (by first | rfl | (simp only [↓putO_get, ↓putO_no, init_zero, init_succ, Nat.reduceEqDiff, ↓reduceIte, *]; done) | (simp only [↓putO_get, ↓putO_no, init_zero, init_succ, Nat.reduceEqDiff, ↓reduceIte, *]; rfl)), (by first | rfl | (simp only [↓putO_get, ↓putO_no, init_zero, init_succ, Nat.reduceEqDiff, ↓reduceIte, *]; done) | (simp only [↓putO_get, ↓putO_no, init_zero, init_succ, Nat.reduceEqDiff, ↓reduceIte, *]; rfl))⟩
      · have hg := check_good h0
        have hW2 := Hid.mk (hW.out.commit hs hS hg)
        have hg := Hid.mk hg
        have hrd2 := rd_sub hW2.out.sub hrd0.out
        clear hS hs h0 hl hrd
        (repeat' (first | (simp +contextual -dsimp only [*, ↓reduceIte, ↓evP, evQ, splice, Nat.reduceAdd, Nat.reduceEqDiff, Nat.reduceLeDiff, Nat.reduceMul, reduceCtorEq, Int.reduceLT, Int.reduceLE, Int.reduceGT, Int.reduceGE, Int.reduceEq, Int.reduceNeg]) | (refine condF_split (fun hc => ?_) (fun hc => ?_) <;> (try simp only [Bool.not_eq_true', Bool.not_eq_false', Bool.and_eq_true, Bool.or_eq_false_iff] at hc)) | (intro _; intros) | (refine And.intro ?_ ?_; focus (first | omega | ((repeat (first | exact Sub.refl _ | (refine Sub.drop ?_ ?_; focus (simp only [evN, *]; done)) | refine Sub.both ?_)); done) | (simp_all; done) | (simp_all; omega)))))
        refine callF_of (keys11 (hro.out.sub hW2.out.sub) (by have := hg.out.few; omega)) ?_
        rintro u τ3 ⟨hr3, hm3⟩
        have hW3 := Hid.mk (hW2.out.same hm3.1)
        have hk := hg.out.keys
        refine (fun q => ?_) (append10 hW3.out.log (hr3.ro sC_len) (by omega) (by rw [List.length_map]; omega))
        have hk := Hid.mk hk
        clear hr3 hm3
        (repeat' (first | (simp +contextual -dsimp only [*, ↓reduceIte, ↓evP, evQ, splice, Nat.reduceAdd, Nat.reduceEqDiff, Nat.reduceLeDiff, Nat.reduceMul, reduceCtorEq, Int.reduceLT, Int.reduceLE, Int.reduceGT, Int.reduceGE, Int.reduceEq, Int.reduceNeg]) | (refine condF_split (fun hc => ?_) (fun hc => ?_) <;> (try simp only [Bool.not_eq_true', Bool.not_eq_false', Bool.and_eq_true, Bool.or_eq_false_iff] at hc)) | (intro _; intros) | (refine And.intro ?_ ?_; focus (first | omega | ((repeat (first | exact Sub.refl _ | (refine Sub.drop ?_ ?_; focus (simp only [evN, *]; done)) | refine Sub.both ?_)); done) | (simp_all; done) | (simp_all; omega)))))
        refine callF_of q ?_
        rintro u τ4 (⟨e, _, _, _, hbad⟩ | ⟨v4, rfl, hLg, hst, _⟩)
        · exact absurd hk.out hbad
        have hW4 := Hid.mk (WL.append hW3.out hLg hst)
        clear hLg hst q
        have e5 : (((H.map keysOf).length + 1 : Nat) : Int) = (((St.run 64 H).last + 1 : Nat) : Int) := by rw [List.length_map]; rfl
        rw [e5]
        (repeat' (first | (simp +contextual -dsimp only [*, ↓reduceIte, ↓evP, evQ, splice, Nat.reduceAdd, Nat.reduceEqDiff, Nat.reduceLeDiff, Nat.reduceMul, reduceCtorEq, Int.reduceLT, Int.reduceLE, Int.reduceGT, Int.reduceGE, Int.reduceEq, Int.reduceNeg]) | (refine condF_split (fun hc => ?_) (fun hc => ?_) <;> (try simp only [Bool.not_eq_true', Bool.not_eq_false', Bool.and_eq_true, Bool.or_eq_false_iff] at hc)) | (intro _; intros) | (refine And.intro ?_ ?_; focus (first | omega | ((repeat (first | exact Sub.refl _ | (refine Sub.drop ?_ ?_; focus (simp only [evN, *]; done)) | refine Sub.both ?_)); done) | (simp_all; done) | (simp_all; omega)))))
        exact nextF_of (L.length - (i + 1)) (by omega) (Sub.refl _) ⟨i + 1, H ++ [ws], v4, by omega, rfl, by simp; omega, hW4.out, (by first | rfl | (simp only [↓putO_get, ↓putO_no, init_zero, init_succ, Nat.reduceEqDiff, ↓reduceIte, *]; done) | (simp only [↓putO_get, ↓putO_no, init_zero, init_succ, Nat.reduceEqDiff, ↓reduceIte, *]; rfl)), (by first | rfl | (simp only [↓putO_get, ↓putO_no, init_zero, init_succ, Nat.reduceEqDiff, ↓reduceIte, *]; done) | (simp only [↓putO_get, ↓putO_no, init_zero, init_succ, Nat.reduceEqDiff, ↓reduceIte, *]; rfl)), (by first | rfl | (simp only [↓putO_get, ↓putO_no, init_zero, init_succ, Nat.reduceEqDiff, ↓reduceIte, *]; done) | (simp only [↓putO_get, ↓putO_no, init_zero, init_succ, Nat.reduceEqDiff, ↓reduceIte, *]; rfl)), (by first | rfl | (simp only [↓putO_get, ↓putO_no, init_zero, init_succ, Nat.reduceEqDiff, ↓reduceIte, *]; done) | (simp only [↓putO_get, ↓putO_no, init_zero, init_succ, Nat.reduceEqDiff, ↓reduceIte, *]; rfl)), (by first | rfl | (simp only [↓putO_get, ↓putO_no, init_zero, init_succ, Nat.reduceEqDiff, ↓reduceIte, *]; done) | (simp only [↓putO_get, ↓putO_no, init_zero, init_succ, Nat.reduceEqDiff, ↓reduceIte, *]; rfl)), (by first | rfl | (simp only [↓putO_get, ↓putO_no, init_zero, init_succ, Nat.reduceEqDiff, ↓reduceIte, *]; done) | (simp only [↓putO_get, ↓putO_no, init_zero, init_succ, Nat.reduceEqDiff, ↓reduceIte, *]; rfl))⟩
    · have hd : decide ((i : Int) < (L.length : Int)) = false := by simp; omega
      have hW := Hid.mk hW
      (repeat' (first | (simp +contextual -dsimp only [*, ↓reduceIte, ↓evP, evQ, splice, Nat.reduceAdd, Nat.reduceEqDiff, Nat.reduceLeDiff, Nat.reduceMul, reduceCtorEq, Int.reduceLT, Int.reduceLE, Int.reduceGT, Int.reduceGE, Int.reduceEq, Int.reduceNeg]) | (refine condF_split (fun hc => ?_) (fun hc => ?_) <;> (try simp only [Bool.not_eq_true', Bool.not_eq_false', Bool.and_eq_true, Bool.or_eq_false_iff] at hc)) | (intro _; intros) | (refine And.intro ?_ ?_; focus (first | omega | ((repeat (first | exact Sub.refl _ | (refine Sub.drop ?_ ?_; focus (simp only [evN, *]; done)) | refine Sub.both ?_)); done) | (simp_all; done) | (simp_all; omega)))))
      exact ⟨H, v1, hW.out, by omega⟩
  · rintro s σ' ⟨H, v, hW, hH, s1, s2, s7, s8⟩
    exact tail3 hW hH k c hc s1 s2 s7 s8
end Go.Proofs.Ytpnghjmphbhkjaa
