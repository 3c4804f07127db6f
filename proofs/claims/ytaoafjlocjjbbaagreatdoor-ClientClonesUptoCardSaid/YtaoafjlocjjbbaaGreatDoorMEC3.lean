/- Texts of mine, part 3 of 6, laid together: The reference's tokens. The reference's Parse. Join; a session that is nil; a clone. The document's examples. Tokens there and back, and as the chapter says. Lists of texts, compared; the reference's tests of keys and values. The reference's check of writes. Two messages that are alike. A session over the rest of a heap: what its calls leave of both. A part of a row, read and written through its p No condition. -/
import Derived.Test.YtaoafjlocjjbbaaGreatDoorMEC2
import Derived.Test.YtaoafjlocjjbbaaGreatDoorProg
import Derived.KernelRfl
-- C22
namespace Go.Proofs.YtaoafjlocjjbbaaGreatDoor
open Go.Sp
set_option linter.unusedSimpArgs false
set_option linter.unusedVariables false
theorem strOne (n : Int) : strOfNums [n] = ⟨#[UInt8.ofNat n.toNat]⟩ := rfl
theorem deci_small {n : Int} (h0 : 0 ≤ n) (h1 : n < 10) : deci n = ⟨#[UInt8.ofNat (48 + n).toNat]⟩ := by
  obtain ⟨u, rfl⟩ := Int.eq_ofNat_of_zero_le h0
  unfold deci
  rw [Lib.itoa_nonneg, Lib.decDigits_one (by omega)]
  rw [show (48 + (u : Int)).toNat = 48 + u by omega]
theorem deci_step {n : Int} (h0 : 0 ≤ n) (h1 : ¬ n < 10) : deci n = deci (n / 10) ++ ⟨#[UInt8.ofNat (48 + n % 10).toNat]⟩ := by
  obtain ⟨u, rfl⟩ := Int.eq_ofNat_of_zero_le h0
  apply list_ext
  rw [show (u : Int) / 10 = ((u / 10 : Nat) : Int) by omega]
  unfold deci
  rw [Lib.itoa_nonneg, Lib.itoa_nonneg, decDigits_step (by omega)]
  rw [show (48 + (u : Int) % 10).toNat = 48 + u % 10 by omega]
  simp [ByteArray.data_append]
theorem digits50 : ∀ (k : Nat) (n : Int) (σ : Hp), n.toNat ≤ k → 0 ≤ n → n ≤ 9223372036854775807 → ACalls Tryz.prog 108 #[.int .i64 n] σ fun v σ' => v = .string (deci n) ∧ σ' = σ := by
  intro k
  induction k using Nat.strongRecOn with
  | ind k ih =>
    intro n σ hk h0 h1
    have e1 : n.tmod 10 = n % 10 := Int.tmod_eq_emod_of_nonneg h0
    have e2 : IntKind.i64.wrap (48 + n % 10) = 48 + n % 10 := wi64 (by omega)
    have e3 : IntKind.u8.wrap (48 + n % 10) = 48 + n % 10 := IntWalk.u8_in _ (by omega)
    have e4 : n.tdiv 10 = n / 10 := Int.tdiv_eq_ediv_of_nonneg h0
    have e5 : IntKind.i64.wrap (n / 10) = n / 10 := wi64 (by omega)
    have s1 : (deci (n / 10)).size + (⟨#[UInt8.ofNat (48 + n % 10).toNat]⟩ : ByteArray).size ≤ 9223372036854775807 := by
      have := deci_size (n := n / 10) (by omega) (by omega)
      show _ + 1 ≤ _
      omega
    have s2 := strOne (48 + n % 10)
    have H := Hid.mk (And.intro hk (And.intro h0 h1))
    clear hk h0 h1
    (refine acalls_F ok108 (by simp) ?_; unfold c108 r108)
    (repeat' (first | (simp +contextual -dsimp only [*, ↓reduceIte, ↓evP, evQ, splice, Nat.reduceAdd, Nat.reduceEqDiff, Nat.reduceLeDiff, Nat.reduceMul, reduceCtorEq, Int.reduceLT, Int.reduceLE, Int.reduceGT, Int.reduceGE, Int.reduceEq, Int.reduceNeg]) | (refine condF_split (fun hc => ?_) (fun hc => ?_) <;> (try simp only [Bool.not_eq_true', Bool.not_eq_false', Bool.and_eq_true, Bool.or_eq_false_iff] at hc)) | (intro _; intros) | (refine And.intro ?_ ?_; focus (first | omega | ((repeat (first | exact Sub.refl _ | (refine Sub.drop ?_ ?_; focus (simp only [evN, *]; done)) | refine Sub.both ?_)); done) | (simp_all; done) | (simp_all; omega)))))
    · have hn := of_decide_eq_true ‹decide (n < 10) = true›
      have h0 := H.out.2.1
      exact endF_det (by rw [deci_small h0 hn, show n % 10 = n by omega]) (by (repeat (first | exact Sub.refl _ | (refine Sub.drop ?_ ?_; focus (simp only [evN, *]; done)) | refine Sub.both ?_)); done)
    · have hn := of_decide_eq_false ‹decide (n < 10) = false›
      have h0 := H.out
      refine callF_v (ih (n / 10).toNat (by omega) (n / 10) _ (Nat.le_refl _) (by omega) (by omega)) ?_
      have hd := Hid.mk (deci_step h0.2.1 hn)
      clear h0 hn
      simp +contextual -dsimp only [*, ↓reduceIte, ↓evP, evQ, splice, Nat.reduceAdd, Nat.reduceEqDiff, Nat.reduceLeDiff, Nat.reduceMul, reduceCtorEq, Int.reduceLT, Int.reduceLE, Int.reduceGT, Int.reduceGE, Int.reduceEq, Int.reduceNeg]
      exact endF_det (by rw [hd.out]) (by (repeat (first | exact Sub.refl _ | (refine Sub.drop ?_ ?_; focus (simp only [evN, *]; done)) | refine Sub.both ?_)); done)
theorem tokU (n : Int) (h0 : 0 ≤ n) (h1 : n ≤ 1099511627776) : IntKind.i64.wrap (n * 7) = n * 7 ∧ IntKind.i64.wrap (n * 7 + 3) = n * 7 + 3 ∧ (n * 7 + 3).tmod 26 = (n * 7 + 3) % 26 ∧ IntKind.i64.wrap (97 + (n * 7 + 3) % 26) = sufI n ∧ IntKind.u8.wrap (sufI n) = sufI n ∧
    (⟨#[116]⟩ : ByteArray).size + (deci n).size ≤ 9223372036854775807 ∧ (⟨#[116]⟩ ++ deci n : ByteArray).size + (⟨#[46]⟩ : ByteArray).size ≤ 9223372036854775807 ∧ (⟨#[116]⟩ ++ deci n ++ ⟨#[46]⟩ : ByteArray).size + (⟨#[UInt8.ofNat (sufI n).toNat]⟩ : ByteArray).size ≤ 9223372036854775807 := by
  have hs := deci_size h0 (by omega)
  have hs0 : 97 ≤ sufI n ∧ sufI n ≤ 122 := by unfold sufI; omega
  refine ⟨wi64 (by omega), wi64 (by omega), Int.tmod_eq_emod_of_nonneg (by omega), wi64 (by omega), IntWalk.u8_in _ (by omega), ?_, ?_, ?_⟩
  · show 1 + _ ≤ _; omega
  · rw [ByteArray.size_append]; show 1 + _ + 1 ≤ _; omega
  · rw [ByteArray.size_append, ByteArray.size_append]; show 1 + _ + 1 + 1 ≤ _; omega
theorem token20 (n : Int) (σ : Hp) : ACalls Tryz.prog 92 #[.int .i64 n] σ fun v σ' => v = .tuple #[.string (tokV n), .int .i64 (tokE n)] ∧ σ' = σ := by
  (refine acalls_F ok92 (by simp) ?_; unfold c92 r92)
  (repeat' (first | (simp +contextual -dsimp only [*, ↓reduceIte, ↓evP, evQ, splice, Nat.reduceAdd, Nat.reduceEqDiff, Nat.reduceLeDiff, Nat.reduceMul, reduceCtorEq, Int.reduceLT, Int.reduceLE, Int.reduceGT, Int.reduceGE, Int.reduceEq, Int.reduceNeg]) | (refine condF_split (fun hc => ?_) (fun hc => ?_) <;> (try simp only [Bool.not_eq_true', Bool.not_eq_false', Bool.and_eq_true, Bool.or_eq_false_iff] at hc)) | (intro _; intros) | (refine And.intro ?_ ?_; focus (first | omega | ((repeat (first | exact Sub.refl _ | (refine Sub.drop ?_ ?_; focus (simp only [evN, *]; done)) | refine Sub.both ?_)); done) | (simp_all; done) | (simp_all; omega)))))
  · exact endF_det (by unfold tokV tokE tokBad; rw [hc]; rfl) (Sub.refl _)
  · rename_i h1; exact endF_det (by unfold tokV tokE tokBad; rw [h1, hc]; rfl) (Sub.refl _)
  have hb : tokBad n = false := by unfold tokBad; rw [‹decide (n < 0) = false›, ‹decide (n > 1099511627776) = false›]; rfl
  have h0 : 0 ≤ n := by have := of_decide_eq_false ‹decide (n < 0) = false›; omega
  have h1 : n ≤ 1099511627776 := by have := of_decide_eq_false ‹decide (n > 1099511627776) = false›; omega
  obtain ⟨e1, e2, e3, e4, e5, s1, s2, s3⟩ := tokU n h0 h1
  have e6 := strOne (sufI n)
  refine gcallF_of (digits50 n.toNat n σ (Nat.le_refl _) h0 (by omega)) ?_
  have HT := Hid.mk (show tokV n = ⟨#[116]⟩ ++ deci n ++ ⟨#[46]⟩ ++ ⟨#[UInt8.ofNat (sufI n).toNat]⟩ ∧ tokE n = 0 by unfold tokV tokE; rw [hb]; exact ⟨rfl, rfl⟩)
  clear hb h0 h1
  (repeat' (first | (simp +contextual -dsimp only [*, ↓reduceIte, ↓evP, evQ, splice, Nat.reduceAdd, Nat.reduceEqDiff, Nat.reduceLeDiff, Nat.reduceMul, reduceCtorEq, Int.reduceLT, Int.reduceLE, Int.reduceGT, Int.reduceGE, Int.reduceEq, Int.reduceNeg]) | (refine condF_split (fun hc => ?_) (fun hc => ?_) <;> (try simp only [Bool.not_eq_true', Bool.not_eq_false', Bool.and_eq_true, Bool.or_eq_false_iff] at hc)) | (intro _; intros) | (refine And.intro ?_ ?_; focus (first | omega | ((repeat (first | exact Sub.refl _ | (refine Sub.drop ?_ ?_; focus (simp only [evN, *]; done)) | refine Sub.both ?_)); done) | (simp_all; done) | (simp_all; omega)))))
  refine endF_det ?_ ?_
  · rw [HT.out.1, HT.out.2]
  · exact (by (repeat (first | exact Sub.refl _ | (refine Sub.drop ?_ ?_; focus (simp only [evN, *]; done)) | refine Sub.both ?_)); done)
theorem drop_cons {l : List UInt8} {i : Nat} (h : i < l.length) : l.drop i = l.getD i 0 :: l.drop (i + 1) := by
  rw [List.drop_eq_getElem_cons h, List.getD_eq_getElem?_getD, List.getElem?_eq_getElem h]; rfl
theorem rpl_go {s : ByteArray} {i : Nat} {n : Int} (h1 : i < s.size) (h2 : i < 20) (h3 : 48 ≤ (s.data.toList.getD i 0).toNat) (h4 : (s.data.toList.getD i 0).toNat ≤ 57) (h5 : n ≤ 1099511627776) :
    rpl (20 - (i + 1)) (s.data.toList.drop (i + 1)) (10 * n + (((s.data.toList.getD i 0).toNat : Int) - 48)) = rpl (20 - i) (s.data.toList.drop i) n := by
  rw [size_list] at h1
  rw [drop_cons h1, show 20 - i = (20 - (i + 1)) + 1 by omega, rpl, if_pos ⟨⟨h3, h4⟩, h5⟩]
theorem rpl_stop {s : ByteArray} {i : Nat} {n : Int} (hi : i ≤ 20) (h : ¬ (i < s.size ∧ i < 20 ∧ 48 ≤ (s.data.toList.getD i 0).toNat ∧ (s.data.toList.getD i 0).toNat ≤ 57 ∧ n ≤ 1099511627776)) : rpl (20 - i) (s.data.toList.drop i) n = n := by
  rcases Nat.lt_or_ge i 20 with h20 | h20
  · rw [show 20 - i = (20 - (i + 1)) + 1 by omega]
    rcases Nat.lt_or_ge i s.size with hs | hs
    · rw [size_list] at hs
      rw [drop_cons hs, rpl, if_neg (fun ⟨⟨h3, h4⟩, h5⟩ => h ⟨by rw [size_list]; exact hs, h20, h3, h4, h5⟩)]
    · rw [List.drop_eq_nil_of_le (by rw [← size_list]; exact hs)]; rfl
  · rw [show 20 - i = 0 by omega]; cases s.data.toList.drop i <;> rfl
theorem par_end {s : ByteArray} {n : Int} (hN : n = rpl 19 (s.data.toList.drop 1) 0) : parV s = cond (decide (tokE n = 0) && decide (tokV n = s)) n 0 ∧ parE s = cond (decide (tokE n = 0) && decide (tokV n = s)) 0 30 := by
  have h := rpl_par s
  rw [← hN] at h
  unfold parV parE
  rw [← h]
  by_cases h1 : tokE n = 0 <;> by_cases h2 : tokV n = s <;> simp [h1, h2]
theorem par22 (s : ByteArray) (σ : Hp) (hs : s.size ≤ 281474976710656) : ACalls Tryz.prog 109 #[.string s] σ fun v σ' => v = .tuple #[.int .i64 (parV s), .int .i64 (parE s)] ∧ σ' = σ := by
  (refine acalls_F ok109 (by simp) ?_; unfold c109 r109; simp +contextual -dsimp only [↓reduceIte, ↓evP, evQ, splice, Nat.reduceAdd, Nat.reduceEqDiff, Nat.reduceLeDiff, Nat.reduceMul, reduceCtorEq, Int.reduceLT, Int.reduceLE, Int.reduceGT, Int.reduceGE, Int.reduceEq, Int.reduceNeg])
  refine loopF_of (fun k t σ' => ∃ (i : Nat) (n : Int), 1 ≤ i ∧ i ≤ 20 ∧ k = 20 - i ∧ t 0 = .string s ∧ t 5 = .int .i64 i ∧ t 4 = .int .i64 n ∧ σ' = σ ∧ 0 ≤ n ∧ n ≤ 10995116277769 ∧ rpl (20 - i) (s.data.toList.drop i) n = rpl 19 (s.data.toList.drop 1) 0) 19 (Sub.refl _)
    ⟨1, 0, by omega, by omega, rfl, (by first | rfl | (simp only [↓putO_get, ↓putO_no, init_zero, init_succ, Nat.reduceEqDiff, ↓reduceIte, *]; done) | (simp only [↓putO_get, ↓putO_no, init_zero, init_succ, Nat.reduceEqDiff, ↓reduceIte, *]; rfl)), (by first | rfl | (simp only [↓putO_get, ↓putO_no, init_zero, init_succ, Nat.reduceEqDiff, ↓reduceIte, *]; done) | (simp only [↓putO_get, ↓putO_no, init_zero, init_succ, Nat.reduceEqDiff, ↓reduceIte, *]; rfl)), (by first | rfl | (simp only [↓putO_get, ↓putO_no, init_zero, init_succ, Nat.reduceEqDiff, ↓reduceIte, *]; done) | (simp only [↓putO_get, ↓putO_no, init_zero, init_succ, Nat.reduceEqDiff, ↓reduceIte, *]; rfl)), rfl, by omega, by omega, rfl⟩ ?_
  rintro k t σ' ⟨i, n, h1, h20, rfl, t0, t5, t4, rfl, hn0, hn1, hr⟩
  have w1 : IntKind.i64.wrap ((i : Int) + 1) = ((i + 1 : Nat) : Int) := by rw [wi64 (by omega)]; rfl
  have w2 : IntKind.i64.wrap (10 * n) = 10 * n := wi64 (by omega)
  have HR := Hid.mk (And.intro h1 (And.intro h20 (And.intro hn0 (And.intro hn1 hr))))
  clear h1 h20 hn0 hn1 hr
  (repeat' (first | (simp +contextual -dsimp only [*, ↓reduceIte, ↓evP, evQ, splice, Nat.reduceAdd, Nat.reduceEqDiff, Nat.reduceLeDiff, Nat.reduceMul, reduceCtorEq, Int.reduceLT, Int.reduceLE, Int.reduceGT, Int.reduceGE, Int.reduceEq, Int.reduceNeg]) | (refine condF_split (fun hc => ?_) (fun hc => ?_) <;> (try simp only [Bool.not_eq_true', Bool.not_eq_false', Bool.and_eq_true, Bool.or_eq_false_iff] at hc)) | (intro _; intros) | (refine And.intro ?_ ?_; focus (first | omega | ((repeat (first | exact Sub.refl _ | (refine Sub.drop ?_ ?_; focus (simp only [evN, *]; done)) | refine Sub.both ?_)); done) | (simp_all; done) | (simp_all; omega)))))
  · simp only [decide_eq_true_eq, ge_iff_le] at *
    refine nextF_of (σ₁ := σ') (20 - (i + 1)) (by have := HR.out.2.1; omega) (Sub.refl _) ⟨i + 1, 10 * n + (((s.data.toList.getD i 0).toNat : Int) - 48), by omega, by omega, rfl, (by first | rfl | (simp only [↓putO_get, ↓putO_no, init_zero, init_succ, Nat.reduceEqDiff, ↓reduceIte, *]; done) | (simp only [↓putO_get, ↓putO_no, init_zero, init_succ, Nat.reduceEqDiff, ↓reduceIte, *]; rfl)), (by first | rfl | (simp only [↓putO_get, ↓putO_no, init_zero, init_succ, Nat.reduceEqDiff, ↓reduceIte, *]; done) | (simp only [↓putO_get, ↓putO_no, init_zero, init_succ, Nat.reduceEqDiff, ↓reduceIte, *]; rfl)), ?_, rfl, by have := HR.out.2.2.1; omega, by omega, ?_⟩
    · show Value.int .i64 (IntKind.i64.wrap _) = _
      have c1 : IntKind.u8.wrap (((s.data.toList.getD i 0).toNat : Int) - 48) = ((s.data.toList.getD i 0).toNat : Int) - 48 := IntWalk.u8_in _ (by omega)
      have c2 : IntKind.i64.wrap (((s.data.toList.getD i 0).toNat : Int) - 48) = ((s.data.toList.getD i 0).toNat : Int) - 48 := wi64 (by omega)
      rw [c1, c2, wi64 (by have := HR.out.2.2.1; omega)]
    · rw [rpl_go (by omega) (by omega) (by omega) (by omega) (by omega)]; exact HR.out.2.2.2.2
  all_goals
    have hN : n = rpl 19 (s.data.toList.drop 1) 0 := by
      rw [← HR.out.2.2.2.2]
      refine (rpl_stop HR.out.2.1 (fun h => ?_)).symm
      simp only [decide_eq_true_eq, decide_eq_false_iff_not, ge_iff_le] at *
      omega
    have HP := Hid.mk (par_end hN)
    clear hN HR
    (repeat' (first | (simp +contextual -dsimp only [*, ↓reduceIte, ↓evP, evQ, splice, Nat.reduceAdd, Nat.reduceEqDiff, Nat.reduceLeDiff, Nat.reduceMul, reduceCtorEq, Int.reduceLT, Int.reduceLE, Int.reduceGT, Int.reduceGE, Int.reduceEq, Int.reduceNeg]) | (refine condF_split (fun hc => ?_) (fun hc => ?_) <;> (try simp only [Bool.not_eq_true', Bool.not_eq_false', Bool.and_eq_true, Bool.or_eq_false_iff] at hc)) | refine callF_v (token20 _ _) ?_ | refine ccallF_of (token20 _ _) ?_ | refine gcallF_of (token20 _ _) ?_ | (intro _; intros) | (refine And.intro ?_ ?_; focus (first | omega | ((repeat (first | exact Sub.refl _ | (refine Sub.drop ?_ ?_; focus (simp only [evN, *]; done)) | refine Sub.both ?_)); done) | (simp_all; done) | (simp_all; omega)))))
    all_goals
      refine endF_det ?_ (Sub.refl _)
      rw [HP.out.1, HP.out.2]
      simp [*]
def SesS.joined (S : SesS) (s : ByteArray) : SesS := cond (decide (parE s = 0)) (S.raise (parV s)) S
theorem join24 {σ : Hp} (hG : Glob σ) {g : Nat} {S : SesS} {v : Value} (hg : σ g = some (.cells (S.cells v) 130)) (s : ByteArray) (hs : s.size ≤ 281474976710656) : ACalls Tryz.prog 45 #[.pointer (some ⟨g, 0, none⟩), .string s] σ fun u σ' => u = .int .i64 (parE s) ∧ σ' = set σ g (.cells ((S.joined s).cells v) 130) := by
  have HG := Hid.mk hG
  have Hg := Hid.mk hg
  have HS : Hid (set σ g (.cells (S.cells v) 130) = σ) := ⟨upd_self hg⟩
  clear hG hg
  (refine acalls_F ok45 (by simp) ?_; unfold c45 r45)
  (repeat' (first | (simp +contextual -dsimp only [*, noView, SesS.cells, SesS.view, Wr.cells, SesS.msg, Msg.cells, Bool.not_false, Bool.not_true, onPtr_nil, ↓reduceIte, ↓evP, evQ, splice, Nat.reduceAdd, Nat.reduceEqDiff, Nat.reduceLeDiff, Nat.reduceMul, reduceCtorEq, Int.reduceLT, Int.reduceLE, Int.reduceGT, Int.reduceGE, Int.reduceEq, Int.reduceNeg]) | (refine condF_split (fun hc => ?_) (fun hc => ?_) <;> (try simp only [Bool.not_eq_true', Bool.not_eq_false', Bool.and_eq_true, Bool.or_eq_false_iff] at hc)) | refine callF_v (parse21 HG.out s hs) ?_ | refine callF_v (raise23 Hg.out (parV s)) ?_ | refine ccallF_of (parse21 HG.out s hs) ?_ | refine ccallF_of (raise23 Hg.out (parV s)) ?_ | refine gcallF_of (parse21 HG.out s hs) ?_ | refine gcallF_of (raise23 Hg.out (parV s)) ?_ | (intro _; intros) | (refine And.intro ?_ ?_; focus (first | omega | ((repeat (first | exact Sub.refl _ | (refine Sub.drop ?_ ?_; focus (simp only [evN, *]; done)) | refine Sub.both ?_)); done) | (simp_all; done) | (simp_all; omega)))))
  · refine endF_det rfl ?_
    unfold SesS.joined; rw [hc]; exact Sub.refl _
  · refine endF_det rfl ?_
    unfold SesS.joined; rw [hc]
    show Sub (set σ g (.cells (S.cells v) 130)) σ
    rw [HS.out]; exact Sub.refl _
theorem join24n (σ : Hp) (s : ByteArray) : ACalls Tryz.prog 45 #[.pointer none, .string s] σ fun u σ' => u = .int .i64 3 ∧ σ' = σ := by
  (refine acalls_F ok45 (by simp) ?_; unfold c45 r45)
  (repeat' (first | (simp +contextual -dsimp only [*, noView, SesS.cells, SesS.view, Wr.cells, SesS.msg, Msg.cells, Bool.not_false, Bool.not_true, onPtr_nil, ↓reduceIte, ↓evP, evQ, splice, Nat.reduceAdd, Nat.reduceEqDiff, Nat.reduceLeDiff, Nat.reduceMul, reduceCtorEq, Int.reduceLT, Int.reduceLE, Int.reduceGT, Int.reduceGE, Int.reduceEq, Int.reduceNeg]) | (refine condF_split (fun hc => ?_) (fun hc => ?_) <;> (try simp only [Bool.not_eq_true', Bool.not_eq_false', Bool.and_eq_true, Bool.or_eq_false_iff] at hc)) | (intro _; intros) | (refine And.intro ?_ ?_; focus (first | omega | ((repeat (first | exact Sub.refl _ | (refine Sub.drop ?_ ?_; focus (simp only [evN, *]; done)) | refine Sub.both ?_)); done) | (simp_all; done) | (simp_all; omega)))))
  all_goals (refine endF_det ?_ ?_; (focus ((try simp only [cond_true, cond_false, *]) <;> ((try simp only [decide_eq_true_eq, decide_eq_false_iff_not] at *) <;> first | rfl | (simp []; done) | (simp_all []; done) | (simp []; omega) | (simp []; (rw [Bool.eq_iff_iff]); simp; omega) | (simp_all [] <;> omega) | ((try unfold id); (rw [Value.bool.injEq, Bool.eq_iff_iff]); simp <;> omega) | ((try unfold id); (repeat' split) <;> simp_all <;> omega) | (simp_all [] <;> (repeat' split) <;> simp_all <;> omega)))); (focus ((try simp only [cond_true, cond_false, set_same, *]); exact (by (repeat (first | exact Sub.refl _ | (refine Sub.drop ?_ ?_; focus (simp only [evN, *]; done)) | refine Sub.both ?_)); done))))
theorem send15n (σ : Hp) (w : Value) : ACalls Tryz.prog 39 #[.pointer none, w] σ fun u σ' => u = .tuple #[.agg noMsg.toArray, .int .i64 3] ∧ σ' = σ := by
  (refine acalls_F ok39 (by simp) ?_; unfold c39 r39)
  (repeat' (first | (simp +contextual -dsimp only [*, noView, SesS.cells, SesS.view, Wr.cells, SesS.msg, Msg.cells, Bool.not_false, Bool.not_true, onPtr_nil, ↓reduceIte, ↓evP, evQ, splice, Nat.reduceAdd, Nat.reduceEqDiff, Nat.reduceLeDiff, Nat.reduceMul, reduceCtorEq, Int.reduceLT, Int.reduceLE, Int.reduceGT, Int.reduceGE, Int.reduceEq, Int.reduceNeg]) | (refine condF_split (fun hc => ?_) (fun hc => ?_) <;> (try simp only [Bool.not_eq_true', Bool.not_eq_false', Bool.and_eq_true, Bool.or_eq_false_iff] at hc)) | (intro _; intros) | (refine And.intro ?_ ?_; focus (first | omega | ((repeat (first | exact Sub.refl _ | (refine Sub.drop ?_ ?_; focus (simp only [evN, *]; done)) | refine Sub.both ?_)); done) | (simp_all; done) | (simp_all; omega)))))
  all_goals (refine endF_det ?_ ?_; (focus ((try simp only [noMsg, cond_true, cond_false, *]) <;> ((try simp only [decide_eq_true_eq, decide_eq_false_iff_not] at *) <;> first | rfl | (simp [noMsg]; done) | (simp_all [noMsg]; done) | (simp [noMsg]; omega) | (simp [noMsg]; (rw [Bool.eq_iff_iff]); simp; omega) | (simp_all [noMsg] <;> omega) | ((try unfold noMsg); (rw [Value.bool.injEq, Bool.eq_iff_iff]); simp <;> omega) | ((try unfold noMsg); (repeat' split) <;> simp_all <;> omega) | (simp_all [noMsg] <;> (repeat' split) <;> simp_all <;> omega)))); (focus ((try simp only [noMsg, cond_true, cond_false, set_same, *]); exact (by (repeat (first | exact Sub.refl _ | (refine Sub.drop ?_ ?_; focus (simp only [evN, *]; done)) | refine Sub.both ?_)); done))))
theorem again17n (σ : Hp) (n : Int) : ACalls Tryz.prog 90 #[.pointer none, .int .i64 n] σ fun u σ' => u = .tuple #[.agg noMsg.toArray, .int .i64 3] ∧ σ' = σ := by
  (refine acalls_F ok90 (by simp) ?_; unfold c90 r90)
  (repeat' (first | (simp +contextual -dsimp only [*, noView, SesS.cells, SesS.view, Wr.cells, SesS.msg, Msg.cells, Bool.not_false, Bool.not_true, onPtr_nil, ↓reduceIte, ↓evP, evQ, splice, Nat.reduceAdd, Nat.reduceEqDiff, Nat.reduceLeDiff, Nat.reduceMul, reduceCtorEq, Int.reduceLT, Int.reduceLE, Int.reduceGT, Int.reduceGE, Int.reduceEq, Int.reduceNeg]) | (refine condF_split (fun hc => ?_) (fun hc => ?_) <;> (try simp only [Bool.not_eq_true', Bool.not_eq_false', Bool.and_eq_true, Bool.or_eq_false_iff] at hc)) | (intro _; intros) | (refine And.intro ?_ ?_; focus (first | omega | ((repeat (first | exact Sub.refl _ | (refine Sub.drop ?_ ?_; focus (simp only [evN, *]; done)) | refine Sub.both ?_)); done) | (simp_all; done) | (simp_all; omega)))))
  all_goals (refine endF_det ?_ ?_; (focus ((try simp only [noMsg, cond_true, cond_false, *]) <;> ((try simp only [decide_eq_true_eq, decide_eq_false_iff_not] at *) <;> first | rfl | (simp [noMsg]; done) | (simp_all [noMsg]; done) | (simp [noMsg]; omega) | (simp [noMsg]; (rw [Bool.eq_iff_iff]); simp; omega) | (simp_all [noMsg] <;> omega) | ((try unfold noMsg); (rw [Value.bool.injEq, Bool.eq_iff_iff]); simp <;> omega) | ((try unfold noMsg); (repeat' split) <;> simp_all <;> omega) | (simp_all [noMsg] <;> (repeat' split) <;> simp_all <;> omega)))); (focus ((try simp only [noMsg, cond_true, cond_false, set_same, *]); exact (by (repeat (first | exact Sub.refl _ | (refine Sub.drop ?_ ?_; focus (simp only [evN, *]; done)) | refine Sub.both ?_)); done))))
theorem ack25n (σ : Hp) (m : Msg) : ACalls Tryz.prog 40 #[.pointer none, .agg m.cells.toArray] σ fun u σ' => u = .bool false ∧ σ' = σ := by
  (refine acalls_F ok40 (by simp) ?_; unfold c40 r40)
  (repeat' (first | (simp +contextual -dsimp only [*, noView, SesS.cells, SesS.view, Wr.cells, SesS.msg, Msg.cells, Bool.not_false, Bool.not_true, onPtr_nil, ↓reduceIte, ↓evP, evQ, splice, Nat.reduceAdd, Nat.reduceEqDiff, Nat.reduceLeDiff, Nat.reduceMul, reduceCtorEq, Int.reduceLT, Int.reduceLE, Int.reduceGT, Int.reduceGE, Int.reduceEq, Int.reduceNeg]) | (refine condF_split (fun hc => ?_) (fun hc => ?_) <;> (try simp only [Bool.not_eq_true', Bool.not_eq_false', Bool.and_eq_true, Bool.or_eq_false_iff] at hc)) | (intro _; intros) | (refine And.intro ?_ ?_; focus (first | omega | ((repeat (first | exact Sub.refl _ | (refine Sub.drop ?_ ?_; focus (simp only [evN, *]; done)) | refine Sub.both ?_)); done) | (simp_all; done) | (simp_all; omega)))))
  all_goals (refine endF_det ?_ ?_; (focus ((try simp only [cond_true, cond_false, *]) <;> ((try simp only [decide_eq_true_eq, decide_eq_false_iff_not] at *) <;> first | rfl | (simp []; done) | (simp_all []; done) | (simp []; omega) | (simp []; (rw [Bool.eq_iff_iff]); simp; omega) | (simp_all [] <;> omega) | ((try unfold id); (rw [Value.bool.injEq, Bool.eq_iff_iff]); simp <;> omega) | ((try unfold id); (repeat' split) <;> simp_all <;> omega) | (simp_all [] <;> (repeat' split) <;> simp_all <;> omega)))); (focus ((try simp only [cond_true, cond_false, set_same, *]); exact (by (repeat (first | exact Sub.refl _ | (refine Sub.drop ?_ ?_; focus (simp only [evN, *]; done)) | refine Sub.both ?_)); done))))
def noView : List Value := [.int .i64 0, .bool false, .int .i64 0, .int .i64 0, .int .i64 0, .int .i64 0]
theorem view18n (σ : Hp) : ACalls Tryz.prog 70 #[.pointer none] σ fun u σ' => u = .agg noView.toArray ∧ σ' = σ := by
  (refine acalls_F ok70 (by simp) ?_; unfold c70 r70)
  (repeat' (first | (simp +contextual -dsimp only [*, noView, SesS.cells, SesS.view, Wr.cells, SesS.msg, Msg.cells, Bool.not_false, Bool.not_true, onPtr_nil, ↓reduceIte, ↓evP, evQ, splice, Nat.reduceAdd, Nat.reduceEqDiff, Nat.reduceLeDiff, Nat.reduceMul, reduceCtorEq, Int.reduceLT, Int.reduceLE, Int.reduceGT, Int.reduceGE, Int.reduceEq, Int.reduceNeg]) | (refine condF_split (fun hc => ?_) (fun hc => ?_) <;> (try simp only [Bool.not_eq_true', Bool.not_eq_false', Bool.and_eq_true, Bool.or_eq_false_iff] at hc)) | (intro _; intros) | (refine And.intro ?_ ?_; focus (first | omega | ((repeat (first | exact Sub.refl _ | (refine Sub.drop ?_ ?_; focus (simp only [evN, *]; done)) | refine Sub.both ?_)); done) | (simp_all; done) | (simp_all; omega)))))
  all_goals (refine endF_det ?_ ?_; (focus ((try simp only [cond_true, cond_false, *]) <;> ((try simp only [decide_eq_true_eq, decide_eq_false_iff_not] at *) <;> first | rfl | (simp []; done) | (simp_all []; done) | (simp []; omega) | (simp []; (rw [Bool.eq_iff_iff]); simp; omega) | (simp_all [] <;> omega) | ((try unfold id); (rw [Value.bool.injEq, Bool.eq_iff_iff]); simp <;> omega) | ((try unfold id); (repeat' split) <;> simp_all <;> omega) | (simp_all [] <;> (repeat' split) <;> simp_all <;> omega)))); (focus ((try simp only [cond_true, cond_false, set_same, *]); exact (by (repeat (first | exact Sub.refl _ | (refine Sub.drop ?_ ?_; focus (simp only [evN, *]; done)) | refine Sub.both ?_)); done))))
theorem clone28 {σ : Hp} {g : Nat} {S : SesS} {v : Value} {ws : List Wr} (hg : σ g = some (.cells (S.cells v) 130)) (hr : RowsAt 52 3 Wr.cells σ v ws) (hn : ws.length * 40 ≤ 140737488355328) :
    ACalls Tryz.prog 35 #[.pointer (some ⟨g, 0, none⟩)] σ fun u σ' => ∃ g2 v2, u = .pointer (some ⟨g2, 0, none⟩) ∧ σ g2 = none ∧ σ' g2 = some (.cells (S.cells v2) 130) ∧ RowsAt 52 3 Wr.cells σ' v2 ws ∧ Same (fun _ => False) σ σ' ∧ New σ v2 := by
  obtain ⟨a, c, rfl⟩ := hr.slice
  have H := Hid.mk hr
  have Hg := Hid.mk hg
  clear hr
  (unfold SesS.cells at hg; obtain ⟨τ, rfl⟩ := open_upd hg; clear hg)
  (refine acalls_F ok35 (by simp) ?_; unfold c35 r35)
  (repeat' (first | (simp +contextual -dsimp only [*, noView, SesS.cells, SesS.view, Wr.cells, SesS.msg, Msg.cells, Bool.not_false, Bool.not_true, onPtr_nil, ↓reduceIte, ↓evP, evQ, splice, Nat.reduceAdd, Nat.reduceEqDiff, Nat.reduceLeDiff, Nat.reduceMul, reduceCtorEq, Int.reduceLT, Int.reduceLE, Int.reduceGT, Int.reduceGE, Int.reduceEq, Int.reduceNeg]) | (refine condF_split (fun hc => ?_) (fun hc => ?_) <;> (try simp only [Bool.not_eq_true', Bool.not_eq_false', Bool.and_eq_true, Bool.or_eq_false_iff] at hc)) | (intro _; intros) | (refine And.intro ?_ ?_; focus (first | omega | ((repeat (first | exact Sub.refl _ | (refine Sub.drop ?_ ?_; focus (simp only [evN, *]; done)) | refine Sub.both ?_)); done) | (simp_all; done) | (simp_all; omega)))))
  refine gcallF_first (clone46 H.out hn) (fun _ _ h => h.2.sub) ?_
  rintro u σ1 ⟨hR, hM⟩
  obtain ⟨a', c', rfl⟩ := hR.slice
  have e := hM.1.at (upd_same _ _ _) (fun x => x)
  have HR := Hid.mk hR
  have HM := Hid.mk hM
  have E := Hid.mk e
  clear hR hM
  obtain ⟨τ1, rfl⟩ := open_upd e
  clear e
  (repeat' (first | (simp +contextual -dsimp only [*, noView, SesS.cells, SesS.view, Wr.cells, SesS.msg, Msg.cells, Bool.not_false, Bool.not_true, onPtr_nil, ↓reduceIte, ↓evP, evQ, splice, Nat.reduceAdd, Nat.reduceEqDiff, Nat.reduceLeDiff, Nat.reduceMul, reduceCtorEq, Int.reduceLT, Int.reduceLE, Int.reduceGT, Int.reduceGE, Int.reduceEq, Int.reduceNeg]) | (refine condF_split (fun hc => ?_) (fun hc => ?_) <;> (try simp only [Bool.not_eq_true', Bool.not_eq_false', Bool.and_eq_true, Bool.or_eq_false_iff] at hc)) | (intro _; intros) | (refine And.intro ?_ ?_; focus (first | omega | ((repeat (first | exact Sub.refl _ | (refine Sub.drop ?_ ?_; focus (simp only [evN, *]; done)) | refine Sub.both ?_)); done) | (simp_all; done) | (simp_all; omega)))))
  rename_i g2 n1 n2 n3
  have hg2 : upd τ1 g (.cells [.int .i64 S.id, .int .i64 S.floor, .bool S.busy, .int .i64 S.seq, .int .i64 S.tries, .int .i64 S.last, .int .i64 S.err, .slice a ws.length c] 130) g2 = none := (by simp only [evN, *]; done)
  refine endF_at ⟨g2, _, rfl, HM.out.old hg2, upd_same _ _ _, HR.out.fresh hg2 _, Same.updNew (HM.out.old hg2) HM.out.1, HM.out.2⟩
theorem send15e {σ : Hp} {g : Nat} {S : SesS} {v w : Value} {ws : List Wr} (hg : σ g = some (.cells (S.cells v) 130)) (hv : RoRows 3 Wr.cells (off σ g) w ws) (hn : ws.length * 40 ≤ 140737488355328) (h : S.busy = false) (he : checkV ws = 0) (hs : decide (S.seq ≥ 2147483647) = false) :
    ACalls Tryz.prog 39 #[.pointer (some ⟨g, 0, none⟩), w] σ fun u σ' => ∃ v1 v2, u = .tuple #[.agg (S.sent.msg v2).toArray, .int .i64 0] ∧ σ' g = some (.cells (S.sent.cells v1) 130) ∧ RowsAt 52 3 Wr.cells σ' v1 ws ∧ RowsAt 52 3 Wr.cells σ' v2 ws ∧
      Same (fun k => k = g) σ σ' ∧ New σ v1 ∧ New σ v2 ∧ blk v1 ≠ blk v2 := by
  have k := send15d (v := v) (off_none σ g) hv hn h he hs
  rw [← off_upd hg] at k
  refine k.mono ?_
  rintro u σ' ⟨v1, v2, h1, h2, h3, h4, h5, h6, h7, h8⟩
  exact ⟨v1, v2, h1, h2, h3, h4, h5.ofOff, h6.ofOff h3 h2, h7.ofOff h4 h2, h8⟩
theorem parE_tok {f : Int} (h : tokBad f = false) : parE (tokV f) = 0 ∧ parV (tokV f) = f := by
  have : parN (tokV f) = some f := parN_some.2 ⟨tokE_iff.2 h, rfl⟩
  unfold parE parV; rw [this]; exact ⟨rfl, rfl⟩
def sc1 (k : ByteArray) : List Value := [.string k]
theorem agree_all {α : Type} {l1 l2 : List α} (hl : l1.length = l2.length) (h : ∀ j, j < l1.length → l1[j]? = l2[j]?) : l1 = l2 := by
  apply List.ext_getElem?
  intro j
  rcases Nat.lt_or_ge j l1.length with h1 | h1
  · exact h j h1
  · rw [List.getElem?_eq_none h1, List.getElem?_eq_none (by omega)]
theorem texts77 {σ : Hp} {v1 v2 : Value} {l1 l2 : List ByteArray} (h1 : RoRows 1 sc1 σ v1 l1) (h2 : RoRows 1 sc1 σ v2 l2) (hn : l1.length ≤ 140737488355328) : ACalls Tryz.prog 54 #[v1, v2] σ fun u σ' => u = .bool (decide (l1 = l2)) ∧ σ' = σ := by
  have H1 := Hid.mk h1
  have H2 := Hid.mk h2
  obtain ⟨A1, c1, rfl, _⟩ := h1
  obtain ⟨A2, c2, rfl, _⟩ := h2
  (refine acalls_F ok54 (by simp) ?_; unfold c54 r54)
  (repeat' (first | (simp +contextual -dsimp only [*, Wr.cells, sc1, ↓reduceIte, ↓evP, evQ, splice, Nat.reduceAdd, Nat.reduceEqDiff, Nat.reduceLeDiff, Nat.reduceMul, reduceCtorEq, Int.reduceLT, Int.reduceLE, Int.reduceGT, Int.reduceGE, Int.reduceEq, Int.reduceNeg]) | (refine condF_split (fun hc => ?_) (fun hc => ?_) <;> (try simp only [Bool.not_eq_true', Bool.not_eq_false', Bool.and_eq_true, Bool.or_eq_false_iff] at hc)) | (intro _; intros) | (refine And.intro ?_ ?_; focus (first | omega | ((repeat (first | exact Sub.refl _ | (refine Sub.drop ?_ ?_; focus (simp only [evN, *]; done)) | refine Sub.both ?_)); done) | (simp_all; done) | (simp_all; omega)))))
  · have hc := of_decide_eq_false ‹decide ((l1.length : Int) = (l2.length : Int)) = false›
    exact endF_det (congrArg Value.bool (decide_eq_false (fun e => hc (by rw [e]))).symm) (Sub.refl _)
  have hl : l1.length = l2.length := by have := of_decide_eq_true ‹decide ((l1.length : Int) = (l2.length : Int)) = true›; omega
  have HL := Hid.mk hl
  clear hl
  refine loopF_of (fun k s σ' => ∃ i : Nat, i ≤ l1.length ∧ k = l1.length - i ∧ s 0 = .slice A1 l1.length c1 ∧ s 1 = .slice A2 l2.length c2 ∧ s 5 = .int .i64 i ∧ σ' = σ ∧ ∀ j, j < i → l1[j]? = l2[j]?) l1.length (Sub.refl _) ⟨0, by omega, rfl, (by first | rfl | (simp only [↓putO_get, ↓putO_no, init_zero, init_succ, Nat.reduceEqDiff, ↓reduceIte, *]; done) | (simp only [↓putO_get, ↓putO_no, init_zero, init_succ, Nat.reduceEqDiff, ↓reduceIte, *]; rfl)), (by first | rfl | (simp only [↓putO_get, ↓putO_no, init_zero, init_succ, Nat.reduceEqDiff, ↓reduceIte, *]; done) | (simp only [↓putO_get, ↓putO_no, init_zero, init_succ, Nat.reduceEqDiff, ↓reduceIte, *]; rfl)), (by first | rfl | (simp only [↓putO_get, ↓putO_no, init_zero, init_succ, Nat.reduceEqDiff, ↓reduceIte, *]; done) | (simp only [↓putO_get, ↓putO_no, init_zero, init_succ, Nat.reduceEqDiff, ↓reduceIte, *]; rfl)), rfl, fun j hj => by omega⟩ ?_
  rintro k s σ' ⟨i, hi, rfl, s0, s1, s5, rfl, hag⟩
  have HA := Hid.mk hag
  clear hag
  rcases Nat.lt_or_ge i l1.length with hlt | hge
  · have hd : decide ((i : Int) < (l1.length : Int)) = true := by simp; omega
    obtain ⟨b1, o1, rfl, r1⟩ := H1.out.get hlt
    have hlt3 : i + 1 ≤ l1.length := hlt
    have hlt2 : i < l2.length := by rw [← HL.out]; exact hlt
    obtain ⟨b2, o2, rfl, r2⟩ := H2.out.get hlt2
    have r1 := rd_of_rdn r1
    have r2 := rd_of_rdn r2
    have HX := Hid.mk (And.intro (List.getElem?_eq_getElem hlt) (List.getElem?_eq_getElem hlt2))
    generalize l1[i] = x1 at *
    generalize l2[i] = x2 at *
    clear hlt hlt2
    (repeat' (first | (simp +contextual -dsimp only [*, Wr.cells, sc1, ↓reduceIte, ↓evP, evQ, splice, Nat.reduceAdd, Nat.reduceEqDiff, Nat.reduceLeDiff, Nat.reduceMul, reduceCtorEq, Int.reduceLT, Int.reduceLE, Int.reduceGT, Int.reduceGE, Int.reduceEq, Int.reduceNeg]) | (refine condF_split (fun hc => ?_) (fun hc => ?_) <;> (try simp only [Bool.not_eq_true', Bool.not_eq_false', Bool.and_eq_true, Bool.or_eq_false_iff] at hc)) | (intro _; intros) | (refine And.intro ?_ ?_; focus (first | omega | ((repeat (first | exact Sub.refl _ | (refine Sub.drop ?_ ?_; focus (simp only [evN, *]; done)) | refine Sub.both ?_)); done) | (simp_all; done) | (simp_all; omega)))))
    · refine endF_det (congrArg Value.bool (decide_eq_false (fun e => ?_)).symm) (Sub.refl _)
      have hne := of_decide_eq_false ‹decide (x1 = x2) = false›
      have := HX.out.1.symm.trans ((congrArg (·[i]?) e).trans HX.out.2)
      exact hne (Option.some.inj this)
    · refine nextF_of (σ₁ := σ') (l1.length - (i + 1)) (by omega) (Sub.refl _) ⟨i + 1, by omega, rfl, (by first | rfl | (simp only [↓putO_get, ↓putO_no, init_zero, init_succ, Nat.reduceEqDiff, ↓reduceIte, *]; done) | (simp only [↓putO_get, ↓putO_no, init_zero, init_succ, Nat.reduceEqDiff, ↓reduceIte, *]; rfl)), (by first | rfl | (simp only [↓putO_get, ↓putO_no, init_zero, init_succ, Nat.reduceEqDiff, ↓reduceIte, *]; done) | (simp only [↓putO_get, ↓putO_no, init_zero, init_succ, Nat.reduceEqDiff, ↓reduceIte, *]; rfl)), ?_, rfl, fun j hj => ?_⟩
      · show Value.int .i64 (IntKind.i64.wrap _) = _; rw [wi64 (by omega)]; rfl
      · rcases Nat.lt_or_ge j i with h | h
        · exact HA.out j h
        · obtain rfl : j = i := by omega
          rw [HX.out.1, HX.out.2, of_decide_eq_true ‹decide (x1 = x2) = true›]
  · have hd : decide ((i : Int) < (l1.length : Int)) = false := by simp; omega
    simp +contextual -dsimp only [*, Wr.cells, sc1, ↓reduceIte, ↓evP, evQ, splice, Nat.reduceAdd, Nat.reduceEqDiff, Nat.reduceLeDiff, Nat.reduceMul, reduceCtorEq, Int.reduceLT, Int.reduceLE, Int.reduceGT, Int.reduceGE, Int.reduceEq, Int.reduceNeg]
    exact endF_det (congrArg Value.bool (decide_eq_true (agree_all HL.out (fun j hj => HA.out j (by omega)))).symm) (Sub.refl _)
theorem goodKey95 (k : ByteArray) (σ : Hp) : ACalls Tryz.prog 83 #[.string k] σ fun v σ' => v = .bool (goodK k) ∧ σ' = σ := by
  by_cases hk : k = ⟨#[]⟩
  · subst hk
    (refine acalls_F ok83 (by simp) ?_; unfold c83 r83)
    (repeat' (first | (simp +contextual -dsimp only [*, Wr.cells, sc1, ↓reduceIte, ↓evP, evQ, splice, Nat.reduceAdd, Nat.reduceEqDiff, Nat.reduceLeDiff, Nat.reduceMul, reduceCtorEq, Int.reduceLT, Int.reduceLE, Int.reduceGT, Int.reduceGE, Int.reduceEq, Int.reduceNeg]) | (refine condF_split (fun hc => ?_) (fun hc => ?_) <;> (try simp only [Bool.not_eq_true', Bool.not_eq_false', Bool.and_eq_true, Bool.or_eq_false_iff] at hc)) | (intro _; intros) | (refine And.intro ?_ ?_; focus (first | omega | ((repeat (first | exact Sub.refl _ | (refine Sub.drop ?_ ?_; focus (simp only [evN, *]; done)) | refine Sub.both ?_)); done) | (simp_all; done) | (simp_all; omega)))))
    all_goals exact endF_det rfl (Sub.refl _)
  · have hd : decide (k = ⟨#[]⟩) = false := decide_eq_false hk
    have hs : decide ((k.size : Int) ≥ 1) = true := by
      refine decide_eq_true ?_
      rcases Nat.lt_or_ge k.size 1 with h | h
      · refine absurd ?_ hk
        have h0 : k.data.size = 0 := by have : k.data.size = k.size := rfl; omega
        cases k; congr 1; exact Array.eq_empty_of_size_eq_zero h0
      · omega
    unfold goodK
    rw [hs]
    clear hk hs
    (refine acalls_F ok83 (by simp) ?_; unfold c83 r83)
    (repeat' (first | (simp +contextual -dsimp only [*, Wr.cells, sc1, ↓reduceIte, ↓evP, evQ, splice, Nat.reduceAdd, Nat.reduceEqDiff, Nat.reduceLeDiff, Nat.reduceMul, reduceCtorEq, Int.reduceLT, Int.reduceLE, Int.reduceGT, Int.reduceGE, Int.reduceEq, Int.reduceNeg]) | (refine condF_split (fun hc => ?_) (fun hc => ?_) <;> (try simp only [Bool.not_eq_true', Bool.not_eq_false', Bool.and_eq_true, Bool.or_eq_false_iff] at hc)) | (intro _; intros) | (refine And.intro ?_ ?_; focus (first | omega | ((repeat (first | exact Sub.refl _ | (refine Sub.drop ?_ ?_; focus (simp only [evN, *]; done)) | refine Sub.both ?_)); done) | (simp_all; done) | (simp_all; omega)))))
    all_goals exact endF_det (by simp [*]) (Sub.refl _)
def goodV (h : Bool) (d : ByteArray) : Bool := cond h (decide ((d.size : Int) ≤ 256)) (decide (d = ⟨#[]⟩))
theorem goodValue96 (h : Bool) (d : ByteArray) (σ : Hp) : ACalls Tryz.prog 125 #[.agg #[.bool h, .string d]] σ fun v σ' => v = .bool (goodV h d) ∧ σ' = σ := by
  cases h
  · (refine acalls_F ok125 (by simp) ?_; unfold c125 r125)
    (repeat' (first | (simp +contextual -dsimp only [*, Wr.cells, sc1, ↓reduceIte, ↓evP, evQ, splice, Nat.reduceAdd, Nat.reduceEqDiff, Nat.reduceLeDiff, Nat.reduceMul, reduceCtorEq, Int.reduceLT, Int.reduceLE, Int.reduceGT, Int.reduceGE, Int.reduceEq, Int.reduceNeg]) | (refine condF_split (fun hc => ?_) (fun hc => ?_) <;> (try simp only [Bool.not_eq_true', Bool.not_eq_false', Bool.and_eq_true, Bool.or_eq_false_iff] at hc)) | (intro _; intros) | (refine And.intro ?_ ?_; focus (first | omega | ((repeat (first | exact Sub.refl _ | (refine Sub.drop ?_ ?_; focus (simp only [evN, *]; done)) | refine Sub.both ?_)); done) | (simp_all; done) | (simp_all; omega)))))
    all_goals exact endF_det rfl (by (repeat (first | exact Sub.refl _ | (refine Sub.drop ?_ ?_; focus (simp only [evN, *]; done)) | refine Sub.both ?_)); done)
  · (refine acalls_F ok125 (by simp) ?_; unfold c125 r125)
    (repeat' (first | (simp +contextual -dsimp only [*, Wr.cells, sc1, ↓reduceIte, ↓evP, evQ, splice, Nat.reduceAdd, Nat.reduceEqDiff, Nat.reduceLeDiff, Nat.reduceMul, reduceCtorEq, Int.reduceLT, Int.reduceLE, Int.reduceGT, Int.reduceGE, Int.reduceEq, Int.reduceNeg]) | (refine condF_split (fun hc => ?_) (fun hc => ?_) <;> (try simp only [Bool.not_eq_true', Bool.not_eq_false', Bool.and_eq_true, Bool.or_eq_false_iff] at hc)) | (intro _; intros) | (refine And.intro ?_ ?_; focus (first | omega | ((repeat (first | exact Sub.refl _ | (refine Sub.drop ?_ ?_; focus (simp only [evN, *]; done)) | refine Sub.both ?_)); done) | (simp_all; done) | (simp_all; omega)))))
    all_goals exact endF_det rfl (by (repeat (first | exact Sub.refl _ | (refine Sub.drop ?_ ?_; focus (simp only [evN, *]; done)) | refine Sub.both ?_)); done)
theorem goodW_eq (w : Wr) : goodW w = (goodK w.key && goodV w.has w.data) := by
  unfold goodW goodV
  cases w.has
  · by_cases h : w.data = ⟨#[]⟩
    · rw [h]; simp; intro _; decide
    · simp [h]
  · simp
def dupl : Nat → List (ByteArray × Value) → List Wr → Bool
  | _, _, [] => false
  | i, l, w :: r => (mget l w.key).isSome || dupl (i + 1) (mput l w.key (.int .i64 i)) r
theorem chk_good : ∀ (ws : List Wr) (i : Nat) (l : List (ByteArray × Value)) (tw : Bool), (∀ w ∈ ws, goodW w = true) → chk ws i l tw = cond (tw || dupl i l ws) 22 0
  | [], i, l, tw, _ => by unfold chk dupl; rw [Bool.or_false]
  | w :: r, i, l, tw, h => by
    unfold chk dupl
    rw [h w (by simp), cond_true, chk_good r _ _ _ (fun x hx => h x (by simp [hx])), Bool.or_assoc]
theorem chk_bad : ∀ (ws : List Wr) (i : Nat) (l : List (ByteArray × Value)) (tw : Bool), (∃ w ∈ ws, goodW w = false) → chk ws i l tw = 1
  | [], i, l, tw, h => by obtain ⟨w, hw, _⟩ := h; cases hw
  | w :: r, i, l, tw, h => by
    unfold chk
    cases hg : goodW w with
    | false => rfl
    | true =>
      rw [cond_true]
      refine chk_bad r _ _ _ ?_
      obtain ⟨x, hx, hb⟩ := h
      rcases List.mem_cons.1 hx with e | e
      · subst e; rw [hg] at hb; cases hb
      · exact ⟨x, e, hb⟩
theorem dupl_false : ∀ (ws : List Wr) (i : Nat) (l : List (ByteArray × Value)), dupl i l ws = false ↔ (∀ w ∈ ws, (mget l w.key).isSome = false) ∧ ws.Pairwise (fun x y => x.key ≠ y.key)
  | [], i, l => by simp [dupl]
  | w :: r, i, l => by
    unfold dupl
    rw [Bool.or_eq_false_iff, dupl_false r, List.pairwise_cons]
    constructor
    · rintro ⟨h1, h2, h3⟩
      refine ⟨fun x hx => ?_, fun x hx => ?_, h3⟩
      · rcases List.mem_cons.1 hx with e | e
        · subst e; exact h1
        · have := h2 x e; rw [mget_mput, Bool.or_eq_false_iff] at this; exact this.2
      · have := h2 x hx; rw [mget_mput, Bool.or_eq_false_iff] at this; exact fun e => (of_decide_eq_false this.1) e.symm
    · rintro ⟨h1, h2, h3⟩
      refine ⟨h1 w (by simp), fun x hx => ?_, h3⟩
      rw [mget_mput, Bool.or_eq_false_iff]
      exact ⟨decide_eq_false fun e => h2 x hx e.symm, h1 x (by simp [hx])⟩
theorem checkV_len {ws : List Wr} (h : ws.length < 1 ∨ 8 < ws.length) : checkV ws = 1 := by
  unfold checkV
  have : (decide ((ws.length : Int) = 0) || decide ((ws.length : Int) > 8)) = true := by simp only [Bool.or_eq_true, decide_eq_true_eq]; omega
  rw [this]; rfl
theorem checkV_in {ws : List Wr} (h : ¬ (ws.length < 1 ∨ 8 < ws.length)) : checkV ws = chk ws 0 [] false := by
  unfold checkV
  have : (decide ((ws.length : Int) = 0) || decide ((ws.length : Int) > 8)) = false := by simp only [Bool.or_eq_false_iff, decide_eq_false_iff_not]; omega
  rw [this]; rfl
theorem checkV_dup {ws : List Wr} (h : ¬ (ws.length < 1 ∨ 8 < ws.length)) (hg : ∀ w ∈ ws, goodW w = true) {a b : Nat} {x y : Wr} (hab : a < b) (hx : ws[a]? = some x) (hy : ws[b]? = some y) (he : x.key = y.key) : checkV ws = 22 := by
  rw [checkV_in h, chk_good _ _ _ _ hg]
  cases hd : dupl 0 [] ws with
  | true => rfl
  | false =>
    have hp := ((dupl_false _ _ _).1 hd).2
    rw [List.pairwise_iff_getElem] at hp
    obtain ⟨ha, rfl⟩ := List.getElem?_eq_some_iff.1 hx
    obtain ⟨hb, rfl⟩ := List.getElem?_eq_some_iff.1 hy
    exact absurd he (hp a b ha hb hab)
theorem checkV_ok {ws : List Wr} (h : ¬ (ws.length < 1 ∨ 8 < ws.length)) (hg : ∀ w ∈ ws, goodW w = true) (hp : ∀ (a b : Nat) (x y : Wr), a < b → ws[a]? = some x → ws[b]? = some y → x.key ≠ y.key) : checkV ws = 0 := by
  rw [checkV_in h, chk_good _ _ _ _ hg, (dupl_false ws 0 []).2 ⟨fun w _ => rfl, ?_⟩]
  · rfl
  · rw [List.pairwise_iff_getElem]
    exact fun a b ha hb hab => hp a b _ _ hab (List.getElem?_eq_getElem ha) (List.getElem?_eq_getElem hb)
theorem ro_wr {σ : Hp} {A : Option Addr} {n c : Nat} {ws : List Wr} (h : RoRows 3 Wr.cells σ (.slice A n c) ws) {i : Nat} (hi : i < ws.length) : ∃ b o, A = some ⟨b, o, none⟩ ∧ rd σ b (o + i * 3) = some (.string ws[i].key) ∧ rdn σ b (o + i * 3 + 1) 2 = some [.bool ws[i].has, .string ws[i].data] := by
  obtain ⟨b, o, e, h⟩ := h.get hi
  refine ⟨b, o, e, ?_, rdn_part h 1 2 (by omega)⟩
  have := rd_part h 0 (v := .string ws[i].key) rfl
  simpa using this
set_option maxHeartbeats 1000000 in
theorem check75 {σ : Hp} {v : Value} {ws : List Wr} (hv : RoRows 3 Wr.cells σ v ws) (hn : ws.length ≤ 140737488355328) : ACalls Tryz.prog 106 #[v] σ fun u σ' => u = .int .i64 (checkV ws) ∧ σ' = σ := by
  have H := Hid.mk hv
  obtain ⟨A, c, rfl, _⟩ := hv
  (refine acalls_F ok106 (by simp) ?_; unfold c106 r106)
  (repeat' (first | (simp +contextual -dsimp only [*, Wr.cells, ↓reduceIte, ↓evP, evQ, splice, Nat.reduceAdd, Nat.reduceEqDiff, Nat.reduceLeDiff, Nat.reduceMul, reduceCtorEq, Int.reduceLT, Int.reduceLE, Int.reduceGT, Int.reduceGE, Int.reduceEq, Int.reduceNeg]) | (refine condF_split (fun hc => ?_) (fun hc => ?_) <;> (try simp only [Bool.not_eq_true', Bool.not_eq_false', Bool.and_eq_true, Bool.or_eq_false_iff] at hc)) | (intro _; intros) | (refine And.intro ?_ ?_; focus (first | omega | ((repeat (first | exact Sub.refl _ | (refine Sub.drop ?_ ?_; focus (simp only [evN, *]; done)) | refine Sub.both ?_)); done) | (simp_all; done) | (simp_all; omega)))))
  · have hc := of_decide_eq_true ‹decide ((ws.length : Int) < 1) = true›
    exact endF_det (by rw [checkV_len (.inl (by omega))]) (Sub.refl _)
  · have hc := of_decide_eq_true ‹decide ((ws.length : Int) > 8) = true›
    exact endF_det (by rw [checkV_len (.inr (by omega))]) (Sub.refl _)
  have hlen : ¬ (ws.length < 1 ∨ 8 < ws.length) := by
    have h1 := of_decide_eq_false ‹decide ((ws.length : Int) < 1) = false›
    have h2 := of_decide_eq_false ‹decide ((ws.length : Int) > 8) = false›
    omega
  have HL := Hid.mk hlen
  clear hlen
  refine loopF_of (fun k s σ' => ∃ i : Nat, i ≤ ws.length ∧ k = ws.length - i ∧ s 0 = .slice A ws.length c ∧ s 3 = .int .i64 i ∧ σ' = σ ∧ ∀ j x, j < i → ws[j]? = some x → goodW x = true) ws.length (Sub.refl _) ⟨0, by omega, rfl, (by first | rfl | (simp only [↓putO_get, ↓putO_no, init_zero, init_succ, Nat.reduceEqDiff, ↓reduceIte, *]; done) | (simp only [↓putO_get, ↓putO_no, init_zero, init_succ, Nat.reduceEqDiff, ↓reduceIte, *]; rfl)), (by first | rfl | (simp only [↓putO_get, ↓putO_no, init_zero, init_succ, Nat.reduceEqDiff, ↓reduceIte, *]; done) | (simp only [↓putO_get, ↓putO_no, init_zero, init_succ, Nat.reduceEqDiff, ↓reduceIte, *]; rfl)), rfl, fun j x hj => by omega⟩ ?_
  rintro k s σ' ⟨i, hi, rfl, s0, s3, rfl, hg⟩
  have HG := Hid.mk hg
  clear hg
  rcases Nat.lt_or_ge i ws.length with hlt | hge
  · have hd : decide ((i : Int) < (ws.length : Int)) = true := by simp; omega
    obtain ⟨b1, o1, rfl, r1, r2⟩ := ro_wr H.out hlt
    have HX := Hid.mk (And.intro (List.getElem?_eq_getElem hlt) (goodW_eq ws[i]))
    have hlt3 : i + 1 ≤ ws.length := hlt
    generalize ws[i] = x at *
    clear hlt
    (repeat' (first | (simp +contextual -dsimp only [*, Wr.cells, ↓reduceIte, ↓evP, evQ, splice, Nat.reduceAdd, Nat.reduceEqDiff, Nat.reduceLeDiff, Nat.reduceMul, reduceCtorEq, Int.reduceLT, Int.reduceLE, Int.reduceGT, Int.reduceGE, Int.reduceEq, Int.reduceNeg]) | (refine condF_split (fun hc => ?_) (fun hc => ?_) <;> (try simp only [Bool.not_eq_true', Bool.not_eq_false', Bool.and_eq_true, Bool.or_eq_false_iff] at hc)) | refine callF_v (goodKey95 _ _) ?_ | refine callF_v (goodValue96 _ _ _) ?_ | refine ccallF_of (goodKey95 _ _) ?_ | refine ccallF_of (goodValue96 _ _ _) ?_ | refine gcallF_of (goodKey95 _ _) ?_ | refine gcallF_of (goodValue96 _ _ _) ?_ | (intro _; intros) | (refine And.intro ?_ ?_; focus (first | omega | ((repeat (first | exact Sub.refl _ | (refine Sub.drop ?_ ?_; focus (simp only [evN, *]; done)) | refine Sub.both ?_)); done) | (simp_all; done) | (simp_all; omega)))))
    · have hb : goodW x = false := by rw [HX.out.2, ‹goodK x.key = false›]; rfl
      exact endF_det (by rw [checkV_in HL.out, chk_bad _ _ _ _ ⟨x, List.mem_of_getElem? HX.out.1, hb⟩]) (Sub.refl _)
    · have hb : goodW x = false := by rw [HX.out.2, ‹goodK x.key = true›, ‹goodV x.has x.data = false›]; rfl
      exact endF_det (by rw [checkV_in HL.out, chk_bad _ _ _ _ ⟨x, List.mem_of_getElem? HX.out.1, hb⟩]) (Sub.refl _)
    · have hb : goodW x = true := by rw [HX.out.2, ‹goodK x.key = true›, ‹goodV x.has x.data = true›]; rfl
      refine nextF_of (σ₁ := σ') (ws.length - (i + 1)) (by omega) (Sub.refl _) ⟨i + 1, by omega, rfl, (by first | rfl | (simp only [↓putO_get, ↓putO_no, init_zero, init_succ, Nat.reduceEqDiff, ↓reduceIte, *]; done) | (simp only [↓putO_get, ↓putO_no, init_zero, init_succ, Nat.reduceEqDiff, ↓reduceIte, *]; rfl)), ?_, rfl, fun j y hj hy => ?_⟩
      · show Value.int .i64 (IntKind.i64.wrap _) = _; rw [wi64 (by omega)]; rfl
      · rcases Nat.lt_or_ge j i with h | h
        · exact HG.out j y h hy
        · obtain rfl : j = i := by omega
          rw [HX.out.1] at hy; cases hy; exact hb
  have hd : decide ((i : Int) < (ws.length : Int)) = false := by simp; omega
  simp +contextual -dsimp only [*, Wr.cells, ↓reduceIte, ↓evP, evQ, splice, Nat.reduceAdd, Nat.reduceEqDiff, Nat.reduceLeDiff, Nat.reduceMul, reduceCtorEq, Int.reduceLT, Int.reduceLE, Int.reduceGT, Int.reduceGE, Int.reduceEq, Int.reduceNeg]
  have hall : ∀ w ∈ ws, goodW w = true := fun w hw => by
    obtain ⟨j, hj, rfl⟩ := List.getElem_of_mem hw
    exact HG.out j _ (by omega) (List.getElem?_eq_getElem hj)
  have HA := Hid.mk hall
  clear hall hd HG
  refine loopF_of (fun k s σ'' => ∃ i : Nat, i ≤ ws.length ∧ k = ws.length - i ∧ s 0 = .slice A ws.length c ∧ s 4 = .int .i64 i ∧ σ'' = σ' ∧ ∀ a b x y, a < b → b < i → ws[a]? = some x → ws[b]? = some y → x.key ≠ y.key) ws.length (Sub.refl _) ⟨0, by omega, rfl, (by first | rfl | (simp only [↓putO_get, ↓putO_no, init_zero, init_succ, Nat.reduceEqDiff, ↓reduceIte, *]; done) | (simp only [↓putO_get, ↓putO_no, init_zero, init_succ, Nat.reduceEqDiff, ↓reduceIte, *]; rfl)), (by first | rfl | (simp only [↓putO_get, ↓putO_no, init_zero, init_succ, Nat.reduceEqDiff, ↓reduceIte, *]; done) | (simp only [↓putO_get, ↓putO_no, init_zero, init_succ, Nat.reduceEqDiff, ↓reduceIte, *]; rfl)), rfl, fun a b x y hab hb => by omega⟩ ?_
  clear hge hi s0 s3 i s
  rintro k s σ' ⟨i, hi, rfl, s0, s4, rfl, hp⟩
  have HP := Hid.mk hp
  clear hp
  rcases Nat.lt_or_ge i ws.length with hlt | hge
  · have hd : decide ((i : Int) < (ws.length : Int)) = true := by simp; omega
    simp +contextual -dsimp only [*, Wr.cells, ↓reduceIte, ↓evP, evQ, splice, Nat.reduceAdd, Nat.reduceEqDiff, Nat.reduceLeDiff, Nat.reduceMul, reduceCtorEq, Int.reduceLT, Int.reduceLE, Int.reduceGT, Int.reduceGE, Int.reduceEq, Int.reduceNeg]
    refine loopF_of (fun k s σ'' => ∃ j : Nat, j ≤ i ∧ k = i - j ∧ s 0 = .slice A ws.length c ∧ s 4 = .int .i64 i ∧ s 5 = .int .i64 j ∧ σ'' = σ' ∧ ∀ a x y, a < j → ws[a]? = some x → ws[i]? = some y → x.key ≠ y.key) i (Sub.refl _) ⟨0, by omega, rfl, (by first | rfl | (simp only [↓putO_get, ↓putO_no, init_zero, init_succ, Nat.reduceEqDiff, ↓reduceIte, *]; done) | (simp only [↓putO_get, ↓putO_no, init_zero, init_succ, Nat.reduceEqDiff, ↓reduceIte, *]; rfl)), (by first | rfl | (simp only [↓putO_get, ↓putO_no, init_zero, init_succ, Nat.reduceEqDiff, ↓reduceIte, *]; done) | (simp only [↓putO_get, ↓putO_no, init_zero, init_succ, Nat.reduceEqDiff, ↓reduceIte, *]; rfl)), (by first | rfl | (simp only [↓putO_get, ↓putO_no, init_zero, init_succ, Nat.reduceEqDiff, ↓reduceIte, *]; done) | (simp only [↓putO_get, ↓putO_no, init_zero, init_succ, Nat.reduceEqDiff, ↓reduceIte, *]; rfl)), rfl, fun a x y ha => by omega⟩ ?_
    clear s0 s4 s hd
    rintro k s σ' ⟨j, hj, rfl, s0, s4, s5, rfl, hq⟩
    have HQ := Hid.mk hq
    clear hq
    rcases Nat.lt_or_ge j i with hji | hji
    · have hd : decide ((j : Int) < (i : Int)) = true := by simp; omega
      have hjl : j < ws.length := by omega
      obtain ⟨b1, o1, rfl, r1, _⟩ := ro_wr H.out hlt
      obtain ⟨b2, o2, e, r2, _⟩ := ro_wr H.out hjl
      cases e
      have HX := Hid.mk (And.intro (List.getElem?_eq_getElem hlt) (List.getElem?_eq_getElem hjl))
      have hlt3 : i + 1 ≤ ws.length := hlt
      generalize ws[i] = x at *
      generalize ws[j] = y at *
      clear hlt hjl
      (repeat' (first | (simp +contextual -dsimp only [*, Wr.cells, ↓reduceIte, ↓evP, evQ, splice, Nat.reduceAdd, Nat.reduceEqDiff, Nat.reduceLeDiff, Nat.reduceMul, reduceCtorEq, Int.reduceLT, Int.reduceLE, Int.reduceGT, Int.reduceGE, Int.reduceEq, Int.reduceNeg]) | (refine condF_split (fun hc => ?_) (fun hc => ?_) <;> (try simp only [Bool.not_eq_true', Bool.not_eq_false', Bool.and_eq_true, Bool.or_eq_false_iff] at hc)) | (intro _; intros) | (refine And.intro ?_ ?_; focus (first | omega | ((repeat (first | exact Sub.refl _ | (refine Sub.drop ?_ ?_; focus (simp only [evN, *]; done)) | refine Sub.both ?_)); done) | (simp_all; done) | (simp_all; omega)))))
      · exact endF_det (by rw [checkV_dup HL.out HA.out hji HX.out.2 HX.out.1 (of_decide_eq_true ‹decide (y.key = x.key) = true›)]) (Sub.refl _)
      · refine nextF_of (σ₁ := σ') (i - (j + 1)) (by omega) (Sub.refl _) ⟨j + 1, by omega, rfl, (by first | rfl | (simp only [↓putO_get, ↓putO_no, init_zero, init_succ, Nat.reduceEqDiff, ↓reduceIte, *]; done) | (simp only [↓putO_get, ↓putO_no, init_zero, init_succ, Nat.reduceEqDiff, ↓reduceIte, *]; rfl)), (by first | rfl | (simp only [↓putO_get, ↓putO_no, init_zero, init_succ, Nat.reduceEqDiff, ↓reduceIte, *]; done) | (simp only [↓putO_get, ↓putO_no, init_zero, init_succ, Nat.reduceEqDiff, ↓reduceIte, *]; rfl)), ?_, rfl, fun a x' y' ha hx hy => ?_⟩
        · show Value.int .i64 (IntKind.i64.wrap _) = _; rw [wi64 (by omega)]; rfl
        · rcases Nat.lt_or_ge a j with h | h
          · exact HQ.out a x' y' h hx hy
          · obtain rfl : a = j := by omega
            rw [HX.out.2] at hx; rw [HX.out.1] at hy
            cases hx; cases hy
            exact of_decide_eq_false ‹decide (y.key = x.key) = false›
    · have hd : decide ((j : Int) < (i : Int)) = false := by simp; omega
      simp +contextual -dsimp only [*, Wr.cells, ↓reduceIte, ↓evP, evQ, splice, Nat.reduceAdd, Nat.reduceEqDiff, Nat.reduceLeDiff, Nat.reduceMul, reduceCtorEq, Int.reduceLT, Int.reduceLE, Int.reduceGT, Int.reduceGE, Int.reduceEq, Int.reduceNeg]
      refine nextF_of (σ₁ := σ') (ws.length - (i + 1)) (by omega) (Sub.refl _) ⟨i + 1, by omega, rfl, (by first | rfl | (simp only [↓putO_get, ↓putO_no, init_zero, init_succ, Nat.reduceEqDiff, ↓reduceIte, *]; done) | (simp only [↓putO_get, ↓putO_no, init_zero, init_succ, Nat.reduceEqDiff, ↓reduceIte, *]; rfl)), ?_, rfl, fun a b x y hab hb hx hy => ?_⟩
      · show Value.int .i64 (IntKind.i64.wrap _) = _; rw [wi64 (by omega)]; rfl
      · rcases Nat.lt_or_ge b i with h | h
        · exact HP.out a b x y hab h hx hy
        · obtain rfl : b = i := by omega
          exact HQ.out a x y (by omega) hx hy
  · have hd : decide ((i : Int) < (ws.length : Int)) = false := by simp; omega
    simp +contextual -dsimp only [*, Wr.cells, ↓reduceIte, ↓evP, evQ, splice, Nat.reduceAdd, Nat.reduceEqDiff, Nat.reduceLeDiff, Nat.reduceMul, reduceCtorEq, Int.reduceLT, Int.reduceLE, Int.reduceGT, Int.reduceGE, Int.reduceEq, Int.reduceNeg]
    refine endF_det ?_ (Sub.refl _)
    rw [checkV_ok HL.out HA.out (fun a b x y hab hx hy => HP.out a b x y hab (by have := (List.getElem?_eq_some_iff.1 hy).1; omega) hx hy)]
set_option maxRecDepth 100000 in
set_option maxHeartbeats 1000000 in
theorem same53 {σ : Hp} (m : Msg) {w1 w2 k1 k2 : Value} {ws : List Wr} {ks : List ByteArray} (hw1 : RoRows 3 Wr.cells σ w1 ws) (hw2 : RoRows 3 Wr.cells σ w2 ws) (hk1 : RoRows 1 sc1 σ k1 ks) (hk2 : RoRows 1 sc1 σ k2 ks) (hn : ws.length ≤ 140737488355328) (hm : ks.length ≤ 140737488355328) :
    ACalls Tryz.prog 24 #[.agg ({ m with writes := w1, keys := k1 } : Msg).cells.toArray, .agg ({ m with writes := w2, keys := k2 } : Msg).cells.toArray] σ fun u σ' => u = .bool true ∧ σ' = σ := by
  have H1 := Hid.mk hw1
  have H2 := Hid.mk hw2
  have K1 := Hid.mk hk1
  have K2 := Hid.mk hk2
  obtain ⟨A1, c1, rfl, _⟩ := hw1
  obtain ⟨A2, c2, rfl, _⟩ := hw2
  obtain ⟨B1, d1, rfl, _⟩ := hk1
  obtain ⟨B2, d2, rfl, _⟩ := hk2
  (refine acalls_F ok24 (by simp) ?_; unfold c24 r24)
  (repeat' (first | (simp +contextual -dsimp only [*, Wr.cells, Msg.cells, Bool.not_false, Bool.not_true, ↓reduceIte, ↓evP, evQ, splice, Nat.reduceAdd, Nat.reduceEqDiff, Nat.reduceLeDiff, Nat.reduceMul, reduceCtorEq, Int.reduceLT, Int.reduceLE, Int.reduceGT, Int.reduceGE, Int.reduceEq, Int.reduceNeg]) | (refine condF_split (fun hc => ?_) (fun hc => ?_) <;> (try simp only [Bool.not_eq_true', Bool.not_eq_false', Bool.and_eq_true, Bool.or_eq_false_iff] at hc)) | (intro _; intros) | (refine And.intro ?_ ?_; focus (first | omega | ((repeat (first | exact Sub.refl _ | (refine Sub.drop ?_ ?_; focus (simp only [evN, *]; done)) | refine Sub.both ?_)); done) | (simp_all; done) | (simp_all; omega)))))
  rename_i x1 x10 x2 x21 x21' x20
  refine loopF_keep [2, 3] (fun k s => ∃ i : Nat, i ≤ ws.length ∧ k = ws.length - i ∧ s 5 = .int .i64 i) ws.length ⟨0, by omega, rfl, (by first | rfl | (simp only [↓putO_get, ↓putO_no, init_zero, init_succ, Nat.reduceEqDiff, ↓reduceIte, *]; done) | (simp only [↓putO_get, ↓putO_no, init_zero, init_succ, Nat.reduceEqDiff, ↓reduceIte, *]; rfl))⟩ ?_
  rintro k s hL ⟨i, hi, rfl, s5⟩
  simp only [List.map_cons, List.map_nil, ↓putO_get, ↓putO_no, init_zero, init_succ, Nat.reduceEqDiff, ↓reduceIte, List.cons.injEq, and_true] at hL
  rcases Nat.lt_or_ge i ws.length with hlt | hge
  · have hd : decide ((i : Int) < (ws.length : Int)) = true := by simp; omega
    have H1 := H1.out.sub (Sub.drop (b := x2) (o := (.cells [.int .i64 m.kind, .int .i64 m.node, .int .i64 m.inc, .int .i64 m.session, .int .i64 m.tx, .int .i64 m.seq, .string m.key, .int .i64 m.lo, .int .i64 m.hi, .bool m.has, .string m.data, .bool m.hit, .int .i64 m.err, .int .i64 m.n, .slice A2 ws.length c2, .slice B2 ks.length d2] 39)) x20 (Sub.drop (b := x1) (o := (.cells [.int .i64 m.kind, .int .i64 m.node, .int .i64 m.inc, .int .i64 m.session, .int .i64 m.tx, .int .i64 m.seq, .string m.key, .int .i64 m.lo, .int .i64 m.hi, .bool m.has, .string m.data, .bool m.hit, .int .i64 m.err, .int .i64 m.n, .slice A1 ws.length c1, .slice B1 ks.length d1] 39)) x10 (Sub.refl σ)))
    have H2 := H2.out.sub (Sub.drop (b := x2) (o := (.cells [.int .i64 m.kind, .int .i64 m.node, .int .i64 m.inc, .int .i64 m.session, .int .i64 m.tx, .int .i64 m.seq, .string m.key, .int .i64 m.lo, .int .i64 m.hi, .bool m.has, .string m.data, .bool m.hit, .int .i64 m.err, .int .i64 m.n, .slice A2 ws.length c2, .slice B2 ks.length d2] 39)) x20 (Sub.drop (b := x1) (o := (.cells [.int .i64 m.kind, .int .i64 m.node, .int .i64 m.inc, .int .i64 m.session, .int .i64 m.tx, .int .i64 m.seq, .string m.key, .int .i64 m.lo, .int .i64 m.hi, .bool m.has, .string m.data, .bool m.hit, .int .i64 m.err, .int .i64 m.n, .slice A1 ws.length c1, .slice B1 ks.length d1] 39)) x10 (Sub.refl σ)))
    obtain ⟨b1, o1, rfl, r1⟩ := H1.get hlt
    obtain ⟨b2, o2, rfl, r2⟩ := H2.get hlt
    have hlt3 : i + 1 ≤ ws.length := hlt
    generalize ws[i] = x at *
    clear hlt H1 H2
    unfold Wr.cells at r1 r2
    (repeat' (first | (simp +contextual -dsimp only [*, Wr.cells, Msg.cells, Bool.not_false, Bool.not_true, ↓reduceIte, ↓evP, evQ, splice, Nat.reduceAdd, Nat.reduceEqDiff, Nat.reduceLeDiff, Nat.reduceMul, reduceCtorEq, Int.reduceLT, Int.reduceLE, Int.reduceGT, Int.reduceGE, Int.reduceEq, Int.reduceNeg]) | (refine condF_split (fun hc => ?_) (fun hc => ?_) <;> (try simp only [Bool.not_eq_true', Bool.not_eq_false', Bool.and_eq_true, Bool.or_eq_false_iff] at hc)) | (intro _; intros) | (refine And.intro ?_ ?_; focus (first | omega | ((repeat (first | exact Sub.refl _ | (refine Sub.drop ?_ ?_; focus (simp only [evN, *]; done)) | refine Sub.both ?_)); done) | (simp_all; done) | (simp_all; omega)))))
    refine keep_of (ws.length - (i + 1)) (by omega) (by simp only [List.map_cons, List.map_nil, ↓putO_get, ↓putO_no, init_zero, init_succ, Nat.reduceEqDiff, ↓reduceIte, *]) (Sub.refl _) ⟨i + 1, by omega, rfl, ?_⟩
    show Value.int .i64 (IntKind.i64.wrap _) = _; rw [wi64 (by omega)]; rfl
  · have hd : decide ((i : Int) < (ws.length : Int)) = false := by simp; omega
    (repeat' (first | (simp +contextual -dsimp only [*, Wr.cells, Msg.cells, Bool.not_false, Bool.not_true, ↓reduceIte, ↓evP, evQ, splice, Nat.reduceAdd, Nat.reduceEqDiff, Nat.reduceLeDiff, Nat.reduceMul, reduceCtorEq, Int.reduceLT, Int.reduceLE, Int.reduceGT, Int.reduceGE, Int.reduceEq, Int.reduceNeg]) | (refine condF_split (fun hc => ?_) (fun hc => ?_) <;> (try simp only [Bool.not_eq_true', Bool.not_eq_false', Bool.and_eq_true, Bool.or_eq_false_iff] at hc)) | (intro _; intros) | (refine And.intro ?_ ?_; focus (first | omega | ((repeat (first | exact Sub.refl _ | (refine Sub.drop ?_ ?_; focus (simp only [evN, *]; done)) | refine Sub.both ?_)); done) | (simp_all; done) | (simp_all; omega)))))
    refine callF_v (texts77 (K1.out.sub ?_) (K2.out.sub ?_) hm) ?_
    · exact Sub.drop x20 (Sub.drop x10 (Sub.refl _))
    · exact Sub.drop x20 (Sub.drop x10 (Sub.refl _))
    simp +contextual -dsimp only [*, Wr.cells, Msg.cells, Bool.not_false, Bool.not_true, ↓reduceIte, ↓evP, evQ, splice, Nat.reduceAdd, Nat.reduceEqDiff, Nat.reduceLeDiff, Nat.reduceMul, reduceCtorEq, Int.reduceLT, Int.reduceLE, Int.reduceGT, Int.reduceGE, Int.reduceEq, Int.reduceNeg]
    exact endF_det (by simp) (Sub.drop x20 (Sub.drop x10 (Sub.refl _)))
theorem again17 {τ : Hp} {g : Nat} {S : SesS} {v : Value} {ws : List Wr} (hg : τ g = none) (hr : RowsAt 52 3 Wr.cells τ v ws) (hn : ws.length * 40 ≤ 140737488355328) (r : Int) (h : S.busy = true) (ht : decide (S.tries ≥ r) = false) :
    ACalls Tryz.prog 90 #[.pointer (some ⟨g, 0, none⟩), .int .i64 r] (upd τ g (.cells (S.cells v) 130)) fun u σ' => ∃ v' τ', u = .tuple #[.agg (S.msg v').toArray, .int .i64 0] ∧ σ' = upd τ' g (.cells (S.tried.cells v) 130) ∧ τ' g = none ∧ RowsAt 52 3 Wr.cells τ' v' ws ∧ Same (fun _ => False) τ τ' ∧ New τ v' :=
  (again17c (upd_same _ _ _) (hr.fresh hg _) hn r h ht).mono fun u σ' ⟨v', σ1, h1, h2, h3, h4⟩ => by
    subst h2
    rw [set_same] at h4
    have e := h4.1.at (upd_same _ _ _) (fun x => x)
    exact ⟨v', off σ' g, h1, off_upd e, off_none _ _, h3.offs (New.ne h4.2), off_same hg (Same.unUpd hg h4.1), New.unUpd h4.2⟩
end Go.Proofs.YtaoafjlocjjbbaaGreatDoor

-- E1
namespace Go.Sp
/-- A row of which a part is looked at. -/
def win (A cs B : List Value) : List Value := A ++ cs ++ B
theorem win_get (A cs B : List Value) (k : Nat) : (win A cs B)[A.length + k]? = (cs ++ B)[k]? := by
  unfold win; rw [List.append_assoc, List.getElem?_append_right (by omega), Nat.add_sub_cancel_left]
theorem win_get0 (A cs B : List Value) : (win A cs B)[A.length]? = (cs ++ B)[0]? := win_get A cs B 0
theorem win_seg (A cs B : List Value) (k n : Nat) : seg (win A cs B) (A.length + k) n = seg (cs ++ B) k n := by
  unfold win seg
  rw [List.append_assoc, List.length_append, List.drop_append, List.drop_of_length_le (by omega), List.nil_append, Nat.add_sub_cancel_left]
  by_cases h : k + n ≤ (cs ++ B).length
  · rw [if_pos h, if_pos (by omega)]
  · rw [if_neg h, if_neg (by omega)]
theorem win_seg0 (A cs B : List Value) (n : Nat) : seg (win A cs B) A.length n = seg (cs ++ B) 0 n := win_seg A cs B 0 n
theorem win_le {A cs B : List Value} {k n : Nat} (h : k + n ≤ cs.length) : (A.length + k + n ≤ (win A cs B).length) = True := by
  unfold win; simp only [List.length_append, eq_iff_iff, iff_true]; omega
theorem win_le0 {A cs B : List Value} {n : Nat} (h : n ≤ cs.length) : (A.length + n ≤ (win A cs B).length) = True := by
  unfold win; simp only [List.length_append, eq_iff_iff, iff_true]; omega
theorem win_splice {A cs B vs : List Value} {k : Nat} (h : k + vs.length ≤ cs.length) : splice (win A cs B) (A.length + k) vs = win A (splice cs k vs) B := by
  unfold win splice
  have e1 : (A ++ cs ++ B).take (A.length + k) = A ++ cs.take k := by
    rw [List.append_assoc, List.take_append, List.take_of_length_le (by omega), Nat.add_sub_cancel_left, List.take_append_of_le_length (by omega)]
  have e2 : (A ++ cs ++ B).drop (A.length + k + vs.length) = cs.drop (k + vs.length) ++ B := by
    rw [List.append_assoc, List.drop_append, List.drop_of_length_le (by omega), List.nil_append, show A.length + k + vs.length - A.length = k + vs.length by omega, List.drop_append_of_le_length h]
  rw [e1, e2]
  simp only [List.append_assoc]
theorem win_splice0 {A cs B vs : List Value} (h : vs.length ≤ cs.length) : splice (win A cs B) A.length vs = win A (splice cs 0 vs) B := win_splice (k := 0) (by omega)
theorem win_add (A : List Value) (i j : Nat) : A.length + i + j = A.length + (i + j) := Nat.add_assoc _ _ _
theorem winR : type_of% (And.intro @win_get (And.intro @win_get0 (And.intro @win_seg (And.intro @win_seg0 (And.intro @win_le (And.intro @win_le0 (And.intro @win_splice (And.intro @win_splice0 (@win_add))))))))) := And.intro @win_get (And.intro @win_get0 (And.intro @win_seg (And.intro @win_seg0 (And.intro @win_le (And.intro @win_le0 (And.intro @win_splice (And.intro @win_splice0 (@win_add))))))))
theorem RowsAt.notRow {α : Type} {E sz : Nat} {f : α → List Value} {σ : Hp} {v : Value} {l : List α} (h : RowsAt E sz f σ v l) {g r : Nat} {cs : List Value} {t : TypeId} (hg : σ g = some (.row cs r t)) (hne : t ≠ E) : blk v ≠ some g := fun e => by
  rcases h with ⟨rfl, rfl⟩ | ⟨b, c, rfl, _, hb⟩
  · cases e
  · cases e; rw [hg] at hb; exact hne (Blk.row.inj (Option.some.inj hb)).2.2
end Go.Sp

-- E2
namespace Go.Proofs.YtaoafjlocjjbbaaGreatDoor
open Go.Sp
set_option linter.unusedSimpArgs false
set_option linter.unusedVariables false
theorem raise_eq (S : SesS) (n : Int) : cond (decide (n > S.floor) && decide (n ≤ 1099511627776)) { S with floor := n } S = S.raise n := by
  unfold SesS.raise mxI
  by_cases h1 : n > S.floor <;> by_cases h2 : n ≤ 1099511627776 <;> simp [h1, h2]
theorem raise56w {σ : Hp} {Wa Wb : List Value} {wn : Nat} {g : Nat} {S : SesS} {v : Value} (hg : σ g = some (.row (win Wa (S.cells v) Wb) wn 118)) (n : Int) : ACalls Tryz.prog 59 #[.pointer (some ⟨g, Wa.length, none⟩), .int .i64 n] σ fun u σ' => u = .tuple #[] ∧ σ' = set σ g (.row (win Wa ((S.raise n).cells v) Wb) wn 118) := by
  rw [← raise_eq]
  (unfold SesS.cells at hg; obtain ⟨τ, rfl⟩ := open_upd hg; clear hg)
  (refine acalls_F ok59 (by simp) ?_; unfold c59 r59)
  (repeat' (first | (simp +contextual -dsimp only [*, winR, SesS.cells, SesS.view, Wr.cells, SesS.msg, Msg.cells, Bool.not_false, Bool.not_true, SesS.sent, noMsg, SesS.ended, ↓reduceIte, ↓evP, evQ, splice_nil, splice_zero, splice_skip, Nat.reduceAdd, Nat.reduceEqDiff, Nat.reduceLeDiff, Nat.reduceMul, reduceCtorEq, Int.reduceLT, Int.reduceLE, Int.reduceGT, Int.reduceGE, Int.reduceEq, Int.reduceNeg]) | (refine condF_split (fun hc => ?_) (fun hc => ?_) <;> (try simp only [Bool.not_eq_true', Bool.not_eq_false', Bool.and_eq_true, Bool.or_eq_false_iff] at hc)) | (intro _; intros) | (refine And.intro ?_ ?_; focus (first | omega | ((repeat (first | exact Sub.refl _ | (refine Sub.drop ?_ ?_; focus (simp only [evN, *]; done)) | refine Sub.both ?_)); done) | (simp_all; done) | (simp_all; omega)))))
  all_goals (refine endF_det ?_ ?_; (focus ((try simp only [cond_true, cond_false, *]) <;> ((try simp only [decide_eq_true_eq, decide_eq_false_iff_not] at *) <;> first | rfl | (simp []; done) | (simp_all []; done) | (simp []; omega) | (simp []; (rw [Bool.eq_iff_iff]); simp; omega) | (simp_all [] <;> omega) | ((try unfold id); (rw [Value.bool.injEq, Bool.eq_iff_iff]); simp <;> omega) | ((try unfold id); (repeat' split) <;> simp_all <;> omega) | (simp_all [] <;> (repeat' split) <;> simp_all <;> omega)))); (focus ((try simp only [cond_true, cond_false, set_same, *]); exact (by (repeat (first | exact Sub.refl _ | (refine Sub.drop ?_ ?_; focus (simp only [evN, *]; done)) | refine Sub.both ?_)); done))))
theorem join57w {σ : Hp} {Wa Wb : List Value} {wn : Nat} {g : Nat} {S : SesS} {v : Value} (hg : σ g = some (.row (win Wa (S.cells v) Wb) wn 118)) (s : ByteArray) (hs : s.size ≤ 281474976710656) : ACalls Tryz.prog 93 #[.pointer (some ⟨g, Wa.length, none⟩), .string s] σ fun u σ' => u = .int .i64 (parE s) ∧ σ' = set σ g (.row (win Wa ((S.joined s).cells v) Wb) wn 118) := by
  have Hg := Hid.mk hg
  have HS : Hid (set σ g (.row (win Wa (S.cells v) Wb) wn 118) = σ) := ⟨upd_self hg⟩
  clear hg
  (refine acalls_F ok93 (by simp) ?_; unfold c93 r93)
  (repeat' (first | (simp +contextual -dsimp only [*, winR, SesS.cells, SesS.view, Wr.cells, SesS.msg, Msg.cells, Bool.not_false, Bool.not_true, SesS.sent, noMsg, SesS.ended, ↓reduceIte, ↓evP, evQ, splice_nil, splice_zero, splice_skip, Nat.reduceAdd, Nat.reduceEqDiff, Nat.reduceLeDiff, Nat.reduceMul, reduceCtorEq, Int.reduceLT, Int.reduceLE, Int.reduceGT, Int.reduceGE, Int.reduceEq, Int.reduceNeg]) | (refine condF_split (fun hc => ?_) (fun hc => ?_) <;> (try simp only [Bool.not_eq_true', Bool.not_eq_false', Bool.and_eq_true, Bool.or_eq_false_iff] at hc)) | refine callF_v (par22 s _ hs) ?_ | refine callF_v (raise56w Hg.out (parV s)) ?_ | refine ccallF_of (par22 s _ hs) ?_ | refine ccallF_of (raise56w Hg.out (parV s)) ?_ | refine gcallF_of (par22 s _ hs) ?_ | refine gcallF_of (raise56w Hg.out (parV s)) ?_ | (intro _; intros) | (refine And.intro ?_ ?_; focus (first | omega | ((repeat (first | exact Sub.refl _ | (refine Sub.drop ?_ ?_; focus (simp only [evN, *]; done)) | refine Sub.both ?_)); done) | (simp_all; done) | (simp_all; omega)))))
  · refine endF_det rfl ?_
    unfold SesS.joined; rw [hc]; exact Sub.refl _
  · refine endF_det rfl ?_
    unfold SesS.joined; rw [hc]
    show Sub (set σ g (.row (win Wa (S.cells v) Wb) wn 118)) σ
    rw [HS.out]; exact Sub.refl _
set_option maxRecDepth 100000 in
theorem ack55w {σ : Hp} {Wa Wb : List Value} {wn : Nat} {g : Nat} {S : SesS} {v : Value} (hg : σ g = some (.row (win Wa (S.cells v) Wb) wn 118)) (m : Msg) : ACalls Tryz.prog 61 #[.pointer (some ⟨g, Wa.length, none⟩), .agg m.cells.toArray] σ fun u σ' => u = .bool (S.hears m) ∧ σ' = cond (S.hears m) (set σ g (.row (win Wa ((S.acked m).cells v) Wb) wn 118)) σ := by
  (unfold SesS.cells at hg; obtain ⟨τ, rfl⟩ := open_upd hg; clear hg)
  (refine acalls_F ok61 (by simp) ?_; unfold c61 r61)
  (repeat' (first | (simp +contextual -dsimp only [*, winR, SesS.cells, SesS.view, Wr.cells, SesS.msg, Msg.cells, Bool.not_false, Bool.not_true, SesS.sent, noMsg, SesS.ended, ↓reduceIte, ↓evP, evQ, splice_nil, splice_zero, splice_skip, Nat.reduceAdd, Nat.reduceEqDiff, Nat.reduceLeDiff, Nat.reduceMul, reduceCtorEq, Int.reduceLT, Int.reduceLE, Int.reduceGT, Int.reduceGE, Int.reduceEq, Int.reduceNeg]) | (refine condF_split (fun hc => ?_) (fun hc => ?_) <;> (try simp only [Bool.not_eq_true', Bool.not_eq_false', Bool.and_eq_true, Bool.or_eq_false_iff] at hc)) | refine callF_v (raise56w (S := { S.ended m.err with last := m.n }) (v := v) (by first | rfl | (simp only [upd_same, upd_at, set_at, *, ↓reduceIte]; done) | (simp only [upd_same, upd_at, set_at, *, ↓reduceIte]; rfl)) m.n) ?_ | refine ccallF_of (raise56w (S := { S.ended m.err with last := m.n }) (v := v) (by first | rfl | (simp only [upd_same, upd_at, set_at, *, ↓reduceIte]; done) | (simp only [upd_same, upd_at, set_at, *, ↓reduceIte]; rfl)) m.n) ?_ | refine gcallF_of (raise56w (S := { S.ended m.err with last := m.n }) (v := v) (by first | rfl | (simp only [upd_same, upd_at, set_at, *, ↓reduceIte]; done) | (simp only [upd_same, upd_at, set_at, *, ↓reduceIte]; rfl)) m.n) ?_ | (intro _; intros) | (refine And.intro ?_ ?_; focus (first | omega | ((repeat (first | exact Sub.refl _ | (refine Sub.drop ?_ ?_; focus (simp only [evN, *]; done)) | refine Sub.both ?_)); done) | (simp_all; done) | (simp_all; omega)))))
  all_goals (refine endF_det ?_ ?_; (focus ((try simp only [SesS.hears, SesS.acked, SesS.ended, SesS.raise, Bool.true_and, Bool.false_and, Bool.and_true, Bool.and_false, cond_true, cond_false, *]) <;> ((try simp only [decide_eq_true_eq, decide_eq_false_iff_not] at *) <;> first | rfl | (simp [SesS.hears, SesS.acked, SesS.ended, SesS.raise, Bool.true_and, Bool.false_and, Bool.and_true, Bool.and_false]; done) | (simp_all [SesS.hears, SesS.acked, SesS.ended, SesS.raise, Bool.true_and, Bool.false_and, Bool.and_true, Bool.and_false]; done) | (simp [SesS.hears, SesS.acked, SesS.ended, SesS.raise, Bool.true_and, Bool.false_and, Bool.and_true, Bool.and_false]; omega) | (simp [SesS.hears, SesS.acked, SesS.ended, SesS.raise, Bool.true_and, Bool.false_and, Bool.and_true, Bool.and_false]; (rw [Bool.eq_iff_iff]); simp; omega) | (simp_all [SesS.hears, SesS.acked, SesS.ended, SesS.raise, Bool.true_and, Bool.false_and, Bool.and_true, Bool.and_false] <;> omega) | ((try unfold SesS.hears  SesS.acked  SesS.ended  SesS.raise  Bool.true_and  Bool.false_and  Bool.and_true  Bool.and_false); (rw [Value.bool.injEq, Bool.eq_iff_iff]); simp <;> omega) | ((try unfold SesS.hears  SesS.acked  SesS.ended  SesS.raise  Bool.true_and  Bool.false_and  Bool.and_true  Bool.and_false); (repeat' split) <;> simp_all <;> omega) | (simp_all [SesS.hears, SesS.acked, SesS.ended, SesS.raise, Bool.true_and, Bool.false_and, Bool.and_true, Bool.and_false] <;> (repeat' split) <;> simp_all <;> omega)))); (focus ((try simp only [SesS.hears, SesS.acked, SesS.ended, SesS.raise, Bool.true_and, Bool.false_and, Bool.and_true, Bool.and_false, cond_true, cond_false, set_same, *]); exact (by (repeat (first | exact Sub.refl _ | (refine Sub.drop ?_ ?_; focus (simp only [evN, *]; done)) | refine Sub.both ?_)); done))))
theorem message76w {σ : Hp} {Wa Wb : List Value} {wn : Nat} {g : Nat} {S : SesS} {v : Value} {ws : List Wr} (hg : σ g = some (.row (win Wa (S.cells v) Wb) wn 118)) (hr : RowsAt 52 3 Wr.cells σ v ws) (hn : ws.length * 40 ≤ 140737488355328) :
    ACalls Tryz.prog 107 #[.pointer (some ⟨g, Wa.length, none⟩)] σ fun u σ' => ∃ v', u = .agg (S.msg v').toArray ∧ RowsAt 52 3 Wr.cells σ' v' ws ∧ Made σ σ' v' := by
  have hx := hr.notRow hg (by decide)
  rcases hr with ⟨rfl, rfl⟩ | ⟨b, c, rfl, hc, hb⟩
  · (unfold SesS.cells at hg; obtain ⟨τ, rfl⟩ := open_upd hg; clear hg)
    clear hx
    (refine acalls_F ok107 (by simp) ?_; unfold c107 r107)
    (repeat' (first | (simp +contextual -dsimp only [*, winR, SesS.cells, SesS.view, Wr.cells, SesS.msg, Msg.cells, Bool.not_false, Bool.not_true, SesS.sent, noMsg, SesS.ended, ↓reduceIte, ↓evP, evQ, splice_nil, splice_zero, splice_skip, Nat.reduceAdd, Nat.reduceEqDiff, Nat.reduceLeDiff, Nat.reduceMul, reduceCtorEq, Int.reduceLT, Int.reduceLE, Int.reduceGT, Int.reduceGE, Int.reduceEq, Int.reduceNeg]) | (refine condF_split (fun hc => ?_) (fun hc => ?_) <;> (try simp only [Bool.not_eq_true', Bool.not_eq_false', Bool.and_eq_true, Bool.or_eq_false_iff] at hc)) | (intro _; intros) | (refine And.intro ?_ ?_; focus (first | omega | ((repeat (first | exact Sub.refl _ | (refine Sub.drop ?_ ?_; focus (simp only [evN, *]; done)) | refine Sub.both ?_)); done) | (simp_all; done) | (simp_all; omega)))))
    refine app_bn (Nat.le_refl 0) ?_
    (repeat' (first | (simp +contextual -dsimp only [*, winR, SesS.cells, SesS.view, Wr.cells, SesS.msg, Msg.cells, Bool.not_false, Bool.not_true, SesS.sent, noMsg, SesS.ended, ↓reduceIte, ↓evP, evQ, splice_nil, splice_zero, splice_skip, Nat.reduceAdd, Nat.reduceEqDiff, Nat.reduceLeDiff, Nat.reduceMul, reduceCtorEq, Int.reduceLT, Int.reduceLE, Int.reduceGT, Int.reduceGE, Int.reduceEq, Int.reduceNeg]) | (refine condF_split (fun hc => ?_) (fun hc => ?_) <;> (try simp only [Bool.not_eq_true', Bool.not_eq_false', Bool.and_eq_true, Bool.or_eq_false_iff] at hc)) | (intro _; intros) | (refine And.intro ?_ ?_; focus (first | omega | ((repeat (first | exact Sub.refl _ | (refine Sub.drop ?_ ?_; focus (simp only [evN, *]; done)) | refine Sub.both ?_)); done) | (simp_all; done) | (simp_all; omega)))))
    refine endF_at ⟨_, rfl, rows_mk rfl (Nat.le_refl 0) (upd_same _ _ _), (by repeat (first | exact Same.refl _ _ | (refine Same.updNew ?_ ?_; focus (simp only [evN, *]; done)) | (refine Same.both ?_ ?_; focus (first | exact rfl | exact .inl rfl | exact .inr rfl)) | (refine Same.updIn ?_ ?_; focus (first | exact rfl | exact .inl rfl | exact .inr rfl)) | refine Same.eq ?_)), fun k hk => ?_⟩
    cases hk; exact (by simp only [evN, *]; done)
  · have hgb : ¬ b = g := fun e => hx (by rw [← e]; rfl)
    have hgb' : ¬ g = b := fun e => hgb e.symm
    have hone := wr_one ws
    have hlen := flat_len Wr.cells_len ws
    obtain ⟨τ1, rfl⟩ := open_2 hg hb hgb'
    clear hx hb hg
    have hsg : seg (ws.flatMap Wr.cells) 0 (ws.length * 3) = some (ws.flatMap Wr.cells) := by rw [← hlen]; exact seg_all _
    (refine acalls_F ok107 (by simp) ?_; unfold c107 r107)
    (repeat' (first | (simp +contextual -dsimp only [*, winR, SesS.cells, SesS.view, Wr.cells, SesS.msg, Msg.cells, Bool.not_false, Bool.not_true, SesS.sent, noMsg, SesS.ended, ↓reduceIte, ↓evP, evQ, splice_nil, splice_zero, splice_skip, Nat.reduceAdd, Nat.reduceEqDiff, Nat.reduceLeDiff, Nat.reduceMul, reduceCtorEq, Int.reduceLT, Int.reduceLE, Int.reduceGT, Int.reduceGE, Int.reduceEq, Int.reduceNeg]) | (refine condF_split (fun hc => ?_) (fun hc => ?_) <;> (try simp only [Bool.not_eq_true', Bool.not_eq_false', Bool.and_eq_true, Bool.or_eq_false_iff] at hc)) | (intro _; intros) | (refine And.intro ?_ ?_; focus (first | omega | ((repeat (first | exact Sub.refl _ | (refine Sub.drop ?_ ?_; focus (simp only [evN, *]; done)) | refine Sub.both ?_)); done) | (simp_all; done) | (simp_all; omega)))))
    refine app_b (by first | (simp only [Nat.reduceMul, Nat.one_mul, Nat.zero_mul, rdn_row, rdn_same, rdn_ne, seg_zero, seg_cons, seg_skip, Option.map_some, not_false_eq_true, *]; done) | (simp only [Nat.reduceMul, Nat.one_mul, Nat.zero_mul, rdn_row, rdn_same, rdn_ne, seg_zero, seg_cons, seg_skip, Option.map_some, not_false_eq_true, *]; exact rfl)) hone (by first | (simp only [upd_at, *, ↓reduceIte]; done) | (simp only [upd_at, *, ↓reduceIte]; rfl)) rfl (by omega) (by omega) (by unfold maxLen; omega) ?_ ?_
    all_goals (repeat' (first | (simp +contextual -dsimp only [*, winR, SesS.cells, SesS.view, Wr.cells, SesS.msg, Msg.cells, Bool.not_false, Bool.not_true, SesS.sent, noMsg, SesS.ended, ↓reduceIte, ↓evP, evQ, splice_nil, splice_zero, splice_skip, Nat.reduceAdd, Nat.reduceEqDiff, Nat.reduceLeDiff, Nat.reduceMul, reduceCtorEq, Int.reduceLT, Int.reduceLE, Int.reduceGT, Int.reduceGE, Int.reduceEq, Int.reduceNeg]) | (refine condF_split (fun hc => ?_) (fun hc => ?_) <;> (try simp only [Bool.not_eq_true', Bool.not_eq_false', Bool.and_eq_true, Bool.or_eq_false_iff] at hc)) | (intro _; intros) | (refine And.intro ?_ ?_; focus (first | omega | ((repeat (first | exact Sub.refl _ | (refine Sub.drop ?_ ?_; focus (simp only [evN, *]; done)) | refine Sub.both ?_)); done) | (simp_all; done) | (simp_all; omega)))))
    all_goals (refine endF_at ⟨_, rfl, rows_mk (by simp) (by omega) (by first | (simp only [upd_at, *, ↓reduceIte, List.nil_append]; done) | (simp only [upd_at, *, ↓reduceIte, List.nil_append]; rfl)), ?_, ?_⟩; (focus exact (by repeat (first | exact Same.refl _ _ | (refine Same.updNew ?_ ?_; focus (simp only [evN, *]; done)) | (refine Same.both ?_ ?_; focus (first | exact rfl | exact .inl rfl | exact .inr rfl)) | (refine Same.updIn ?_ ?_; focus (first | exact rfl | exact .inl rfl | exact .inr rfl)) | refine Same.eq ?_))); (focus (intro k hk; cases hk; exact (by simp only [evN, *]; done))))
set_option maxRecDepth 100000 in
theorem send52aw {τ : Hp} {Wa Wb : List Value} {wn : Nat} {g : Nat} {S : SesS} {v w : Value} (h : S.busy = true) : ACalls Tryz.prog 89 #[.pointer (some ⟨g, Wa.length, none⟩), w] (upd τ g (.row (win Wa (S.cells v) Wb) wn 118)) fun u σ' => u = .tuple #[.agg noMsg.toArray, .int .i64 31] ∧ σ' = upd τ g (.row (win Wa (S.cells v) Wb) wn 118) := by
  obtain ⟨i0, fl, bu, sq, tr, la, er⟩ := S
  obtain rfl : bu = true := h
  (refine acalls_F ok89 (by simp) ?_; unfold c89 r89)
  (repeat' (first | (simp +contextual -dsimp only [*, winR, SesS.cells, SesS.view, Wr.cells, SesS.msg, Msg.cells, Bool.not_false, Bool.not_true, SesS.sent, noMsg, SesS.ended, ↓reduceIte, ↓evP, evQ, splice_nil, splice_zero, splice_skip, Nat.reduceAdd, Nat.reduceEqDiff, Nat.reduceLeDiff, Nat.reduceMul, reduceCtorEq, Int.reduceLT, Int.reduceLE, Int.reduceGT, Int.reduceGE, Int.reduceEq, Int.reduceNeg]) | (refine condF_split (fun hc => ?_) (fun hc => ?_) <;> (try simp only [Bool.not_eq_true', Bool.not_eq_false', Bool.and_eq_true, Bool.or_eq_false_iff] at hc)) | (intro _; intros) | (refine And.intro ?_ ?_; focus (first | omega | ((repeat (first | exact Sub.refl _ | (refine Sub.drop ?_ ?_; focus (simp only [evN, *]; done)) | refine Sub.both ?_)); done) | (simp_all; done) | (simp_all; omega)))))
  exact endF_det rfl (by (repeat (first | exact Sub.refl _ | (refine Sub.drop ?_ ?_; focus (simp only [evN, *]; done)) | refine Sub.both ?_)); done)
set_option maxRecDepth 100000 in
theorem send52bw {τ : Hp} {Wa Wb : List Value} {wn : Nat} {g : Nat} {S : SesS} {v w : Value} {ws : List Wr} (hv : RoRows 3 Wr.cells (upd τ g (.row (win Wa (S.cells v) Wb) wn 118)) w ws) (hn : ws.length ≤ 140737488355328) (h : S.busy = false) (he : decide (checkV ws = 0) = false) :
    ACalls Tryz.prog 89 #[.pointer (some ⟨g, Wa.length, none⟩), w] (upd τ g (.row (win Wa (S.cells v) Wb) wn 118)) fun u σ' => u = .tuple #[.agg noMsg.toArray, .int .i64 (checkV ws)] ∧ σ' = upd τ g (.row (win Wa (S.cells v) Wb) wn 118) := by
  obtain ⟨i0, fl, bu, sq, tr, la, er⟩ := S
  obtain rfl : bu = false := h
  have H := Hid.mk hv
  obtain ⟨A, c, rfl, _⟩ := hv
  (refine acalls_F ok89 (by simp) ?_; unfold c89 r89)
  (repeat' (first | (simp +contextual -dsimp only [*, winR, SesS.cells, SesS.view, Wr.cells, SesS.msg, Msg.cells, Bool.not_false, Bool.not_true, SesS.sent, noMsg, SesS.ended, ↓reduceIte, ↓evP, evQ, splice_nil, splice_zero, splice_skip, Nat.reduceAdd, Nat.reduceEqDiff, Nat.reduceLeDiff, Nat.reduceMul, reduceCtorEq, Int.reduceLT, Int.reduceLE, Int.reduceGT, Int.reduceGE, Int.reduceEq, Int.reduceNeg]) | (refine condF_split (fun hc => ?_) (fun hc => ?_) <;> (try simp only [Bool.not_eq_true', Bool.not_eq_false', Bool.and_eq_true, Bool.or_eq_false_iff] at hc)) | (intro _; intros) | (refine And.intro ?_ ?_; focus (first | omega | ((repeat (first | exact Sub.refl _ | (refine Sub.drop ?_ ?_; focus (simp only [evN, *]; done)) | refine Sub.both ?_)); done) | (simp_all; done) | (simp_all; omega)))))
  refine callF_v (check75 (H.out.sub ?_) hn) ?_
  · (repeat (first | exact Sub.refl _ | (refine Sub.drop ?_ ?_; focus (simp only [evN, *]; done)) | refine Sub.both ?_)); done
  (repeat' (first | (simp +contextual -dsimp only [*, winR, SesS.cells, SesS.view, Wr.cells, SesS.msg, Msg.cells, Bool.not_false, Bool.not_true, SesS.sent, noMsg, SesS.ended, ↓reduceIte, ↓evP, evQ, splice_nil, splice_zero, splice_skip, Nat.reduceAdd, Nat.reduceEqDiff, Nat.reduceLeDiff, Nat.reduceMul, reduceCtorEq, Int.reduceLT, Int.reduceLE, Int.reduceGT, Int.reduceGE, Int.reduceEq, Int.reduceNeg]) | (refine condF_split (fun hc => ?_) (fun hc => ?_) <;> (try simp only [Bool.not_eq_true', Bool.not_eq_false', Bool.and_eq_true, Bool.or_eq_false_iff] at hc)) | (intro _; intros) | (refine And.intro ?_ ?_; focus (first | omega | ((repeat (first | exact Sub.refl _ | (refine Sub.drop ?_ ?_; focus (simp only [evN, *]; done)) | refine Sub.both ?_)); done) | (simp_all; done) | (simp_all; omega)))))
  exact endF_det rfl (by (repeat (first | exact Sub.refl _ | (refine Sub.drop ?_ ?_; focus (simp only [evN, *]; done)) | refine Sub.both ?_)); done)
theorem send_endw {τ H τm : Hp} {g m T r : Nat} {X M M' : List Value} {v1 v2 : Value} {ws : List Wr} (hg : τ g = none) (hm : τ m = none) (hgm : g ≠ m) (hτ : Same (fun _ => False) τ H) (hHg : H g = some (.row X r T)) (hT : T ≠ 52)
    (hHm : H m = some (.cells M 39)) (hr1 : RowsAt 52 3 Wr.cells H v1 ws) (hr2 : RowsAt 52 3 Wr.cells (upd τm m (.cells M 39)) v2 ws) (hM : Made H (upd τm m (.cells M 39)) v2) (hn1 : New τ v1) (hw : ws ≠ []) :
    ∃ τ', Sub (upd τ' g (.row X r T)) (upd τm m (.cells M' 39)) ∧ τ' g = none ∧ RowsAt 52 3 Wr.cells τ' v1 ws ∧ RowsAt 52 3 Wr.cells τ' v2 ws ∧ Same (fun _ => False) τ τ' ∧ New τ v1 ∧ New τ v2 ∧ blk v1 ≠ blk v2 := by
  have e1 := hM.1.at hHg (fun x => x)
  have e2 : off (upd τm m (.cells M 39)) m g = some (.row X r T) := by rw [off_ne _ hgm]; exact e1
  have r1 := hr1.sameF hM.1 (fun _ _ x => x)
  have r1m := r1.offs (g := m) (r1.notCells (upd_same _ _ _))
  have r2m := hr2.offs (g := m) (hr2.notCells (upd_same _ _ _))
  have hS : Same (fun _ => False) τ (upd τm m (.cells M 39)) := hτ.trans hM.1 (fun _ _ x => x)
  refine ⟨off (off (upd τm m (.cells M 39)) m) g, ?_, off_none _ _, r1m.offs (r1m.notRow e2 hT), r2m.offs (r2m.notRow e2 hT), off_same hg (off_same hm hS), hn1, fun k hk => ?_, fun e => ?_⟩
  · rw [← off_upd e2]; exact off_upd_sub _ _ _ _
  · have := hM.2 k hk
    exact (Same.sub hτ).noneAt this
  · obtain ⟨k, hk⟩ := hr1.blk_some hw
    exact hr1.known hk (hM.2 k (e ▸ hk))
set_option maxRecDepth 100000 in
theorem send52w {τ : Hp} {Wa Wb : List Value} {wn : Nat} {g : Nat} {S : SesS} {v w : Value} {ws : List Wr} (hg : τ g = none) (hv : RoRows 3 Wr.cells τ w ws) (hn : ws.length * 40 ≤ 140737488355328) (h : S.busy = false) (he : checkV ws = 0) :
    ACalls Tryz.prog 89 #[.pointer (some ⟨g, Wa.length, none⟩), w] (upd τ g (.row (win Wa (S.cells v) Wb) wn 118)) fun u σ' => ∃ v1 v2 τ', u = .tuple #[.agg (S.sent.msg v2).toArray, .int .i64 0] ∧ σ' = upd τ' g (.row (win Wa (S.sent.cells v1) Wb) wn 118) ∧ τ' g = none ∧ RowsAt 52 3 Wr.cells τ' v1 ws ∧ RowsAt 52 3 Wr.cells τ' v2 ws ∧
      Same (fun _ => False) τ τ' ∧ New τ v1 ∧ New τ v2 ∧ blk v1 ≠ blk v2 := by
  obtain ⟨i0, fl, bu, sq, tr, la, er⟩ := S
  obtain rfl : bu = false := h
  have H := Hid.mk hv
  have hne := checkV_ne he
  obtain ⟨A, c, rfl, hrow⟩ := hv
  obtain ⟨b, off, rfl, _⟩ := hrow 0 (ws[0]'(List.length_pos_iff.2 hne)) (List.getElem?_eq_getElem _)
  have hrd : rdn τ b off (ws.length * 3) = some (ws.flatMap Wr.cells) := ro_whole ws off hne fun i x hx => by
    obtain ⟨b', o', e, h⟩ := hrow i x hx
    cases e; exact h
  have hone : (ws.flatMap Wr.cells).all one = true := wr_one _
  have HN := Hid.mk hne
  clear hrow
  (refine acalls_F ok89 (by simp) ?_; unfold c89 r89)
  (repeat' (first | (simp +contextual -dsimp only [*, winR, SesS.cells, SesS.view, Wr.cells, SesS.msg, Msg.cells, Bool.not_false, Bool.not_true, SesS.sent, noMsg, SesS.ended, ↓reduceIte, ↓evP, evQ, splice_nil, splice_zero, splice_skip, Nat.reduceAdd, Nat.reduceEqDiff, Nat.reduceLeDiff, Nat.reduceMul, reduceCtorEq, Int.reduceLT, Int.reduceLE, Int.reduceGT, Int.reduceGE, Int.reduceEq, Int.reduceNeg]) | (refine condF_split (fun hc => ?_) (fun hc => ?_) <;> (try simp only [Bool.not_eq_true', Bool.not_eq_false', Bool.and_eq_true, Bool.or_eq_false_iff] at hc)) | (intro _; intros) | (refine And.intro ?_ ?_; focus (first | omega | ((repeat (first | exact Sub.refl _ | (refine Sub.drop ?_ ?_; focus (simp only [evN, *]; done)) | refine Sub.both ?_)); done) | (simp_all; done) | (simp_all; omega)))))
  refine callF_v (check75 (H.out.sub ?_) (by omega)) ?_
  · (repeat (first | exact Sub.refl _ | (refine Sub.drop ?_ ?_; focus (simp only [evN, *]; done)) | refine Sub.both ?_)); done
  rw [he]
  clear he
  (repeat' (first | (simp +contextual -dsimp only [*, winR, SesS.cells, SesS.view, Wr.cells, SesS.msg, Msg.cells, Bool.not_false, Bool.not_true, SesS.sent, noMsg, SesS.ended, ↓reduceIte, ↓evP, evQ, splice_nil, splice_zero, splice_skip, Nat.reduceAdd, Nat.reduceEqDiff, Nat.reduceLeDiff, Nat.reduceMul, reduceCtorEq, Int.reduceLT, Int.reduceLE, Int.reduceGT, Int.reduceGE, Int.reduceEq, Int.reduceNeg]) | (refine condF_split (fun hc => ?_) (fun hc => ?_) <;> (try simp only [Bool.not_eq_true', Bool.not_eq_false', Bool.and_eq_true, Bool.or_eq_false_iff] at hc)) | (intro _; intros) | (refine And.intro ?_ ?_; focus (first | omega | ((repeat (first | exact Sub.refl _ | (refine Sub.drop ?_ ?_; focus (simp only [evN, *]; done)) | refine Sub.both ?_)); done) | (simp_all; done) | (simp_all; omega)))))
  rename_i m m1 m1' m0 l l1 l1' l2 l2' l0
  refine app_b (rdn_sub (by (repeat (first | exact Sub.refl _ | (refine Sub.drop ?_ ?_; focus (simp only [evN, *]; done)) | refine Sub.both ?_)); done) hrd) hone (by first | (simp only [upd_at, *, ↓reduceIte]; done) | (simp only [upd_at, *, ↓reduceIte]; rfl)) rfl (by omega) (by omega) (by unfold maxLen; omega) ?_ ?_
  all_goals (repeat' (first | (simp +contextual -dsimp only [*, winR, SesS.cells, SesS.view, Wr.cells, SesS.msg, Msg.cells, Bool.not_false, Bool.not_true, SesS.sent, noMsg, SesS.ended, ↓reduceIte, ↓evP, evQ, splice_nil, splice_zero, splice_skip, Nat.reduceAdd, Nat.reduceEqDiff, Nat.reduceLeDiff, Nat.reduceMul, reduceCtorEq, Int.reduceLT, Int.reduceLE, Int.reduceGT, Int.reduceGE, Int.reduceEq, Int.reduceNeg]) | (refine condF_split (fun hc => ?_) (fun hc => ?_) <;> (try simp only [Bool.not_eq_true', Bool.not_eq_false', Bool.and_eq_true, Bool.or_eq_false_iff] at hc)) | (intro _; intros) | (refine And.intro ?_ ?_; focus (first | omega | ((repeat (first | exact Sub.refl _ | (refine Sub.drop ?_ ?_; focus (simp only [evN, *]; done)) | refine Sub.both ?_)); done) | (simp_all; done) | (simp_all; omega)))))
  · rename_i c' hc'
    have hr : RowsAt 52 3 Wr.cells (upd (upd (upd τ g (.row (win Wa ((⟨i0, fl, true, IntKind.i64.wrap (sq + 1), 0, la, er⟩ : SesS).cells (.slice (some ⟨l, 0, none⟩) ws.length c')) Wb) wn 118)) m (.cells noMsg 39)) l (.row (ws.flatMap Wr.cells) (c' * 3) 52)) (.slice (some ⟨l, 0, none⟩) ws.length c') ws := rows_mk rfl hc' (upd_same _ _ _)
    refine callF_of (message76w (S := ⟨i0, fl, true, IntKind.i64.wrap (sq + 1), 0, la, er⟩) (v := .slice (some ⟨l, 0, none⟩) ws.length c') (by first | rfl | (simp only [upd_same, upd_at, set_at, *, ↓reduceIte]; done) | (simp only [upd_same, upd_at, set_at, *, ↓reduceIte]; rfl)) hr hn) ?_
    rintro u σ2 ⟨v', rfl, hR, hM⟩
    have em := hM.1.at (g := m) (o := .cells noMsg 39) (by first | rfl | (simp only [upd_same, upd_at, set_at, *, ↓reduceIte]; done) | (simp only [upd_same, upd_at, set_at, *, ↓reduceIte]; rfl)) (fun x => x)
    obtain ⟨a2, c2, rfl⟩ := hR.slice
    obtain ⟨τm, rfl⟩ := open_upd em
    have HE := Hid.mk (send_endw (M' := (SesS.msg ⟨i0, fl, true, IntKind.i64.wrap (sq + 1), 0, la, er⟩ (.slice a2 ws.length c2))) hg m0 (fun e => m1 e.symm) (Same.updNew l0 (Same.updNew m0 (Same.updNew hg (Same.refl _ _)))) (X := win Wa ((⟨i0, fl, true, IntKind.i64.wrap (sq + 1), 0, la, er⟩ : SesS).cells (.slice (some ⟨l, 0, none⟩) ws.length c')) Wb) (by first | rfl | (simp only [upd_same, upd_at, set_at, *, ↓reduceIte]; done) | (simp only [upd_same, upd_at, set_at, *, ↓reduceIte]; rfl)) (by decide) (by first | rfl | (simp only [upd_same, upd_at, set_at, *, ↓reduceIte]; done) | (simp only [upd_same, upd_at, set_at, *, ↓reduceIte]; rfl)) hr hR hM (fun k hk => by cases hk; exact l0) HN.out)
    clear hR hM em hr
    unfold noMsg
    simp +contextual -dsimp only [*, winR, SesS.cells, SesS.view, Wr.cells, SesS.msg, Msg.cells, Bool.not_false, Bool.not_true, SesS.sent, noMsg, SesS.ended, ↓reduceIte, ↓evP, evQ, splice_nil, splice_zero, splice_skip, Nat.reduceAdd, Nat.reduceEqDiff, Nat.reduceLeDiff, Nat.reduceMul, reduceCtorEq, Int.reduceLT, Int.reduceLE, Int.reduceGT, Int.reduceGE, Int.reduceEq, Int.reduceNeg]
    obtain ⟨τ', k1, k2, k3, k4, k5, k6, k7, k8⟩ := HE.out
    exact endF_sub k1 ⟨_, _, τ', rfl, rfl, k2, k3, k4, k5, k6, k7, k8⟩
  · rename_i bb c' q1 q1' q2 q2' q3 q3' q0 hc'
    have hr : RowsAt 52 3 Wr.cells (upd (upd (upd (upd τ g (.row (win Wa ((⟨i0, fl, true, IntKind.i64.wrap (sq + 1), 0, la, er⟩ : SesS).cells (.slice (some ⟨bb, 0, none⟩) ws.length c')) Wb) wn 118)) m (.cells noMsg 39)) l .dead) bb (.row (ws.flatMap Wr.cells) (c' * 3) 52)) (.slice (some ⟨bb, 0, none⟩) ws.length c') ws := rows_mk rfl hc' (upd_same _ _ _)
    refine callF_of (message76w (S := ⟨i0, fl, true, IntKind.i64.wrap (sq + 1), 0, la, er⟩) (v := .slice (some ⟨bb, 0, none⟩) ws.length c') (by first | rfl | (simp only [upd_same, upd_at, set_at, *, ↓reduceIte]; done) | (simp only [upd_same, upd_at, set_at, *, ↓reduceIte]; rfl)) hr hn) ?_
    rintro u σ2 ⟨v', rfl, hR, hM⟩
    have em := hM.1.at (g := m) (o := .cells noMsg 39) (by first | rfl | (simp only [upd_same, upd_at, set_at, *, ↓reduceIte]; done) | (simp only [upd_same, upd_at, set_at, *, ↓reduceIte]; rfl)) (fun x => x)
    obtain ⟨a2, c2, rfl⟩ := hR.slice
    obtain ⟨τm, rfl⟩ := open_upd em
    have HE := Hid.mk (send_endw (M' := (SesS.msg ⟨i0, fl, true, IntKind.i64.wrap (sq + 1), 0, la, er⟩ (.slice a2 ws.length c2))) hg m0 (fun e => m1 e.symm) (Same.updNew q0 (Same.updNew l0 (Same.updNew m0 (Same.updNew hg (Same.refl _ _))))) (X := win Wa ((⟨i0, fl, true, IntKind.i64.wrap (sq + 1), 0, la, er⟩ : SesS).cells (.slice (some ⟨bb, 0, none⟩) ws.length c')) Wb) (by first | rfl | (simp only [upd_same, upd_at, set_at, *, ↓reduceIte]; done) | (simp only [upd_same, upd_at, set_at, *, ↓reduceIte]; rfl)) (by decide) (by first | rfl | (simp only [upd_same, upd_at, set_at, *, ↓reduceIte]; done) | (simp only [upd_same, upd_at, set_at, *, ↓reduceIte]; rfl)) hr hR hM (fun k hk => by cases hk; exact q0) HN.out)
    clear hR hM em hr
    unfold noMsg
    simp +contextual -dsimp only [*, winR, SesS.cells, SesS.view, Wr.cells, SesS.msg, Msg.cells, Bool.not_false, Bool.not_true, SesS.sent, noMsg, SesS.ended, ↓reduceIte, ↓evP, evQ, splice_nil, splice_zero, splice_skip, Nat.reduceAdd, Nat.reduceEqDiff, Nat.reduceLeDiff, Nat.reduceMul, reduceCtorEq, Int.reduceLT, Int.reduceLE, Int.reduceGT, Int.reduceGE, Int.reduceEq, Int.reduceNeg]
    obtain ⟨τ', k1, k2, k3, k4, k5, k6, k7, k8⟩ := HE.out
    exact endF_sub k1 ⟨_, _, τ', rfl, rfl, k2, k3, k4, k5, k6, k7, k8⟩
set_option maxRecDepth 100000 in
theorem again54aw {τ : Hp} {Wa Wb : List Value} {wn : Nat} {g : Nat} {S : SesS} {v : Value} (r : Int) (h : S.busy = false) : ACalls Tryz.prog 91 #[.pointer (some ⟨g, Wa.length, none⟩), .int .i64 r] (upd τ g (.row (win Wa (S.cells v) Wb) wn 118)) fun u σ' => u = .tuple #[.agg noMsg.toArray, .int .i64 3] ∧ σ' = upd τ g (.row (win Wa (S.cells v) Wb) wn 118) := by
  obtain ⟨i0, fl, bu, sq, tr, la, er⟩ := S
  obtain rfl : bu = false := h
  (refine acalls_F ok91 (by simp) ?_; unfold c91 r91)
  (repeat' (first | (simp +contextual -dsimp only [*, winR, SesS.cells, SesS.view, Wr.cells, SesS.msg, Msg.cells, Bool.not_false, Bool.not_true, SesS.sent, noMsg, SesS.ended, ↓reduceIte, ↓evP, evQ, splice_nil, splice_zero, splice_skip, Nat.reduceAdd, Nat.reduceEqDiff, Nat.reduceLeDiff, Nat.reduceMul, reduceCtorEq, Int.reduceLT, Int.reduceLE, Int.reduceGT, Int.reduceGE, Int.reduceEq, Int.reduceNeg]) | (refine condF_split (fun hc => ?_) (fun hc => ?_) <;> (try simp only [Bool.not_eq_true', Bool.not_eq_false', Bool.and_eq_true, Bool.or_eq_false_iff] at hc)) | (intro _; intros) | (refine And.intro ?_ ?_; focus (first | omega | ((repeat (first | exact Sub.refl _ | (refine Sub.drop ?_ ?_; focus (simp only [evN, *]; done)) | refine Sub.both ?_)); done) | (simp_all; done) | (simp_all; omega)))))
  exact endF_det rfl (by (repeat (first | exact Sub.refl _ | (refine Sub.drop ?_ ?_; focus (simp only [evN, *]; done)) | refine Sub.both ?_)); done)
set_option maxRecDepth 100000 in
theorem again54bw {τ : Hp} {Wa Wb : List Value} {wn : Nat} {g : Nat} {S : SesS} {v : Value} (r : Int) (h : S.busy = true) (ht : decide (S.tries ≥ r) = true) : ACalls Tryz.prog 91 #[.pointer (some ⟨g, Wa.length, none⟩), .int .i64 r] (upd τ g (.row (win Wa (S.cells v) Wb) wn 118)) fun u σ' => u = .tuple #[.agg noMsg.toArray, .int .i64 41] ∧ σ' = upd τ g (.row (win Wa ((S.ended 41).cells v) Wb) wn 118) := by
  obtain ⟨i0, fl, bu, sq, tr, la, er⟩ := S
  obtain rfl : bu = true := h
  have ht : decide (tr ≥ r) = true := ht
  (refine acalls_F ok91 (by simp) ?_; unfold c91 r91)
  (repeat' (first | (simp +contextual -dsimp only [*, winR, SesS.cells, SesS.view, Wr.cells, SesS.msg, Msg.cells, Bool.not_false, Bool.not_true, SesS.sent, noMsg, SesS.ended, ↓reduceIte, ↓evP, evQ, splice_nil, splice_zero, splice_skip, Nat.reduceAdd, Nat.reduceEqDiff, Nat.reduceLeDiff, Nat.reduceMul, reduceCtorEq, Int.reduceLT, Int.reduceLE, Int.reduceGT, Int.reduceGE, Int.reduceEq, Int.reduceNeg]) | (refine condF_split (fun hc => ?_) (fun hc => ?_) <;> (try simp only [Bool.not_eq_true', Bool.not_eq_false', Bool.and_eq_true, Bool.or_eq_false_iff] at hc)) | (intro _; intros) | (refine And.intro ?_ ?_; focus (first | omega | ((repeat (first | exact Sub.refl _ | (refine Sub.drop ?_ ?_; focus (simp only [evN, *]; done)) | refine Sub.both ?_)); done) | (simp_all; done) | (simp_all; omega)))))
  exact endF_det rfl (by (repeat (first | exact Sub.refl _ | (refine Sub.drop ?_ ?_; focus (simp only [evN, *]; done)) | refine Sub.both ?_)); done)
set_option maxRecDepth 100000 in
theorem again54w {τ : Hp} {Wa Wb : List Value} {wn : Nat} {g : Nat} {S : SesS} {v : Value} {ws : List Wr} (hg : τ g = none) (hr : RowsAt 52 3 Wr.cells τ v ws) (hn : ws.length * 40 ≤ 140737488355328) (r : Int) (h : S.busy = true) (ht : decide (S.tries ≥ r) = false) :
    ACalls Tryz.prog 91 #[.pointer (some ⟨g, Wa.length, none⟩), .int .i64 r] (upd τ g (.row (win Wa (S.cells v) Wb) wn 118)) fun u σ' => ∃ v' τ', u = .tuple #[.agg (S.msg v').toArray, .int .i64 0] ∧ σ' = upd τ' g (.row (win Wa (S.tried.cells v) Wb) wn 118) ∧ τ' g = none ∧ RowsAt 52 3 Wr.cells τ' v' ws ∧ Same (fun _ => False) τ τ' ∧ New τ v' := by
  obtain ⟨i0, fl, bu, sq, tr, la, er⟩ := S
  obtain rfl : bu = true := h
  have ht : decide (tr ≥ r) = false := ht
  have HR := Hid.mk hr
  obtain ⟨a, c, rfl⟩ := hr.slice
  clear hr
  (refine acalls_F ok91 (by simp) ?_; unfold c91 r91)
  (repeat' (first | (simp +contextual -dsimp only [*, winR, SesS.cells, SesS.view, Wr.cells, SesS.msg, Msg.cells, Bool.not_false, Bool.not_true, SesS.sent, noMsg, SesS.ended, ↓reduceIte, ↓evP, evQ, splice_nil, splice_zero, splice_skip, Nat.reduceAdd, Nat.reduceEqDiff, Nat.reduceLeDiff, Nat.reduceMul, reduceCtorEq, Int.reduceLT, Int.reduceLE, Int.reduceGT, Int.reduceGE, Int.reduceEq, Int.reduceNeg]) | (refine condF_split (fun hc => ?_) (fun hc => ?_) <;> (try simp only [Bool.not_eq_true', Bool.not_eq_false', Bool.and_eq_true, Bool.or_eq_false_iff] at hc)) | (intro _; intros) | (refine And.intro ?_ ?_; focus (first | omega | ((repeat (first | exact Sub.refl _ | (refine Sub.drop ?_ ?_; focus (simp only [evN, *]; done)) | refine Sub.both ?_)); done) | (simp_all; done) | (simp_all; omega)))))
  rename_i m m1 m1' m0
  have hr2 := HR.out.fresh hg (.row (win Wa ((⟨i0, fl, true, sq, IntKind.i64.wrap (tr + 1), la, er⟩ : SesS).cells (.slice a ws.length c)) Wb) wn 118)
  refine callF_of (ACalls.beside ?_ (message76w (S := ⟨i0, fl, true, sq, IntKind.i64.wrap (tr + 1), la, er⟩) (upd_same _ _ _) hr2 hn)) ?_
  · (simp only [evN, *]; done)
  rintro u σ'' ⟨s2, ⟨v', rfl, hR3, hM3⟩, n2, rfl⟩
  obtain ⟨a3, c3, rfl⟩ := hR3.slice
  have HR3 := Hid.mk hR3
  have HM3 := Hid.mk hM3
  clear hR3 hM3
  simp +contextual -dsimp only [*, winR, SesS.cells, SesS.view, Wr.cells, SesS.msg, Msg.cells, Bool.not_false, Bool.not_true, SesS.sent, noMsg, SesS.ended, ↓reduceIte, ↓evP, evQ, splice_nil, splice_zero, splice_skip, Nat.reduceAdd, Nat.reduceEqDiff, Nat.reduceLeDiff, Nat.reduceMul, reduceCtorEq, Int.reduceLT, Int.reduceLE, Int.reduceGT, Int.reduceGE, Int.reduceEq, Int.reduceNeg]
  have e := HM3.out.1.at (upd_same _ _ _) (fun x => x)
  refine endF_sub (τ := s2) (Sub.drop n2 (Sub.refl _)) ⟨_, off s2 g, rfl, off_upd e, off_none _ _, HR3.out.offs (New.ne HM3.out.2), off_same hg (Same.unUpd hg HM3.out.1), New.unUpd HM3.out.2⟩
set_option maxRecDepth 100000
/-- vouch/vouchlaw18.fixed -/
def c5 : C := (.seq (.reg [(rO 0 (.mv (.const (.bool false))))])
 (.seq (.reg [(rO 16 (.bld [.int .i64 (0), .int .i64 (0), .int .i64 (0), .int .i64 (0), .int .i64 (0), .int .i64 (0), .int .i64 (0), .int .i64 (0)] [(0, 1, (.const (.int .i64 1)))])),
 (rO 17 (.call 6 [(.tmp 16)])),
 (rO 1 (.mv (.tmp 17)))])
 (.seq (.seq (.reg [(rO 18 (.mv (.tmp 1))),
 (rO 19 (.eqs false .ptr (.tmp 18) (.const (.pointer none))))])
 (.cond (.tmp 19) (.seq (.reg [(rO 0 (.mv (.const (.bool false))))])
 .ret)
 .skip))
 (.seq (.reg [(rO 21 (.mv (.tmp 1))),
 (rO 22 (.call 12 [(.tmp 21)])),
 (rO 20 (.mv (.tmp 22))),
 (rO 23 (.ext 0 (.tmp 20))),
 (rO 24 (.ext 1 (.tmp 20))),
 (rO 2 (.mv (.tmp 23))),
 (rO 3 (.mv (.tmp 24)))])
 (.seq (.reg [(rO 26 (.mv (.tmp 1))),
 (rO 27 (.call 12 [(.tmp 26)])),
 (rO 25 (.mv (.tmp 27))),
 (rO 28 (.ext 0 (.tmp 25))),
 (rO 29 (.ext 1 (.tmp 25))),
 (rO 4 (.mv (.tmp 28))),
 (rO 5 (.mv (.tmp 29)))])
 (.seq (.reg [(rO 31 (.mv (.tmp 1))),
 (rO 32 (.call 14 [(.const (.string { data := #[97] })), (.const (.string { data := #[120] }))])),
 (rO 33 (.lit 52 1 3 [.string ⟨#[]⟩, .bool false, .string ⟨#[]⟩] [(0, 3, (.tmp 32))])),
 (rO 34 (.call 13 [(.tmp 31), (.const (.int .i64 0)), (.tmp 33)])),
 (rO 30 (.mv (.tmp 34))),
 (rO 35 (.ext 0 (.tmp 30))),
 (rO 36 (.ext 1 (.tmp 30))),
 (rO 6 (.new 39 [.int .i64 (0), .int .i64 (0), .int .i64 (0), .int .i64 (0), .int .i64 (0), .int .i64 (0), .string ⟨#[]⟩, .int .i64 (0), .int .i64 (0), .bool false, .string ⟨#[]⟩, .bool false, .int .i64 (0), .int .i64 (0), .slice none 0 0, .slice none 0 0])),
 ⟨none, (.st 16 (.tmp 6) (.tmp 35)), none⟩,
 (rO 7 (.mv (.tmp 36)))])
 (.seq (.reg [(rO 38 (.mv (.tmp 1))),
 (rO 39 (.bld [.int .i64 (0), .int .i64 (0), .int .i64 (0), .int .i64 (0), .int .i64 (0), .int .i64 (0), .string ⟨#[]⟩, .int .i64 (0), .int .i64 (0), .bool false, .string ⟨#[]⟩, .bool false, .int .i64 (0), .int .i64 (0), .slice none 0 0, .slice none 0 0] [(0, 1, (.const (.int .i64 2))), (5, 1, (.const (.int .i64 1))), (13, 1, (.const (.int .i64 5)))])),
 (rO 40 (.call 15 [(.tmp 38), (.tmp 39)])),
 (rO 37 (.mv (.tmp 40))),
 (rO 41 (.ext 0 (.tmp 37))),
 (rO 42 (.ext 1 (.tmp 37))),
 (rO 8 (.new 39 [.int .i64 (0), .int .i64 (0), .int .i64 (0), .int .i64 (0), .int .i64 (0), .int .i64 (0), .string ⟨#[]⟩, .int .i64 (0), .int .i64 (0), .bool false, .string ⟨#[]⟩, .bool false, .int .i64 (0), .int .i64 (0), .slice none 0 0, .slice none 0 0])),
 ⟨none, (.st 16 (.tmp 8) (.tmp 41)), none⟩,
 (rO 9 (.mv (.tmp 42)))])
 (.seq (.reg [(rO 44 (.mv (.tmp 1))),
 (rO 45 (.call 16 [(.tmp 44), (.const (.int .i64 0))])),
 (rO 43 (.mv (.tmp 45))),
 (rO 46 (.ext 0 (.tmp 43))),
 (rO 47 (.ext 1 (.tmp 43))),
 (rO 10 (.mv (.tmp 46))),
 (rO 11 (.mv (.tmp 47)))])
 (.seq (.seq (.reg [(rO 48 (.mv (.tmp 2))),
 (rO 49 (.bin .neq (.tmp 48) (.const (.int .i64 0)))),
 (rO 50 (.mv (.tmp 49))),
 ⟨(some 51), (.mv (.tmp 3)), (some (50, false))⟩,
 ⟨(some 52), (.bin .neq (.tmp 51) (.const (.int .i64 0))), (some (50, false))⟩,
 (rO 53 (.pick (.tmp 50) (.const (.bool true)) (.tmp 52))),
 (rO 54 (.mv (.tmp 53))),
 ⟨(some 55), (.mv (.tmp 4)), (some (54, false))⟩,
 ⟨(some 56), (.bin .neq (.tmp 55) (.const (.int .i64 1))), (some (54, false))⟩,
 (rO 57 (.pick (.tmp 54) (.const (.bool true)) (.tmp 56))),
 (rO 58 (.mv (.tmp 57))),
 ⟨(some 59), (.mv (.tmp 5)), (some (58, false))⟩,
 ⟨(some 60), (.bin .neq (.tmp 59) (.const (.int .i64 0))), (some (58, false))⟩,
 (rO 61 (.pick (.tmp 58) (.const (.bool true)) (.tmp 60))),
 (rO 62 (.mv (.tmp 61))),
 ⟨(some 63), (.fa 0 (.tmp 6)), (some (62, false))⟩,
 ⟨(some 64), (.ld none (.tmp 63)), (some (62, false))⟩,
 ⟨(some 65), (.bin .neq (.tmp 64) (.const (.int .i64 1))), (some (62, false))⟩,
 (rO 66 (.pick (.tmp 62) (.const (.bool true)) (.tmp 65))),
 (rO 67 (.mv (.tmp 66))),
 ⟨(some 68), (.mv (.tmp 7)), (some (67, false))⟩,
 ⟨(some 69), (.bin .neq (.tmp 68) (.const (.int .i64 0))), (some (67, false))⟩,
 (rO 70 (.pick (.tmp 67) (.const (.bool true)) (.tmp 69))),
 (rO 71 (.mv (.tmp 70))),
 ⟨(some 72), (.mv (.tmp 9)), (some (71, false))⟩,
 ⟨(some 73), (.nt (.tmp 72)), (some (71, false))⟩,
 (rO 74 (.pick (.tmp 71) (.const (.bool true)) (.tmp 73))),
 (rO 75 (.mv (.tmp 74))),
 ⟨(some 76), (.mv (.tmp 10)), (some (75, false))⟩,
 ⟨(some 77), (.bin .neq (.tmp 76) (.const (.string { data := #[116, 53, 46, 109] }))), (some (75, false))⟩,
 (rO 78 (.pick (.tmp 75) (.const (.bool true)) (.tmp 77))),
 (rO 79 (.mv (.tmp 78))),
 ⟨(some 80), (.mv (.tmp 11)), (some (79, false))⟩,
 ⟨(some 81), (.bin .neq (.tmp 80) (.const (.int .i64 0))), (some (79, false))⟩,
 (rO 82 (.pick (.tmp 79) (.const (.bool true)) (.tmp 81))),
 (rO 83 (.mv (.tmp 82))),
 ⟨(some 84), (.mv (.tmp 1)), (some (83, false))⟩,
 ⟨(some 85), (.call 17 [(.tmp 84), (.const (.int .i64 1)), (.const (.string { data := #[116, 53, 46, 109] }))]), (some (83, false))⟩,
 ⟨(some 86), (.bin .neq (.tmp 85) (.const (.int .i64 0))), (some (83, false))⟩,
 (rO 87 (.pick (.tmp 83) (.const (.bool true)) (.tmp 86)))])
 (.cond (.tmp 87) (.seq (.reg [(rO 0 (.mv (.const (.bool false))))])
 .ret)
 .skip))
 (.seq (.reg [(rO 89 (.mv (.tmp 1))),
 (rO 90 (.call 18 [(.tmp 89), (.const (.int .i64 1))])),
 (rO 88 (.mv (.tmp 90))),
 (rO 91 (.ext 0 (.tmp 88))),
 (rO 92 (.ext 1 (.tmp 88))),
 (rO 12 (.mv (.tmp 91))),
 (rO 13 (.mv (.tmp 92)))])
 (.seq (.reg [(rO 94 (.mv (.tmp 1))),
 (rO 95 (.mv (.tmp 12))),
 (rO 96 (.call 19 [(.tmp 94), (.tmp 95)])),
 (rO 93 (.mv (.tmp 96))),
 (rO 97 (.ext 0 (.tmp 93))),
 (rO 98 (.ext 1 (.tmp 93))),
 (rO 14 (.mv (.tmp 97))),
 (rO 15 (.mv (.tmp 98)))])
 (.seq (.reg [(rO 99 (.mv (.tmp 12))),
 (rO 100 (.bin .eql (.tmp 99) (.const (.int .i64 0)))),
 (rO 101 (.mv (.tmp 100))),
 ⟨(some 102), (.mv (.tmp 13)), (some (101, true))⟩,
 ⟨(some 103), (.bin .eql (.tmp 102) (.const (.int .i64 0))), (some (101, true))⟩,
 (rO 104 (.pick (.tmp 101) (.tmp 103) (.const (.bool false)))),
 (rO 105 (.mv (.tmp 104))),
 ⟨(some 106), (.mv (.tmp 14)), (some (105, true))⟩,
 ⟨(some 107), (.bin .eql (.tmp 106) (.const (.int .i64 5))), (some (105, true))⟩,
 (rO 108 (.pick (.tmp 105) (.tmp 107) (.const (.bool false)))),
 (rO 109 (.mv (.tmp 108))),
 ⟨(some 110), (.mv (.tmp 15)), (some (109, true))⟩,
 ⟨(some 111), (.bin .eql (.tmp 110) (.const (.int .i64 0))), (some (109, true))⟩,
 (rO 112 (.pick (.tmp 109) (.tmp 111) (.const (.bool false)))),
 (rO 0 (.mv (.tmp 112)))])
 .ret))))))))))))
def r5 : List RV := [.tmp 0]
theorem ok5 : FnOk Tryz.prog 5 113 c5 r5 := ⟨[40, 45], _, _, Tryz.func5, rfl, rfl, by kernel_rfl, by kernel_rfl, by kernel_rfl⟩
/-- vouch/client.New -/
def c6 : C := (.seq (.reg [(rO 1 (.box 23 (.tmp 0))),
 (rO 2 (.mv (.const (.pointer none))))])
 (.seq (.reg [(rO 3 (.ld (some 8) (.tmp 1))),
 (rO 4 (.call 20 [(.tmp 3)])),
 (rO 5 (.bld [.int .i64 (0), .int .i64 (0), .int .i64 (0), .int .i64 (0), .int .i64 (0), .int .i64 (0), .int .i64 (0), .int .i64 (0), .slice none 0 0, .slice none 0 0, .slice none 0 0] [(0, 8, (.tmp 4))])),
 (rO 6 (.box 67 (.tmp 5))),
 (rO 2 (.mv (.tmp 6)))])
 .ret))
def r6 : List RV := [.tmp 2]
theorem ok6 : FnOk Tryz.prog 6 7 c6 r6 := ⟨[40, 45], _, _, Tryz.func6, rfl, rfl, by kernel_rfl, by kernel_rfl, by kernel_rfl⟩
/-- (*vouch/client.Client).Open -/
def c12 : C := (.seq (.reg [(rO 2 (.mv (.const (.int .i64 0)))),
 (rO 3 (.mv (.const (.int .i64 0))))])
 (.seq (.block 0 (.seq (.reg [(rO 6 (.mv (.tmp 0))),
 (rO 7 (.eqs false .ptr (.tmp 6) (.const (.pointer none)))),
 (rO 5 (.mv (.tmp 7)))])
 (.cond (.tmp 5) (.seq (.reg [(rO 2 (.mv (.const (.int .i64 0)))),
 (rO 3 (.mv (.const (.int .i64 3))))])
 .ret)
 (.seq (.reg [(rO 9 (.mv (.tmp 0))),
 (rO 10 (.nilc (.tmp 9))),
 (rO 11 (.fa 8 (.tmp 10))),
 (rO 12 (.ld none (.tmp 11))),
 (rO 13 (.len true (.tmp 12))),
 (rO 14 (.bin .geq (.tmp 13) (.const (.int .i64 64)))),
 (rO 8 (.mv (.tmp 14)))])
 (.cond (.tmp 8) (.seq (.reg [(rO 2 (.mv (.const (.int .i64 0)))),
 (rO 3 (.mv (.const (.int .i64 2))))])
 .ret)
 .skip)))))
 (.seq (.reg [(rO 15 (.mv (.tmp 0))),
 (rO 16 (.nilc (.tmp 15))),
 (rO 17 (.fa 8 (.tmp 16))),
 (rO 18 (.ld none (.tmp 17))),
 (rO 19 (.len true (.tmp 18))),
 (rO 4 (.mv (.tmp 19)))])
 (.seq (.draw [⟨(rO 20 (.mv (.tmp 0))), .p⟩,
 ⟨(rO 21 (.mv (.tmp 0))), .p⟩,
 ⟨(rO 22 (.nilc (.tmp 21))), .p⟩,
 ⟨(rO 23 (.fa 8 (.tmp 22))), .p⟩,
 ⟨(rO 24 (.ld none (.tmp 23))), .l⟩,
 ⟨(rO 25 (.mv (.tmp 4))), .p⟩,
 ⟨(rO 26 (.call 37 [(.tmp 25)])), .g⟩,
 ⟨(rO 27 (.lit 92 1 1 [.pointer none] [(0, 1, (.tmp 26))])), .f⟩,
 ⟨(rO 28 (.app 92 1 8 (.tmp 24) (.tmp 27))), .m⟩,
 ⟨(rO 29 (.nilc (.tmp 20))), .p⟩,
 ⟨(rO 30 (.fa 8 (.tmp 29))), .p⟩,
 ⟨⟨none, (.st 1 (.tmp 30) (.tmp 28)), none⟩, .m⟩])
 (.seq (.reg [(rO 31 (.mv (.tmp 4))),
 (rO 2 (.mv (.tmp 31))),
 (rO 3 (.mv (.const (.int .i64 0))))])
 .ret)))))
def r12 : List RV := [.tmp 2, .tmp 3]
theorem ok12 : FnOk Tryz.prog 12 32 c12 r12 := ⟨[40, 45], _, _, Tryz.func12, rfl, rfl, by kernel_rfl, by kernel_rfl, by kernel_rfl⟩
/-- (*vouch/client.Client).Commit -/
def c13 : C := (.seq (.reg [(rO 6 (.new 39 [.int .i64 (0), .int .i64 (0), .int .i64 (0), .int .i64 (0), .int .i64 (0), .int .i64 (0), .string ⟨#[]⟩, .int .i64 (0), .int .i64 (0), .bool false, .string ⟨#[]⟩, .bool false, .int .i64 (0), .int .i64 (0), .slice none 0 0, .slice none 0 0])),
 (rO 7 (.mv (.const (.int .i64 0))))])
 (.seq (.reg [(rO 8 (.mv (.tmp 0))),
 (rO 9 (.mv (.tmp 1))),
 (rO 10 (.call 38 [(.tmp 8), (.tmp 9)])),
 (rO 11 (.mv (.tmp 2))),
 (rO 12 (.call 39 [(.tmp 10), (.tmp 11)])),
 (rO 13 (.ext 0 (.tmp 12))),
 (rO 14 (.ext 1 (.tmp 12))),
 ⟨none, (.st 16 (.tmp 6) (.tmp 13)), none⟩,
 (rO 7 (.mv (.tmp 14)))])
 .ret))
def r13 : List RV := [.agg 6 16, .tmp 7]
theorem ok13 : FnOk Tryz.prog 13 15 c13 r13 := ⟨[40, 45], _, _, Tryz.func13, rfl, rfl, by kernel_rfl, by kernel_rfl, by kernel_rfl⟩
/-- (*vouch/client.Client).Hear -/
def c15 : C := (.seq (.reg [(rO 3 (.box 39 (.tmp 1))),
 (rO 4 (.new 39 [.int .i64 (0), .int .i64 (0), .int .i64 (0), .int .i64 (0), .int .i64 (0), .int .i64 (0), .string ⟨#[]⟩, .int .i64 (0), .int .i64 (0), .bool false, .string ⟨#[]⟩, .bool false, .int .i64 (0), .int .i64 (0), .slice none 0 0, .slice none 0 0])),
 (rO 5 (.mv (.const (.bool false))))])
 (.seq (.seq (.reg [(rO 6 (.fa 0 (.tmp 3))),
 (rO 7 (.ld none (.tmp 6))),
 (rO 8 (.bin .eql (.tmp 7) (.const (.int .i64 2))))])
 (.cond (.tmp 8) (.seq (.draw [⟨(rO 9 (.bld [.int .i64 (0), .int .i64 (0), .int .i64 (0), .int .i64 (0), .int .i64 (0), .int .i64 (0), .string ⟨#[]⟩, .int .i64 (0), .int .i64 (0), .bool false, .string ⟨#[]⟩, .bool false, .int .i64 (0), .int .i64 (0), .slice none 0 0, .slice none 0 0] [])), .p⟩,
 ⟨(rO 10 (.mv (.tmp 0))), .p⟩,
 ⟨(rO 11 (.fa 3 (.tmp 3))), .p⟩,
 ⟨(rO 12 (.ld none (.tmp 11))), .l⟩,
 ⟨(rO 13 (.call 38 [(.tmp 10), (.tmp 12)])), .g⟩,
 ⟨(rO 14 (.ld (some 16) (.tmp 3))), .l⟩,
 ⟨(rO 15 (.call 40 [(.tmp 13), (.tmp 14)])), .m⟩,
 ⟨⟨none, (.st 16 (.tmp 4) (.tmp 9)), none⟩, .m⟩,
 ⟨(rO 5 (.mv (.tmp 15))), .p⟩])
 .ret)
 .skip))
 (.seq (.draw [⟨(rO 16 (.mv (.tmp 0))), .p⟩,
 ⟨(rO 17 (.fa 4 (.tmp 3))), .p⟩,
 ⟨(rO 18 (.ld none (.tmp 17))), .l⟩,
 ⟨(rO 19 (.call 41 [(.tmp 16), (.tmp 18)])), .g⟩,
 ⟨(rO 20 (.fld none 0 (.tmp 19))), .p⟩,
 ⟨(rO 21 (.ld (some 16) (.tmp 3))), .l⟩,
 ⟨(rO 22 (.call 42 [(.tmp 20), (.tmp 21)])), .m⟩,
 ⟨(rO 23 (.ext 0 (.tmp 22))), .p⟩,
 ⟨(rO 24 (.ext 1 (.tmp 22))), .p⟩,
 ⟨⟨none, (.st 16 (.tmp 4) (.tmp 23)), none⟩, .m⟩,
 ⟨(rO 5 (.mv (.tmp 24))), .p⟩])
 .ret)))
def r15 : List RV := [.agg 4 16, .tmp 5]
theorem ok15 : FnOk Tryz.prog 15 25 c15 r15 := ⟨[40, 45], _, _, Tryz.func15, rfl, rfl, by kernel_rfl, by kernel_rfl, by kernel_rfl⟩
/-- (*vouch/client.Client).Token -/
def c16 : C := (.seq (.reg [(rO 4 (.mv (.const (.string { data := #[] })))),
 (rO 5 (.mv (.const (.int .i64 0))))])
 (.seq (.reg [(rO 7 (.mv (.tmp 0))),
 (rO 8 (.mv (.tmp 1))),
 (rO 9 (.call 38 [(.tmp 7), (.tmp 8)])),
 (rO 6 (.mv (.tmp 9)))])
 (.seq (.seq (.reg [(rO 10 (.mv (.tmp 6))),
 (rO 11 (.eqs false .ptr (.tmp 10) (.const (.pointer none))))])
 (.cond (.tmp 11) (.seq (.reg [(rO 4 (.mv (.const (.string { data := #[] })))),
 (rO 5 (.mv (.const (.int .i64 3))))])
 .ret)
 .skip))
 (.seq (.reg [(rO 12 (.mv (.tmp 6))),
 (rO 13 (.call 44 [(.tmp 12)])),
 (rO 14 (.call 43 [(.tmp 13)])),
 (rO 15 (.ext 0 (.tmp 14))),
 (rO 16 (.ext 1 (.tmp 14))),
 (rO 4 (.mv (.tmp 15))),
 (rO 5 (.mv (.tmp 16)))])
 .ret))))
def r16 : List RV := [.tmp 4, .tmp 5]
theorem ok16 : FnOk Tryz.prog 16 17 c16 r16 := ⟨[40, 45], _, _, Tryz.func16, rfl, rfl, by kernel_rfl, by kernel_rfl, by kernel_rfl⟩
/-- (*vouch/client.Client).Join -/
def c17 : C := (.seq (.reg [(rO 6 (.mv (.const (.int .i64 0))))])
 (.seq (.reg [(rO 7 (.mv (.tmp 0))),
 (rO 8 (.mv (.tmp 1))),
 (rO 9 (.call 38 [(.tmp 7), (.tmp 8)])),
 (rO 10 (.mv (.tmp 2))),
 (rO 11 (.call 45 [(.tmp 9), (.tmp 10)])),
 (rO 6 (.mv (.tmp 11)))])
 .ret))
def r17 : List RV := [.tmp 6]
theorem ok17 : FnOk Tryz.prog 17 12 c17 r17 := ⟨[40, 45], _, _, Tryz.func17, rfl, rfl, by kernel_rfl, by kernel_rfl, by kernel_rfl⟩
/-- (*vouch/client.Client).Begin -/
def c18 : C := (.seq (.reg [(rO 4 (.mv (.const (.int .i64 0)))),
 (rO 5 (.mv (.const (.int .i64 0))))])
 (.seq (.reg [(rO 8 (.mv (.tmp 0))),
 (rO 9 (.mv (.tmp 1))),
 (rO 10 (.call 38 [(.tmp 8), (.tmp 9)])),
 (rO 6 (.mv (.tmp 10)))])
 (.seq (.block 0 (.seq (.reg [(rO 12 (.mv (.tmp 6))),
 (rO 13 (.eqs false .ptr (.tmp 12) (.const (.pointer none)))),
 (rO 11 (.mv (.tmp 13)))])
 (.cond (.tmp 11) (.seq (.reg [(rO 4 (.mv (.const (.int .i64 0)))),
 (rO 5 (.mv (.const (.int .i64 3))))])
 .ret)
 (.seq (.reg [(rO 15 (.mv (.tmp 0))),
 (rO 16 (.nilc (.tmp 15))),
 (rO 17 (.fa 9 (.tmp 16))),
 (rO 18 (.ld none (.tmp 17))),
 (rO 19 (.len true (.tmp 18))),
 (rO 20 (.bin .geq (.tmp 19) (.const (.int .i64 256)))),
 (rO 14 (.mv (.tmp 20)))])
 (.cond (.tmp 14) (.seq (.reg [(rO 4 (.mv (.const (.int .i64 0)))),
 (rO 5 (.mv (.const (.int .i64 2))))])
 .ret)
 .skip)))))
 (.seq (.reg [(rO 21 (.mv (.tmp 0))),
 (rO 22 (.nilc (.tmp 21))),
 (rO 23 (.fa 9 (.tmp 22))),
 (rO 24 (.ld none (.tmp 23))),
 (rO 25 (.len true (.tmp 24))),
 (rO 7 (.mv (.tmp 25)))])
 (.seq (.draw [⟨(rO 26 (.mv (.tmp 0))), .p⟩,
 ⟨(rO 27 (.mv (.tmp 0))), .p⟩,
 ⟨(rO 28 (.nilc (.tmp 27))), .p⟩,
 ⟨(rO 29 (.fa 9 (.tmp 28))), .p⟩,
 ⟨(rO 30 (.ld none (.tmp 29))), .l⟩,
 ⟨(rO 31 (.mv (.tmp 7))), .p⟩,
 ⟨(rO 32 (.mv (.tmp 0))), .p⟩,
 ⟨(rO 33 (.nilc (.tmp 32))), .p⟩,
 ⟨(rO 34 (.fa 0 (.tmp 33))), .p⟩,
 ⟨(rO 35 (.fa 0 (.tmp 34))), .p⟩,
 ⟨(rO 36 (.ld none (.tmp 35))), .l⟩,
 ⟨(rO 37 (.mv (.tmp 6))), .p⟩,
 ⟨(rO 38 (.call 44 [(.tmp 37)])), .g⟩,
 ⟨(rO 39 (.call 46 [(.tmp 31), (.tmp 36), (.tmp 38)])), .g⟩,
 ⟨(rO 40 (.mv (.tmp 6))), .p⟩,
 ⟨(rO 41 (.bld [.pointer none, .pointer none] [(0, 1, (.tmp 39)), (1, 1, (.tmp 40))])), .p⟩,
 ⟨(rO 42 (.lit 96 1 2 [.pointer none, .pointer none] [(0, 2, (.tmp 41))])), .f⟩,
 ⟨(rO 43 (.app 96 2 16 (.tmp 30) (.tmp 42))), .m⟩,
 ⟨(rO 44 (.nilc (.tmp 26))), .p⟩,
 ⟨(rO 45 (.fa 9 (.tmp 44))), .p⟩,
 ⟨⟨none, (.st 1 (.tmp 45) (.tmp 43)), none⟩, .m⟩])
 (.seq (.reg [(rO 46 (.mv (.tmp 0))),
 (rO 47 (.mv (.tmp 0))),
 (rO 48 (.nilc (.tmp 47))),
 (rO 49 (.fa 10 (.tmp 48))),
 (rO 50 (.ld none (.tmp 49))),
 (rO 51 (.mv (.tmp 1))),
 (rO 52 (.lit 3 1 1 [.int .i64 (0)] [(0, 1, (.tmp 51))])),
 (rO 53 (.app 3 1 8 (.tmp 50) (.tmp 52))),
 (rO 54 (.nilc (.tmp 46))),
 (rO 55 (.fa 10 (.tmp 54))),
 ⟨none, (.st 1 (.tmp 55) (.tmp 53)), none⟩])
 (.seq (.reg [(rO 56 (.mv (.tmp 7))),
 (rO 4 (.mv (.tmp 56))),
 (rO 5 (.mv (.const (.int .i64 0))))])
 .ret)))))))
def r18 : List RV := [.tmp 4, .tmp 5]
theorem ok18 : FnOk Tryz.prog 18 57 c18 r18 := ⟨[40, 45], _, _, Tryz.func18, rfl, rfl, by kernel_rfl, by kernel_rfl, by kernel_rfl⟩
/-- (*vouch/client.Client).Finish -/
def c19 : C := (.seq (.reg [(rO 4 (.mv (.const (.int .i64 0)))),
 (rO 5 (.mv (.const (.int .i64 0))))])
 (.seq (.reg [(rO 9 (.mv (.tmp 0))),
 (rO 10 (.mv (.tmp 1))),
 (rO 11 (.call 41 [(.tmp 9), (.tmp 10)])),
 (rO 6 (.new 96 [.pointer none, .pointer none])),
 ⟨none, (.st 2 (.tmp 6) (.tmp 11)), none⟩])
 (.seq (.reg [(rO 13 (.fa 0 (.tmp 6))),
 (rO 14 (.ld none (.tmp 13))),
 (rO 15 (.call 47 [(.tmp 14)])),
 (rO 12 (.mv (.tmp 15))),
 (rO 16 (.ext 0 (.tmp 12))),
 (rO 17 (.ext 1 (.tmp 12))),
 (rO 7 (.mv (.tmp 16))),
 (rO 8 (.mv (.tmp 17)))])
 (.seq (.seq (.reg [(rO 18 (.mv (.tmp 8))),
 (rO 19 (.bin .eql (.tmp 18) (.const (.int .i64 0))))])
 (.cond (.tmp 19) (.reg [(rO 20 (.fa 1 (.tmp 6))),
 (rO 21 (.ld none (.tmp 20))),
 (rO 22 (.mv (.tmp 7))),
 (rO 23 (.call 48 [(.tmp 21), (.tmp 22)]))])
 .skip))
 (.seq (.reg [(rO 24 (.mv (.tmp 7))),
 (rO 25 (.mv (.tmp 8))),
 (rO 4 (.mv (.tmp 24))),
 (rO 5 (.mv (.tmp 25)))])
 .ret)))))
def r19 : List RV := [.tmp 4, .tmp 5]
theorem ok19 : FnOk Tryz.prog 19 26 c19 r19 := ⟨[40, 45], _, _, Tryz.func19, rfl, rfl, by kernel_rfl, by kernel_rfl, by kernel_rfl⟩
/-- vouch/fact.Held -/
def c20 : C := (.seq (.reg [(rO 1 (.box 23 (.tmp 0))),
 (rO 2 (.new 23 [.int .i64 (0), .int .i64 (0), .int .i64 (0), .int .i64 (0), .int .i64 (0), .int .i64 (0), .int .i64 (0), .int .i64 (0)]))])
 (.seq (.reg [(rO 3 (.mv (.func 49)))])
 (.seq (.draw [⟨(rO 4 (.mv (.tmp 3))), .p⟩,
 ⟨(rO 5 (.fa 0 (.tmp 1))), .p⟩,
 ⟨(rO 6 (.ld none (.tmp 5))), .l⟩,
 ⟨(rO 7 (.callv (.tmp 4) [(.tmp 6), (.const (.int .i64 8)), (.const (.int .i64 1))])), .c⟩,
 ⟨(rO 8 (.mv (.tmp 3))), .p⟩,
 ⟨(rO 9 (.fa 1 (.tmp 1))), .p⟩,
 ⟨(rO 10 (.ld none (.tmp 9))), .l⟩,
 ⟨(rO 11 (.callv (.tmp 8) [(.tmp 10), (.const (.int .i64 1048576)), (.const (.int .i64 0))])), .c⟩,
 ⟨(rO 12 (.mv (.tmp 3))), .p⟩,
 ⟨(rO 13 (.fa 2 (.tmp 1))), .p⟩,
 ⟨(rO 14 (.ld none (.tmp 13))), .l⟩,
 ⟨(rO 15 (.callv (.tmp 12) [(.tmp 14), (.const (.int .i64 64)), (.const (.int .i64 1))])), .c⟩,
 ⟨(rO 16 (.mv (.tmp 3))), .p⟩,
 ⟨(rO 17 (.fa 3 (.tmp 1))), .p⟩,
 ⟨(rO 18 (.ld none (.tmp 17))), .l⟩,
 ⟨(rO 19 (.callv (.tmp 16) [(.tmp 18), (.const (.int .i64 256)), (.const (.int .i64 0))])), .c⟩,
 ⟨(rO 20 (.mv (.tmp 3))), .p⟩,
 ⟨(rO 21 (.fa 4 (.tmp 1))), .p⟩,
 ⟨(rO 22 (.ld none (.tmp 21))), .l⟩,
 ⟨(rO 23 (.callv (.tmp 20) [(.tmp 22), (.const (.int .i64 1024)), (.const (.int .i64 0))])), .c⟩,
 ⟨(rO 24 (.mv (.tmp 3))), .p⟩,
 ⟨(rO 25 (.fa 5 (.tmp 1))), .p⟩,
 ⟨(rO 26 (.ld none (.tmp 25))), .l⟩,
 ⟨(rO 27 (.callv (.tmp 24) [(.tmp 26), (.const (.int .i64 64)), (.const (.int .i64 1))])), .c⟩,
 ⟨(rO 28 (.mv (.tmp 3))), .p⟩,
 ⟨(rO 29 (.fa 6 (.tmp 1))), .p⟩,
 ⟨(rO 30 (.ld none (.tmp 29))), .l⟩,
 ⟨(rO 31 (.callv (.tmp 28) [(.tmp 30), (.const (.int .i64 256)), (.const (.int .i64 0))])), .c⟩,
 ⟨(rO 32 (.mv (.tmp 3))), .p⟩,
 ⟨(rO 33 (.fa 7 (.tmp 1))), .p⟩,
 ⟨(rO 34 (.ld none (.tmp 33))), .l⟩,
 ⟨(rO 35 (.callv (.tmp 32) [(.tmp 34), (.const (.int .i64 16)), (.const (.int .i64 0))])), .m⟩,
 ⟨(rO 36 (.bld [.int .i64 (0), .int .i64 (0), .int .i64 (0), .int .i64 (0), .int .i64 (0), .int .i64 (0), .int .i64 (0), .int .i64 (0)] [(0, 1, (.tmp 7)), (1, 1, (.tmp 11)), (2, 1, (.tmp 15)), (3, 1, (.tmp 19)), (4, 1, (.tmp 23)), (5, 1, (.tmp 27)), (6, 1, (.tmp 31)), (7, 1, (.tmp 35))])), .p⟩,
 ⟨⟨none, (.st 8 (.tmp 2) (.tmp 36)), none⟩, .m⟩])
 .ret)))
def r20 : List RV := [.agg 2 8]
theorem ok20 : FnOk Tryz.prog 20 37 c20 r20 := ⟨[40, 45], _, _, Tryz.func20, rfl, rfl, by kernel_rfl, by kernel_rfl, by kernel_rfl⟩
/-- (*vouch/client.Client).Read -/
def c22 : C := (.seq (.reg [(rO 6 (.new 35 [.bool false, .string ⟨#[]⟩])),
 (rO 7 (.new 39 [.int .i64 (0), .int .i64 (0), .int .i64 (0), .int .i64 (0), .int .i64 (0), .int .i64 (0), .string ⟨#[]⟩, .int .i64 (0), .int .i64 (0), .bool false, .string ⟨#[]⟩, .bool false, .int .i64 (0), .int .i64 (0), .slice none 0 0, .slice none 0 0])),
 (rO 8 (.mv (.const (.int .i64 0))))])
 (.seq (.reg [(rO 9 (.mv (.tmp 0))),
 (rO 10 (.mv (.tmp 1))),
 (rO 11 (.call 41 [(.tmp 9), (.tmp 10)])),
 (rO 12 (.fld none 0 (.tmp 11))),
 (rO 13 (.mv (.tmp 2))),
 (rO 14 (.call 51 [(.tmp 12), (.tmp 13)])),
 (rO 15 (.ext 0 (.tmp 14))),
 (rO 16 (.ext 1 (.tmp 14))),
 (rO 17 (.ext 2 (.tmp 14))),
 ⟨none, (.st 2 (.tmp 6) (.tmp 15)), none⟩,
 ⟨none, (.st 16 (.tmp 7) (.tmp 16)), none⟩,
 (rO 8 (.mv (.tmp 17)))])
 .ret))
def r22 : List RV := [.agg 6 2, .agg 7 16, .tmp 8]
theorem ok22 : FnOk Tryz.prog 22 18 c22 r22 := ⟨[40, 45], _, _, Tryz.func22, rfl, rfl, by kernel_rfl, by kernel_rfl, by kernel_rfl⟩
/-- (*vouch/client.Client).Retry -/
def c25 : C := (.seq (.reg [(rO 4 (.new 39 [.int .i64 (0), .int .i64 (0), .int .i64 (0), .int .i64 (0), .int .i64 (0), .int .i64 (0), .string ⟨#[]⟩, .int .i64 (0), .int .i64 (0), .bool false, .string ⟨#[]⟩, .bool false, .int .i64 (0), .int .i64 (0), .slice none 0 0, .slice none 0 0])),
 (rO 5 (.mv (.const (.int .i64 0))))])
 (.seq (.reg [(rO 6 (.mv (.tmp 0))),
 (rO 7 (.mv (.tmp 1))),
 (rO 8 (.call 41 [(.tmp 6), (.tmp 7)])),
 (rO 9 (.fld none 0 (.tmp 8))),
 (rO 10 (.mv (.tmp 0))),
 (rO 11 (.call 56 [(.tmp 10)])),
 (rO 12 (.call 55 [(.tmp 9), (.tmp 11)])),
 (rO 13 (.ext 0 (.tmp 12))),
 (rO 14 (.ext 1 (.tmp 12))),
 ⟨none, (.st 16 (.tmp 4) (.tmp 13)), none⟩,
 (rO 5 (.mv (.tmp 14)))])
 .ret))
def r25 : List RV := [.agg 4 16, .tmp 5]
theorem ok25 : FnOk Tryz.prog 25 15 c25 r25 := ⟨[40, 45], _, _, Tryz.func25, rfl, rfl, by kernel_rfl, by kernel_rfl, by kernel_rfl⟩
/-- (*vouch/client.Client).Session -/
def c30 : C := (.seq (.reg [(rO 4 (.new 83 [.int .i64 (0), .bool false, .int .i64 (0), .int .i64 (0), .int .i64 (0), .int .i64 (0)])),
 (rO 5 (.mv (.const (.bool false))))])
 (.seq (.reg [(rO 7 (.mv (.tmp 0))),
 (rO 8 (.mv (.tmp 1))),
 (rO 9 (.call 38 [(.tmp 7), (.tmp 8)])),
 (rO 6 (.mv (.tmp 9)))])
 (.seq (.reg [(rO 10 (.mv (.tmp 6))),
 (rO 11 (.call 70 [(.tmp 10)])),
 (rO 12 (.mv (.tmp 6))),
 (rO 13 (.eqs true .ptr (.tmp 12) (.const (.pointer none)))),
 ⟨none, (.st 6 (.tmp 4) (.tmp 11)), none⟩,
 (rO 5 (.mv (.tmp 13)))])
 .ret)))
def r30 : List RV := [.agg 4 6, .tmp 5]
theorem ok30 : FnOk Tryz.prog 30 14 c30 r30 := ⟨[40, 45], _, _, Tryz.func30, rfl, rfl, by kernel_rfl, by kernel_rfl, by kernel_rfl⟩
/-- (*vouch/client.Client).Tx -/
def c32 : C := (.seq (.reg [(rO 4 (.new 88 [.int .i64 (0), .int .i64 (0), .int .i64 (0), .int .i64 (0), .string ⟨#[]⟩, .int .i64 (0), .int .i64 (0), .slice none 0 0])),
 (rO 5 (.mv (.const (.bool false))))])
 (.seq (.reg [(rO 7 (.mv (.tmp 0))),
 (rO 8 (.mv (.tmp 1))),
 (rO 9 (.call 41 [(.tmp 7), (.tmp 8)])),
 (rO 6 (.new 96 [.pointer none, .pointer none])),
 ⟨none, (.st 2 (.tmp 6) (.tmp 9)), none⟩])
 (.seq (.drawx [⟨(rO 10 (.fa 0 (.tmp 6))), .p⟩,
 ⟨(rO 11 (.ld none (.tmp 10))), .l⟩,
 ⟨(rO 12 (.call 71 [(.tmp 11)])), .g⟩,
 ⟨(rO 13 (.fa 0 (.tmp 6))), .p⟩,
 ⟨(rO 14 (.ld none (.tmp 13))), .l⟩,
 ⟨(rO 15 (.eqs true .ptr (.tmp 14) (.const (.pointer none)))), .p⟩,
 ⟨⟨none, (.st 8 (.tmp 4) (.tmp 12)), none⟩, .w⟩,
 ⟨(rO 5 (.mv (.tmp 15))), .p⟩])
 .ret)))
def r32 : List RV := [.agg 4 8, .tmp 5]
theorem ok32 : FnOk Tryz.prog 32 16 c32 r32 := ⟨[40, 45, 999999], _, _, Tryz.func32, rfl, rfl, by kernel_rfl, by kernel_rfl, by kernel_rfl⟩
/-- (*vouch/tx.Tx).Clone -/
def c36 : C := (.seq (.reg [(rO 2 (.mv (.const (.pointer none))))])
 (.seq (.seq (.reg [(rO 3 (.mv (.tmp 0))),
 (rO 4 (.eqs false .ptr (.tmp 3) (.const (.pointer none))))])
 (.cond (.tmp 4) (.seq (.reg [(rO 2 (.mv (.const (.pointer none))))])
 .ret)
 .skip))
 (.seq (.draw [⟨(rO 5 (.mv (.tmp 0))), .p⟩,
 ⟨(rO 6 (.nilc (.tmp 5))), .p⟩,
 ⟨(rO 7 (.fa 0 (.tmp 6))), .p⟩,
 ⟨(rO 8 (.ld none (.tmp 7))), .l⟩,
 ⟨(rO 9 (.mv (.tmp 0))), .p⟩,
 ⟨(rO 10 (.nilc (.tmp 9))), .p⟩,
 ⟨(rO 11 (.fa 1 (.tmp 10))), .p⟩,
 ⟨(rO 12 (.ld none (.tmp 11))), .l⟩,
 ⟨(rO 13 (.mv (.tmp 0))), .p⟩,
 ⟨(rO 14 (.call 71 [(.tmp 13)])), .g⟩,
 ⟨(rO 15 (.bld [.int .i64 (0), .int .i64 (0), .int .i64 (0), .int .i64 (0), .int .i64 (0), .int .i64 (0), .string ⟨#[]⟩, .int .i64 (0), .int .i64 (0), .slice none 0 0] [(0, 1, (.tmp 8)), (1, 1, (.tmp 12)), (2, 8, (.tmp 14))])), .p⟩,
 ⟨(rO 16 (.box 133 (.tmp 15))), .f⟩,
 ⟨(rO 2 (.mv (.tmp 16))), .p⟩])
 .ret)))
def r36 : List RV := [.tmp 2]
theorem ok36 : FnOk Tryz.prog 36 17 c36 r36 := ⟨[40, 45], _, _, Tryz.func36, rfl, rfl, by kernel_rfl, by kernel_rfl, by kernel_rfl⟩
/-- (*vouch/client.Client).session -/
def c38 : C := (.seq (.reg [(rO 4 (.mv (.const (.pointer none))))])
 (.seq (.seq (.reg [(rO 5 (.mv (.tmp 0))),
 (rO 6 (.eqs false .ptr (.tmp 5) (.const (.pointer none)))),
 (rO 7 (.mv (.tmp 6))),
 ⟨(some 8), (.mv (.tmp 1)), (some (7, false))⟩,
 ⟨(some 9), (.bin .lss (.tmp 8) (.const (.int .i64 0))), (some (7, false))⟩,
 (rO 10 (.pick (.tmp 7) (.const (.bool true)) (.tmp 9))),
 (rO 11 (.mv (.tmp 10))),
 ⟨(some 12), (.mv (.tmp 1)), (some (11, false))⟩,
 ⟨(some 13), (.mv (.tmp 0)), (some (11, false))⟩,
 ⟨(some 14), (.nilc (.tmp 13)), (some (11, false))⟩,
 ⟨(some 15), (.fa 8 (.tmp 14)), (some (11, false))⟩,
 ⟨(some 16), (.ld none (.tmp 15)), (some (11, false))⟩,
 ⟨(some 17), (.len true (.tmp 16)), (some (11, false))⟩,
 ⟨(some 18), (.bin .geq (.tmp 12) (.tmp 17)), (some (11, false))⟩,
 (rO 19 (.pick (.tmp 11) (.const (.bool true)) (.tmp 18)))])
 (.cond (.tmp 19) (.seq (.reg [(rO 4 (.mv (.const (.pointer none))))])
 .ret)
 .skip))
 (.seq (.reg [(rO 20 (.mv (.tmp 0))),
 (rO 21 (.nilc (.tmp 20))),
 (rO 22 (.fa 8 (.tmp 21))),
 (rO 23 (.ld none (.tmp 22))),
 (rO 24 (.mv (.tmp 1))),
 (rO 25 (.ia 1 (.tmp 23) (.tmp 24))),
 (rO 26 (.ld none (.tmp 25))),
 (rO 4 (.mv (.tmp 26)))])
 .ret)))
def r38 : List RV := [.tmp 4]
theorem ok38 : FnOk Tryz.prog 38 27 c38 r38 := ⟨[40, 45], _, _, Tryz.func38, rfl, rfl, by kernel_rfl, by kernel_rfl, by kernel_rfl⟩
/-- (*vouch/client.Client).tx -/
def c41 : C := (.seq (.reg [(rO 4 (.new 96 [.pointer none, .pointer none]))])
 (.seq (.seq (.reg [(rO 5 (.mv (.tmp 0))),
 (rO 6 (.eqs false .ptr (.tmp 5) (.const (.pointer none)))),
 (rO 7 (.mv (.tmp 6))),
 ⟨(some 8), (.mv (.tmp 1)), (some (7, false))⟩,
 ⟨(some 9), (.bin .lss (.tmp 8) (.const (.int .i64 0))), (some (7, false))⟩,
 (rO 10 (.pick (.tmp 7) (.const (.bool true)) (.tmp 9))),
 (rO 11 (.mv (.tmp 10))),
 ⟨(some 12), (.mv (.tmp 1)), (some (11, false))⟩,
 ⟨(some 13), (.mv (.tmp 0)), (some (11, false))⟩,
 ⟨(some 14), (.nilc (.tmp 13)), (some (11, false))⟩,
 ⟨(some 15), (.fa 9 (.tmp 14)), (some (11, false))⟩,
 ⟨(some 16), (.ld none (.tmp 15)), (some (11, false))⟩,
 ⟨(some 17), (.len true (.tmp 16)), (some (11, false))⟩,
 ⟨(some 18), (.bin .geq (.tmp 12) (.tmp 17)), (some (11, false))⟩,
 (rO 19 (.pick (.tmp 11) (.const (.bool true)) (.tmp 18)))])
 (.cond (.tmp 19) (.seq (.reg [(rO 20 (.bld [.pointer none, .pointer none] [])),
 ⟨none, (.st 2 (.tmp 4) (.tmp 20)), none⟩])
 .ret)
 .skip))
 (.seq (.reg [(rO 21 (.mv (.tmp 0))),
 (rO 22 (.nilc (.tmp 21))),
 (rO 23 (.fa 9 (.tmp 22))),
 (rO 24 (.ld none (.tmp 23))),
 (rO 25 (.mv (.tmp 1))),
 (rO 26 (.ia 2 (.tmp 24) (.tmp 25))),
 (rO 27 (.ld (some 2) (.tmp 26))),
 ⟨none, (.st 2 (.tmp 4) (.tmp 27)), none⟩])
 .ret)))
def r41 : List RV := [.agg 4 2]
theorem ok41 : FnOk Tryz.prog 41 28 c41 r41 := ⟨[40, 45], _, _, Tryz.func41, rfl, rfl, by kernel_rfl, by kernel_rfl, by kernel_rfl⟩
/-- (*vouch/tx.Tx).Hear -/
def c42 : C := (.seq (.reg [(rO 3 (.box 39 (.tmp 1))),
 (rO 4 (.new 39 [.int .i64 (0), .int .i64 (0), .int .i64 (0), .int .i64 (0), .int .i64 (0), .int .i64 (0), .string ⟨#[]⟩, .int .i64 (0), .int .i64 (0), .bool false, .string ⟨#[]⟩, .bool false, .int .i64 (0), .int .i64 (0), .slice none 0 0, .slice none 0 0])),
 (rO 5 (.mv (.const (.bool false))))])
 (.seq (.seq (.draw [⟨(rO 6 (.mv (.tmp 0))), .p⟩,
 ⟨(rO 7 (.eqs false .ptr (.tmp 6) (.const (.pointer none)))), .p⟩,
 ⟨(rO 8 (.mv (.tmp 7))), .p⟩,
 ⟨⟨(some 9), (.mv (.tmp 0)), (some (8, false))⟩, .p⟩,
 ⟨⟨(some 10), (.call 77 [(.tmp 9)]), (some (8, false))⟩, .m⟩,
 ⟨⟨(some 11), (.nt (.tmp 10)), (some (8, false))⟩, .p⟩,
 ⟨(rO 12 (.pick (.tmp 8) (.const (.bool true)) (.tmp 11))), .p⟩,
 ⟨(rO 13 (.mv (.tmp 12))), .p⟩,
 ⟨⟨(some 14), (.fa 4 (.tmp 3)), (some (13, false))⟩, .p⟩,
 ⟨⟨(some 15), (.ld none (.tmp 14)), (some (13, false))⟩, .l⟩,
 ⟨⟨(some 16), (.mv (.tmp 0)), (some (13, false))⟩, .p⟩,
 ⟨⟨(some 17), (.nilc (.tmp 16)), (some (13, false))⟩, .p⟩,
 ⟨⟨(some 18), (.fa 0 (.tmp 17)), (some (13, false))⟩, .p⟩,
 ⟨⟨(some 19), (.ld none (.tmp 18)), (some (13, false))⟩, .l⟩,
 ⟨⟨(some 20), (.bin .neq (.tmp 15) (.tmp 19)), (some (13, false))⟩, .p⟩,
 ⟨(rO 21 (.pick (.tmp 13) (.const (.bool true)) (.tmp 20))), .p⟩,
 ⟨(rO 22 (.mv (.tmp 21))), .p⟩,
 ⟨⟨(some 23), (.fa 5 (.tmp 3)), (some (22, false))⟩, .p⟩,
 ⟨⟨(some 24), (.ld none (.tmp 23)), (some (22, false))⟩, .l⟩,
 ⟨⟨(some 25), (.mv (.tmp 0)), (some (22, false))⟩, .p⟩,
 ⟨⟨(some 26), (.nilc (.tmp 25)), (some (22, false))⟩, .p⟩,
 ⟨⟨(some 27), (.fa 2 (.tmp 26)), (some (22, false))⟩, .p⟩,
 ⟨⟨(some 28), (.fa 5 (.tmp 27)), (some (22, false))⟩, .p⟩,
 ⟨⟨(some 29), (.ld none (.tmp 28)), (some (22, false))⟩, .l⟩,
 ⟨⟨(some 30), (.bin .neq (.tmp 24) (.tmp 29)), (some (22, false))⟩, .p⟩,
 ⟨(rO 31 (.pick (.tmp 22) (.const (.bool true)) (.tmp 30))), .p⟩])
 (.cond (.tmp 31) (.seq (.reg [(rO 32 (.bld [.int .i64 (0), .int .i64 (0), .int .i64 (0), .int .i64 (0), .int .i64 (0), .int .i64 (0), .string ⟨#[]⟩, .int .i64 (0), .int .i64 (0), .bool false, .string ⟨#[]⟩, .bool false, .int .i64 (0), .int .i64 (0), .slice none 0 0, .slice none 0 0] [])),
 ⟨none, (.st 16 (.tmp 4) (.tmp 32)), none⟩,
 (rO 5 (.mv (.const (.bool false))))])
 .ret)
 .skip))
 (.seq (.block 0 (.seq (.reg [(rO 34 (.fa 0 (.tmp 3))),
 (rO 35 (.ld none (.tmp 34))),
 (rO 36 (.bin .eql (.tmp 35) (.const (.int .i64 4)))),
 (rO 37 (.mv (.tmp 36))),
 ⟨(some 38), (.mv (.tmp 0)), (some (37, true))⟩,
 ⟨(some 39), (.nilc (.tmp 38)), (some (37, true))⟩,
 ⟨(some 40), (.fa 2 (.tmp 39)), (some (37, true))⟩,
 ⟨(some 41), (.fa 0 (.tmp 40)), (some (37, true))⟩,
 ⟨(some 42), (.ld none (.tmp 41)), (some (37, true))⟩,
 ⟨(some 43), (.bin .eql (.tmp 42) (.const (.int .i64 1))), (some (37, true))⟩,
 (rO 44 (.pick (.tmp 37) (.tmp 43) (.const (.bool false)))),
 (rO 33 (.mv (.tmp 44)))])
 (.cond (.tmp 33) (.seq (.seq (.reg [(rO 45 (.fa 11 (.tmp 3))),
 (rO 46 (.ld none (.tmp 45))),
 (rO 47 (.mv (.tmp 46))),
 ⟨(some 48), (.mv (.tmp 0)), (some (47, true))⟩,
 ⟨(some 49), (.fa 9 (.tmp 3)), (some (47, true))⟩,
 ⟨(some 50), (.ld (some 2) (.tmp 49)), (some (47, true))⟩,
 ⟨(some 51), (.fa 7 (.tmp 3)), (some (47, true))⟩,
 ⟨(some 52), (.ld (some 2) (.tmp 51)), (some (47, true))⟩,
 ⟨(some 53), (.call 78 [(.tmp 48), (.tmp 50), (.tmp 52)]), (some (47, true))⟩,
 (rO 54 (.pick (.tmp 47) (.tmp 53) (.const (.bool false))))])
 (.cond (.tmp 54) (.seq (.reg [(rO 55 (.bld [.int .i64 (0), .int .i64 (0), .int .i64 (0), .int .i64 (0), .int .i64 (0), .int .i64 (0), .string ⟨#[]⟩, .int .i64 (0), .int .i64 (0), .bool false, .string ⟨#[]⟩, .bool false, .int .i64 (0), .int .i64 (0), .slice none 0 0, .slice none 0 0] [])),
 ⟨none, (.st 16 (.tmp 4) (.tmp 55)), none⟩,
 (rO 5 (.mv (.const (.bool true))))])
 .ret)
 .skip))
 (.seq (.reg [(rO 56 (.mv (.tmp 0))),
 (rO 57 (.mv (.tmp 0))),
 (rO 58 (.nilc (.tmp 57))),
 (rO 59 (.fa 2 (.tmp 58))),
 (rO 60 (.fa 4 (.tmp 59))),
 (rO 61 (.ld none (.tmp 60))),
 (rO 62 (.call 79 [(.tmp 56), (.const (.int .i64 2)), (.tmp 61)])),
 ⟨none, (.st 16 (.tmp 4) (.tmp 62)), none⟩,
 (rO 5 (.mv (.const (.bool true))))])
 .ret))
 (.seq (.reg [(rO 64 (.fa 0 (.tmp 3))),
 (rO 65 (.ld none (.tmp 64))),
 (rO 66 (.bin .eql (.tmp 65) (.const (.int .i64 6)))),
 (rO 67 (.mv (.tmp 66))),
 ⟨(some 68), (.mv (.tmp 0)), (some (67, true))⟩,
 ⟨(some 69), (.nilc (.tmp 68)), (some (67, true))⟩,
 ⟨(some 70), (.fa 2 (.tmp 69)), (some (67, true))⟩,
 ⟨(some 71), (.fa 0 (.tmp 70)), (some (67, true))⟩,
 ⟨(some 72), (.ld none (.tmp 71)), (some (67, true))⟩,
 ⟨(some 73), (.bin .eql (.tmp 72) (.const (.int .i64 2))), (some (67, true))⟩,
 (rO 74 (.pick (.tmp 67) (.tmp 73) (.const (.bool false)))),
 (rO 63 (.mv (.tmp 74)))])
 (.cond (.tmp 63) (.seq (.seq (.reg [(rO 75 (.fa 12 (.tmp 3))),
 (rO 76 (.ld none (.tmp 75))),
 (rO 77 (.bin .neq (.tmp 76) (.const (.int .i64 0))))])
 (.cond (.tmp 77) (.seq (.reg [(rO 78 (.mv (.tmp 0))),
 (rO 79 (.fa 12 (.tmp 3))),
 (rO 80 (.ld none (.tmp 79))),
 (rO 81 (.call 80 [(.tmp 78), (.const (.int .i64 4)), (.tmp 80)]))])
 (.seq (.reg [(rO 82 (.bld [.int .i64 (0), .int .i64 (0), .int .i64 (0), .int .i64 (0), .int .i64 (0), .int .i64 (0), .string ⟨#[]⟩, .int .i64 (0), .int .i64 (0), .bool false, .string ⟨#[]⟩, .bool false, .int .i64 (0), .int .i64 (0), .slice none 0 0, .slice none 0 0] [])),
 ⟨none, (.st 16 (.tmp 4) (.tmp 82)), none⟩,
 (rO 5 (.mv (.const (.bool true))))])
 .ret))
 .skip))
 (.seq (.reg [(rO 83 (.bld [.int .i64 (0), .int .i64 (0), .int .i64 (0), .int .i64 (0), .int .i64 (0), .int .i64 (0), .string ⟨#[]⟩, .int .i64 (0), .int .i64 (0), .bool false, .string ⟨#[]⟩, .bool false, .int .i64 (0), .int .i64 (0), .slice none 0 0, .slice none 0 0] [])),
 (rO 84 (.mv (.tmp 0))),
 (rO 85 (.fa 9 (.tmp 3))),
 (rO 86 (.ld (some 2) (.tmp 85))),
 (rO 87 (.fa 7 (.tmp 3))),
 (rO 88 (.ld (some 2) (.tmp 87))),
 (rO 89 (.call 78 [(.tmp 84), (.tmp 86), (.tmp 88)])),
 ⟨none, (.st 16 (.tmp 4) (.tmp 83)), none⟩,
 (rO 5 (.mv (.tmp 89)))])
 .ret))
 .skip)))))
 (.seq (.reg [(rO 90 (.bld [.int .i64 (0), .int .i64 (0), .int .i64 (0), .int .i64 (0), .int .i64 (0), .int .i64 (0), .string ⟨#[]⟩, .int .i64 (0), .int .i64 (0), .bool false, .string ⟨#[]⟩, .bool false, .int .i64 (0), .int .i64 (0), .slice none 0 0, .slice none 0 0] [])),
 ⟨none, (.st 16 (.tmp 4) (.tmp 90)), none⟩,
 (rO 5 (.mv (.const (.bool false))))])
 .ret))))
def r42 : List RV := [.agg 4 16, .tmp 5]
theorem ok42 : FnOk Tryz.prog 42 91 c42 r42 := ⟨[40, 45], _, _, Tryz.func42, rfl, rfl, by kernel_rfl, by kernel_rfl, by kernel_rfl⟩
/-- vouch/tx.New -/
def c46 : C := (.seq (.reg [(rO 6 (.mv (.const (.pointer none))))])
 (.seq (.reg [(rO 8 (.mv (.tmp 0))),
 (rO 9 (.mv (.tmp 1))),
 (rO 10 (.mx true (.tmp 9) (.const (.int .i64 1)))),
 (rO 11 (.mx false (.tmp 10) (.const (.int .i64 8)))),
 (rO 12 (.bld [.int .i64 (0), .int .i64 (0), .int .i64 (0), .int .i64 (0), .int .i64 (0), .int .i64 (0), .string ⟨#[]⟩, .int .i64 (0), .int .i64 (0), .slice none 0 0] [(0, 1, (.tmp 8)), (1, 1, (.tmp 11))])),
 (rO 13 (.box 133 (.tmp 12))),
 (rO 7 (.mv (.tmp 13)))])
 (.seq (.reg [(rO 14 (.mv (.tmp 7))),
 (rO 15 (.mv (.tmp 2))),
 (rO 16 (.mx true (.tmp 15) (.const (.int .i64 0)))),
 (rO 17 (.mx false (.tmp 16) (.const (.int .i64 1099511627776)))),
 (rO 18 (.bld [.int .i64 (0), .int .i64 (0)] [(0, 1, (.tmp 17)), (1, 1, (.const (.int .i64 4611686018427387904)))])),
 (rO 19 (.nilc (.tmp 14))),
 (rO 20 (.fa 2 (.tmp 19))),
 (rO 21 (.fa 2 (.tmp 20))),
 ⟨none, (.st 2 (.tmp 21) (.tmp 18)), none⟩])
 (.seq (.reg [(rO 22 (.mv (.tmp 7))),
 (rO 6 (.mv (.tmp 22)))])
 .ret))))
def r46 : List RV := [.tmp 6]
theorem ok46 : FnOk Tryz.prog 46 23 c46 r46 := ⟨[40, 45], _, _, Tryz.func46, rfl, rfl, by kernel_rfl, by kernel_rfl, by kernel_rfl⟩
/-- (*vouch/tx.Tx).Finish -/
def c47 : C := (.seq (.reg [(rO 2 (.mv (.const (.int .i64 0)))),
 (rO 3 (.mv (.const (.int .i64 0))))])
 (.seq (.block 0 (.seq (.reg [(rO 5 (.mv (.tmp 0))),
 (rO 6 (.eqs false .ptr (.tmp 5) (.const (.pointer none)))),
 (rO 4 (.mv (.tmp 6)))])
 (.cond (.tmp 4) (.seq (.reg [(rO 2 (.mv (.const (.int .i64 0)))),
 (rO 3 (.mv (.const (.int .i64 3))))])
 .ret)
 (.seq (.reg [(rO 8 (.mv (.tmp 0))),
 (rO 9 (.nilc (.tmp 8))),
 (rO 10 (.fa 2 (.tmp 9))),
 (rO 11 (.fa 0 (.tmp 10))),
 (rO 12 (.ld none (.tmp 11))),
 (rO 13 (.bin .eql (.tmp 12) (.const (.int .i64 3)))),
 (rO 7 (.mv (.tmp 13)))])
 (.cond (.tmp 7) (.seq (.reg [(rO 2 (.mv (.const (.int .i64 0)))),
 (rO 3 (.mv (.const (.int .i64 40))))])
 .ret)
 (.seq (.reg [(rO 15 (.mv (.tmp 0))),
 (rO 16 (.nilc (.tmp 15))),
 (rO 17 (.fa 2 (.tmp 16))),
 (rO 18 (.fa 0 (.tmp 17))),
 (rO 19 (.ld none (.tmp 18))),
 (rO 20 (.bin .eql (.tmp 19) (.const (.int .i64 4)))),
 (rO 14 (.mv (.tmp 20)))])
 (.cond (.tmp 14) (.seq (.draw [⟨(rO 21 (.mv (.tmp 0))), .p⟩,
 ⟨(rO 22 (.nilc (.tmp 21))), .p⟩,
 ⟨(rO 23 (.fa 2 (.tmp 22))), .p⟩,
 ⟨(rO 24 (.fa 1 (.tmp 23))), .p⟩,
 ⟨(rO 25 (.ld none (.tmp 24))), .l⟩,
 ⟨(rO 2 (.mv (.const (.int .i64 0)))), .p⟩,
 ⟨(rO 3 (.mv (.tmp 25))), .p⟩])
 .ret)
 (.seq (.reg [(rO 27 (.mv (.tmp 0))),
 (rO 28 (.call 77 [(.tmp 27)])),
 (rO 26 (.mv (.tmp 28)))])
 (.cond (.tmp 26) (.seq (.reg [(rO 2 (.mv (.const (.int .i64 0)))),
 (rO 3 (.mv (.const (.int .i64 31))))])
 .ret)
 .skip)))))))))
 (.seq (.reg [(rO 29 (.mv (.tmp 0))),
 (rO 30 (.call 80 [(.tmp 29), (.const (.int .i64 3)), (.const (.int .i64 0))]))])
 (.seq (.seq (.reg [(rO 31 (.mv (.tmp 0))),
 (rO 32 (.nilc (.tmp 31))),
 (rO 33 (.fa 2 (.tmp 32))),
 (rO 34 (.fa 2 (.tmp 33))),
 (rO 35 (.fa 1 (.tmp 34))),
 (rO 36 (.ld none (.tmp 35))),
 (rO 37 (.bin .eql (.tmp 36) (.const (.int .i64 4611686018427387904))))])
 (.cond (.tmp 37) (.seq (.reg [(rO 38 (.mv (.tmp 0))),
 (rO 39 (.nilc (.tmp 38))),
 (rO 40 (.fa 2 (.tmp 39))),
 (rO 41 (.fa 2 (.tmp 40))),
 (rO 42 (.fa 0 (.tmp 41))),
 (rO 43 (.ld none (.tmp 42))),
 (rO 2 (.mv (.tmp 43))),
 (rO 3 (.mv (.const (.int .i64 0))))])
 .ret)
 .skip))
 (.seq (.reg [(rO 44 (.mv (.tmp 0))),
 (rO 45 (.nilc (.tmp 44))),
 (rO 46 (.fa 2 (.tmp 45))),
 (rO 47 (.fa 2 (.tmp 46))),
 (rO 48 (.fa 1 (.tmp 47))),
 (rO 49 (.ld none (.tmp 48))),
 (rO 50 (.bin .sub (.tmp 49) (.const (.int .i64 1)))),
 (rO 2 (.mv (.tmp 50))),
 (rO 3 (.mv (.const (.int .i64 0))))])
 .ret)))))
def r47 : List RV := [.tmp 2, .tmp 3]
theorem ok47 : FnOk Tryz.prog 47 51 c47 r47 := ⟨[40, 45], _, _, Tryz.func47, rfl, rfl, by kernel_rfl, by kernel_rfl, by kernel_rfl⟩
/-- vouch/fact.Held$1 -/
def c49 : C := (.seq (.reg [(rO 6 (.mv (.const (.int .i64 0))))])
 (.seq (.reg [(rO 7 (.mv (.tmp 0))),
 (rO 8 (.mv (.tmp 2))),
 (rO 9 (.mx true (.tmp 7) (.tmp 8))),
 (rO 10 (.mv (.tmp 1))),
 (rO 11 (.mx false (.tmp 9) (.tmp 10))),
 (rO 6 (.mv (.tmp 11)))])
 .ret))
def r49 : List RV := [.tmp 6]
theorem ok49 : FnOk Tryz.prog 49 12 c49 r49 := ⟨[40, 45], _, _, Tryz.func49, rfl, rfl, by kernel_rfl, by kernel_rfl, by kernel_rfl⟩
/-- (*vouch/tx.Tx).Read -/
def c51 : C := (.seq (.reg [(rO 4 (.new 35 [.bool false, .string ⟨#[]⟩])),
 (rO 5 (.new 39 [.int .i64 (0), .int .i64 (0), .int .i64 (0), .int .i64 (0), .int .i64 (0), .int .i64 (0), .string ⟨#[]⟩, .int .i64 (0), .int .i64 (0), .bool false, .string ⟨#[]⟩, .bool false, .int .i64 (0), .int .i64 (0), .slice none 0 0, .slice none 0 0])),
 (rO 6 (.mv (.const (.int .i64 0))))])
 (.seq (.block 0 (.seq (.reg [(rO 10 (.mv (.tmp 0))),
 (rO 11 (.eqs false .ptr (.tmp 10) (.const (.pointer none)))),
 (rO 9 (.mv (.tmp 11)))])
 (.cond (.tmp 9) (.seq (.reg [(rO 12 (.bld [.bool false, .string ⟨#[]⟩] [])),
 (rO 13 (.bld [.int .i64 (0), .int .i64 (0), .int .i64 (0), .int .i64 (0), .int .i64 (0), .int .i64 (0), .string ⟨#[]⟩, .int .i64 (0), .int .i64 (0), .bool false, .string ⟨#[]⟩, .bool false, .int .i64 (0), .int .i64 (0), .slice none 0 0, .slice none 0 0] [])),
 ⟨none, (.st 2 (.tmp 4) (.tmp 12)), none⟩,
 ⟨none, (.st 16 (.tmp 5) (.tmp 13)), none⟩,
 (rO 6 (.mv (.const (.int .i64 3))))])
 .ret)
 (.seq (.reg [(rO 15 (.mv (.tmp 0))),
 (rO 16 (.nilc (.tmp 15))),
 (rO 17 (.fa 2 (.tmp 16))),
 (rO 18 (.fa 0 (.tmp 17))),
 (rO 19 (.ld none (.tmp 18))),
 (rO 20 (.bin .geq (.tmp 19) (.const (.int .i64 3)))),
 (rO 14 (.mv (.tmp 20)))])
 (.cond (.tmp 14) (.seq (.reg [(rO 21 (.bld [.bool false, .string ⟨#[]⟩] [])),
 (rO 22 (.bld [.int .i64 (0), .int .i64 (0), .int .i64 (0), .int .i64 (0), .int .i64 (0), .int .i64 (0), .string ⟨#[]⟩, .int .i64 (0), .int .i64 (0), .bool false, .string ⟨#[]⟩, .bool false, .int .i64 (0), .int .i64 (0), .slice none 0 0, .slice none 0 0] [])),
 ⟨none, (.st 2 (.tmp 4) (.tmp 21)), none⟩,
 ⟨none, (.st 16 (.tmp 5) (.tmp 22)), none⟩,
 (rO 6 (.mv (.const (.int .i64 40))))])
 .ret)
 (.seq (.reg [(rO 24 (.mv (.tmp 0))),
 (rO 25 (.call 77 [(.tmp 24)])),
 (rO 23 (.mv (.tmp 25)))])
 (.cond (.tmp 23) (.seq (.reg [(rO 26 (.bld [.bool false, .string ⟨#[]⟩] [])),
 (rO 27 (.bld [.int .i64 (0), .int .i64 (0), .int .i64 (0), .int .i64 (0), .int .i64 (0), .int .i64 (0), .string ⟨#[]⟩, .int .i64 (0), .int .i64 (0), .bool false, .string ⟨#[]⟩, .bool false, .int .i64 (0), .int .i64 (0), .slice none 0 0, .slice none 0 0] [])),
 ⟨none, (.st 2 (.tmp 4) (.tmp 26)), none⟩,
 ⟨none, (.st 16 (.tmp 5) (.tmp 27)), none⟩,
 (rO 6 (.mv (.const (.int .i64 31))))])
 .ret)
 (.seq (.reg [(rO 29 (.mv (.tmp 1))),
 (rO 30 (.bin .eql (.tmp 29) (.const (.string { data := #[] })))),
 (rO 31 (.mv (.tmp 30))),
 ⟨(some 32), (.mv (.tmp 1)), (some (31, false))⟩,
 ⟨(some 33), (.len false (.tmp 32)), (some (31, false))⟩,
 ⟨(some 34), (.bin .gtr (.tmp 33) (.const (.int .i64 32))), (some (31, false))⟩,
 (rO 35 (.pick (.tmp 31) (.const (.bool true)) (.tmp 34))),
 (rO 28 (.mv (.tmp 35)))])
 (.cond (.tmp 28) (.seq (.reg [(rO 36 (.bld [.bool false, .string ⟨#[]⟩] [])),
 (rO 37 (.bld [.int .i64 (0), .int .i64 (0), .int .i64 (0), .int .i64 (0), .int .i64 (0), .int .i64 (0), .string ⟨#[]⟩, .int .i64 (0), .int .i64 (0), .bool false, .string ⟨#[]⟩, .bool false, .int .i64 (0), .int .i64 (0), .slice none 0 0, .slice none 0 0] [])),
 ⟨none, (.st 2 (.tmp 4) (.tmp 36)), none⟩,
 ⟨none, (.st 16 (.tmp 5) (.tmp 37)), none⟩,
 (rO 6 (.mv (.const (.int .i64 1))))])
 .ret)
 .skip)))))))))
 (.seq (.seq (.reg [(rO 38 (.mv (.tmp 0))),
 (rO 39 (.nilc (.tmp 38))),
 (rO 40 (.fa 2 (.tmp 39))),
 (rO 41 (.fa 7 (.tmp 40))),
 (rO 42 (.ld none (.tmp 41))),
 (rO 43 (.len true (.tmp 42))),
 (rO 44 (.mv (.const (.int .i64 0))))])
 (.block 1 (.loop (.seq (.reg [(rO 45 (.bin .lss (.tmp 44) (.tmp 43)))])
 (.seq (.cond (.tmp 45) .skip
 (.exit 1))
 (.seq (.block 2 (.seq (.reg [(rO 46 (.ia 3 (.tmp 42) (.tmp 44))),
 (rO 47 (.ld (some 3) (.tmp 46))),
 (rO 8 (.new 128 [.string ⟨#[]⟩, .bool false, .string ⟨#[]⟩])),
 ⟨none, (.st 3 (.tmp 8) (.tmp 47)), none⟩])
 (.seq (.reg [(rO 48 (.fa 0 (.tmp 8))),
 (rO 49 (.ld none (.tmp 48))),
 (rO 50 (.mv (.tmp 1))),
 (rO 51 (.bin .eql (.tmp 49) (.tmp 50)))])
 (.cond (.tmp 51) (.seq (.reg [(rO 52 (.fa 1 (.tmp 8))),
 (rO 53 (.ld (some 2) (.tmp 52))),
 (rO 54 (.bld [.int .i64 (0), .int .i64 (0), .int .i64 (0), .int .i64 (0), .int .i64 (0), .int .i64 (0), .string ⟨#[]⟩, .int .i64 (0), .int .i64 (0), .bool false, .string ⟨#[]⟩, .bool false, .int .i64 (0), .int .i64 (0), .slice none 0 0, .slice none 0 0] [])),
 ⟨none, (.st 2 (.tmp 4) (.tmp 53)), none⟩,
 ⟨none, (.st 16 (.tmp 5) (.tmp 54)), none⟩,
 (rO 6 (.mv (.const (.int .i64 0))))])
 .ret)
 .skip))))
 (.reg [(rO 55 (.bin .add (.tmp 44) (.const (.int .i64 1)))),
 (rO 44 (.mv (.tmp 55)))])))))))
 (.seq (.reg [(rO 56 (.bld [.bool false, .string ⟨#[]⟩] [])),
 (rO 57 (.mv (.tmp 0))),
 (rO 58 (.mv (.tmp 1))),
 (rO 59 (.call 79 [(.tmp 57), (.const (.int .i64 1)), (.tmp 58)])),
 ⟨none, (.st 2 (.tmp 4) (.tmp 56)), none⟩,
 ⟨none, (.st 16 (.tmp 5) (.tmp 59)), none⟩,
 (rO 6 (.mv (.const (.int .i64 0))))])
 .ret))))
def r51 : List RV := [.agg 4 2, .agg 5 16, .tmp 6]
theorem ok51 : FnOk Tryz.prog 51 60 c51 r51 := ⟨[40, 45], _, _, Tryz.func51, rfl, rfl, by kernel_rfl, by kernel_rfl, by kernel_rfl⟩
/-- (*vouch/tx.Tx).Again -/
def c55 : C := (.seq (.reg [(rO 4 (.new 39 [.int .i64 (0), .int .i64 (0), .int .i64 (0), .int .i64 (0), .int .i64 (0), .int .i64 (0), .string ⟨#[]⟩, .int .i64 (0), .int .i64 (0), .bool false, .string ⟨#[]⟩, .bool false, .int .i64 (0), .int .i64 (0), .slice none 0 0, .slice none 0 0])),
 (rO 5 (.mv (.const (.int .i64 0))))])
 (.seq (.block 0 (.seq (.reg [(rO 7 (.mv (.tmp 0))),
 (rO 8 (.eqs false .ptr (.tmp 7) (.const (.pointer none)))),
 (rO 9 (.mv (.tmp 8))),
 ⟨(some 10), (.mv (.tmp 0)), (some (9, false))⟩,
 ⟨(some 11), (.call 77 [(.tmp 10)]), (some (9, false))⟩,
 ⟨(some 12), (.nt (.tmp 11)), (some (9, false))⟩,
 (rO 13 (.pick (.tmp 9) (.const (.bool true)) (.tmp 12))),
 (rO 6 (.mv (.tmp 13)))])
 (.cond (.tmp 6) (.seq (.reg [(rO 14 (.bld [.int .i64 (0), .int .i64 (0), .int .i64 (0), .int .i64 (0), .int .i64 (0), .int .i64 (0), .string ⟨#[]⟩, .int .i64 (0), .int .i64 (0), .bool false, .string ⟨#[]⟩, .bool false, .int .i64 (0), .int .i64 (0), .slice none 0 0, .slice none 0 0] [])),
 ⟨none, (.st 16 (.tmp 4) (.tmp 14)), none⟩,
 (rO 5 (.mv (.const (.int .i64 3))))])
 .ret)
 (.seq (.reg [(rO 16 (.mv (.tmp 0))),
 (rO 17 (.nilc (.tmp 16))),
 (rO 18 (.fa 2 (.tmp 17))),
 (rO 19 (.fa 6 (.tmp 18))),
 (rO 20 (.ld none (.tmp 19))),
 (rO 21 (.mv (.tmp 1))),
 (rO 22 (.bin .lss (.tmp 20) (.tmp 21))),
 (rO 15 (.mv (.tmp 22)))])
 (.cond (.tmp 15) (.seq (.reg [(rO 23 (.mv (.tmp 0))),
 (rO 24 (.nilc (.tmp 23))),
 (rO 25 (.fa 2 (.tmp 24))),
 (rO 26 (.fa 6 (.tmp 25))),
 (rO 27 (.ld none (.tmp 26))),
 (rO 28 (.bin .add (.tmp 27) (.const (.int .i64 1)))),
 (rO 29 (.nilc (.tmp 23))),
 (rO 30 (.fa 2 (.tmp 29))),
 (rO 31 (.fa 6 (.tmp 30))),
 ⟨none, (.st 1 (.tmp 31) (.tmp 28)), none⟩])
 (.seq (.reg [(rO 32 (.mv (.tmp 0))),
 (rO 33 (.call 85 [(.tmp 32)])),
 ⟨none, (.st 16 (.tmp 4) (.tmp 33)), none⟩,
 (rO 5 (.mv (.const (.int .i64 0))))])
 .ret))
 (.seq (.reg [(rO 35 (.mv (.tmp 0))),
 (rO 36 (.nilc (.tmp 35))),
 (rO 37 (.fa 2 (.tmp 36))),
 (rO 38 (.fa 0 (.tmp 37))),
 (rO 39 (.ld none (.tmp 38))),
 (rO 40 (.bin .eql (.tmp 39) (.const (.int .i64 1)))),
 (rO 34 (.mv (.tmp 40)))])
 (.cond (.tmp 34) (.seq (.reg [(rO 41 (.mv (.tmp 0))),
 (rO 42 (.mv (.tmp 0))),
 (rO 43 (.nilc (.tmp 42))),
 (rO 44 (.fa 2 (.tmp 43))),
 (rO 45 (.fa 4 (.tmp 44))),
 (rO 46 (.ld none (.tmp 45))),
 (rO 47 (.call 79 [(.tmp 41), (.const (.int .i64 2)), (.tmp 46)])),
 ⟨none, (.st 16 (.tmp 4) (.tmp 47)), none⟩,
 (rO 5 (.mv (.const (.int .i64 0))))])
 .ret)
 .skip)))))))
 (.seq (.reg [(rO 48 (.mv (.tmp 0))),
 (rO 49 (.call 80 [(.tmp 48), (.const (.int .i64 4)), (.const (.int .i64 41))]))])
 (.seq (.reg [(rO 50 (.bld [.int .i64 (0), .int .i64 (0), .int .i64 (0), .int .i64 (0), .int .i64 (0), .int .i64 (0), .string ⟨#[]⟩, .int .i64 (0), .int .i64 (0), .bool false, .string ⟨#[]⟩, .bool false, .int .i64 (0), .int .i64 (0), .slice none 0 0, .slice none 0 0] [])),
 ⟨none, (.st 16 (.tmp 4) (.tmp 50)), none⟩,
 (rO 5 (.mv (.const (.int .i64 41))))])
 .ret))))
def r55 : List RV := [.agg 4 16, .tmp 5]
theorem ok55 : FnOk Tryz.prog 55 51 c55 r55 := ⟨[40, 45], _, _, Tryz.func55, rfl, rfl, by kernel_rfl, by kernel_rfl, by kernel_rfl⟩
/-- (*vouch/client.Client).retries -/
def c56 : C := (.seq (.reg [(rO 2 (.mv (.const (.int .i64 0))))])
 (.seq (.seq (.reg [(rO 3 (.mv (.tmp 0))),
 (rO 4 (.eqs false .ptr (.tmp 3) (.const (.pointer none))))])
 (.cond (.tmp 4) (.seq (.reg [(rO 2 (.mv (.const (.int .i64 0))))])
 .ret)
 .skip))
 (.seq (.reg [(rO 5 (.mv (.tmp 0))),
 (rO 6 (.nilc (.tmp 5))),
 (rO 7 (.fa 0 (.tmp 6))),
 (rO 8 (.fa 7 (.tmp 7))),
 (rO 9 (.ld none (.tmp 8))),
 (rO 2 (.mv (.tmp 9)))])
 .ret)))
def r56 : List RV := [.tmp 2]
theorem ok56 : FnOk Tryz.prog 56 10 c56 r56 := ⟨[40, 45], _, _, Tryz.func56, rfl, rfl, by kernel_rfl, by kernel_rfl, by kernel_rfl⟩
/-- (*vouch/client.Client).Again -/
def c65 : C := (.seq (.reg [(rO 4 (.new 39 [.int .i64 (0), .int .i64 (0), .int .i64 (0), .int .i64 (0), .int .i64 (0), .int .i64 (0), .string ⟨#[]⟩, .int .i64 (0), .int .i64 (0), .bool false, .string ⟨#[]⟩, .bool false, .int .i64 (0), .int .i64 (0), .slice none 0 0, .slice none 0 0])),
 (rO 5 (.mv (.const (.int .i64 0))))])
 (.seq (.reg [(rO 6 (.mv (.tmp 0))),
 (rO 7 (.mv (.tmp 1))),
 (rO 8 (.call 38 [(.tmp 6), (.tmp 7)])),
 (rO 9 (.mv (.tmp 0))),
 (rO 10 (.call 56 [(.tmp 9)])),
 (rO 11 (.call 90 [(.tmp 8), (.tmp 10)])),
 (rO 12 (.ext 0 (.tmp 11))),
 (rO 13 (.ext 1 (.tmp 11))),
 ⟨none, (.st 16 (.tmp 4) (.tmp 12)), none⟩,
 (rO 5 (.mv (.tmp 13)))])
 .ret))
def r65 : List RV := [.agg 4 16, .tmp 5]
theorem ok65 : FnOk Tryz.prog 65 14 c65 r65 := ⟨[40, 45], _, _, Tryz.func65, rfl, rfl, by kernel_rfl, by kernel_rfl, by kernel_rfl⟩
/-- (*vouch/tx.Tx).View -/
def c71 : C := (.seq (.reg [(rO 2 (.new 88 [.int .i64 (0), .int .i64 (0), .int .i64 (0), .int .i64 (0), .string ⟨#[]⟩, .int .i64 (0), .int .i64 (0), .slice none 0 0]))])
 (.seq (.seq (.reg [(rO 4 (.mv (.tmp 0))),
 (rO 5 (.eqs false .ptr (.tmp 4) (.const (.pointer none))))])
 (.cond (.tmp 5) (.seq (.reg [(rO 6 (.bld [.int .i64 (0), .int .i64 (0), .int .i64 (0), .int .i64 (0), .string ⟨#[]⟩, .int .i64 (0), .int .i64 (0), .slice none 0 0] [])),
 ⟨none, (.st 8 (.tmp 2) (.tmp 6)), none⟩])
 .ret)
 .skip))
 (.seq (.reg [(rO 7 (.mv (.tmp 0))),
 (rO 8 (.nilc (.tmp 7))),
 (rO 9 (.fa 2 (.tmp 8))),
 (rO 10 (.ld (some 8) (.tmp 9))),
 (rO 3 (.new 88 [.int .i64 (0), .int .i64 (0), .int .i64 (0), .int .i64 (0), .string ⟨#[]⟩, .int .i64 (0), .int .i64 (0), .slice none 0 0])),
 ⟨none, (.st 8 (.tmp 3) (.tmp 10)), none⟩])
 (.seq (.reg [(rO 11 (.fa 7 (.tmp 3))),
 (rO 12 (.ld none (.tmp 11))),
 (rO 13 (.call 95 [(.tmp 12)])),
 (rO 14 (.fa 7 (.tmp 3))),
 ⟨none, (.st 1 (.tmp 14) (.tmp 13)), none⟩])
 (.seq (.reg [(rO 15 (.ld (some 8) (.tmp 3))),
 ⟨none, (.st 8 (.tmp 2) (.tmp 15)), none⟩])
 .ret)))))
def r71 : List RV := [.agg 2 8]
theorem ok71 : FnOk Tryz.prog 71 16 c71 r71 := ⟨[40, 45], _, _, Tryz.func71, rfl, rfl, by kernel_rfl, by kernel_rfl, by kernel_rfl⟩
/-- (*vouch/tx.Tx).busy -/
def c77 : C := (.seq (.reg [(rO 2 (.mv (.const (.bool false))))])
 (.seq (.reg [(rO 3 (.mv (.tmp 0))),
 (rO 4 (.nilc (.tmp 3))),
 (rO 5 (.fa 2 (.tmp 4))),
 (rO 6 (.fa 0 (.tmp 5))),
 (rO 7 (.ld none (.tmp 6))),
 (rO 8 (.bin .eql (.tmp 7) (.const (.int .i64 1)))),
 (rO 9 (.mv (.tmp 8))),
 ⟨(some 10), (.mv (.tmp 0)), (some (9, false))⟩,
 ⟨(some 11), (.nilc (.tmp 10)), (some (9, false))⟩,
 ⟨(some 12), (.fa 2 (.tmp 11)), (some (9, false))⟩,
 ⟨(some 13), (.fa 0 (.tmp 12)), (some (9, false))⟩,
 ⟨(some 14), (.ld none (.tmp 13)), (some (9, false))⟩,
 ⟨(some 15), (.bin .eql (.tmp 14) (.const (.int .i64 2))), (some (9, false))⟩,
 (rO 16 (.pick (.tmp 9) (.const (.bool true)) (.tmp 15))),
 (rO 2 (.mv (.tmp 16)))])
 .ret))
def r77 : List RV := [.tmp 2]
theorem ok77 : FnOk Tryz.prog 77 17 c77 r77 := ⟨[40, 45], _, _, Tryz.func77, rfl, rfl, by kernel_rfl, by kernel_rfl, by kernel_rfl⟩
/-- (*vouch/tx.Tx).take -/
def c78 : C := (.seq (.reg [(rO 4 (.box 35 (.tmp 1))),
 (rO 5 (.box 33 (.tmp 2))),
 (rO 6 (.mv (.const (.bool false))))])
 (.seq (.draw [⟨(rO 10 (.mv (.tmp 0))), .p⟩,
 ⟨(rO 11 (.nilc (.tmp 10))), .p⟩,
 ⟨(rO 12 (.fa 2 (.tmp 11))), .p⟩,
 ⟨(rO 13 (.fa 2 (.tmp 12))), .p⟩,
 ⟨(rO 14 (.ld (some 2) (.tmp 13))), .l⟩,
 ⟨(rO 15 (.fa 0 (.tmp 5))), .p⟩,
 ⟨(rO 16 (.ld none (.tmp 15))), .l⟩,
 ⟨(rO 17 (.fa 1 (.tmp 5))), .p⟩,
 ⟨(rO 18 (.ld none (.tmp 17))), .l⟩,
 ⟨(rO 19 (.call 99 [(.tmp 16), (.tmp 18)])), .g⟩,
 ⟨(rO 20 (.call 98 [(.tmp 14), (.tmp 19)])), .g⟩,
 ⟨(rO 9 (.mv (.tmp 20))), .p⟩,
 ⟨(rO 21 (.ext 0 (.tmp 9))), .p⟩,
 ⟨(rO 22 (.ext 1 (.tmp 9))), .p⟩,
 ⟨(rO 7 (.new 33 [.int .i64 (0), .int .i64 (0)])), .f⟩,
 ⟨⟨none, (.st 2 (.tmp 7) (.tmp 21)), none⟩, .m⟩,
 ⟨(rO 8 (.mv (.tmp 22))), .p⟩])
 (.seq (.seq (.reg [(rO 23 (.mv (.tmp 8)))])
 (.cond (.tmp 23) (.seq (.reg [(rO 24 (.mv (.tmp 0))),
 (rO 25 (.ld (some 2) (.tmp 7))),
 (rO 26 (.nilc (.tmp 24))),
 (rO 27 (.fa 2 (.tmp 26))),
 (rO 28 (.fa 2 (.tmp 27))),
 ⟨none, (.st 2 (.tmp 28) (.tmp 25)), none⟩])
 (.seq (.draw [⟨(rO 29 (.mv (.tmp 0))), .p⟩,
 ⟨(rO 30 (.mv (.tmp 0))), .p⟩,
 ⟨(rO 31 (.nilc (.tmp 30))), .p⟩,
 ⟨(rO 32 (.fa 2 (.tmp 31))), .p⟩,
 ⟨(rO 33 (.fa 7 (.tmp 32))), .p⟩,
 ⟨(rO 34 (.ld none (.tmp 33))), .l⟩,
 ⟨(rO 35 (.mv (.tmp 0))), .p⟩,
 ⟨(rO 36 (.nilc (.tmp 35))), .p⟩,
 ⟨(rO 37 (.fa 2 (.tmp 36))), .p⟩,
 ⟨(rO 38 (.fa 4 (.tmp 37))), .p⟩,
 ⟨(rO 39 (.ld none (.tmp 38))), .l⟩,
 ⟨(rO 40 (.ld (some 2) (.tmp 4))), .l⟩,
 ⟨(rO 41 (.bld [.string ⟨#[]⟩, .bool false, .string ⟨#[]⟩] [(0, 1, (.tmp 39)), (1, 2, (.tmp 40))])), .p⟩,
 ⟨(rO 42 (.lit 128 1 3 [.string ⟨#[]⟩, .bool false, .string ⟨#[]⟩] [(0, 3, (.tmp 41))])), .f⟩,
 ⟨(rO 43 (.app 128 3 40 (.tmp 34) (.tmp 42))), .m⟩,
 ⟨(rO 44 (.nilc (.tmp 29))), .p⟩,
 ⟨(rO 45 (.fa 2 (.tmp 44))), .p⟩,
 ⟨(rO 46 (.fa 7 (.tmp 45))), .p⟩,
 ⟨⟨none, (.st 1 (.tmp 46) (.tmp 43)), none⟩, .m⟩])
 (.reg [(rO 47 (.mv (.tmp 0))),
 (rO 48 (.call 80 [(.tmp 47), (.const (.int .i64 0)), (.const (.int .i64 0))]))])))
 .skip))
 (.seq (.reg [(rO 49 (.mv (.tmp 8))),
 (rO 6 (.mv (.tmp 49)))])
 .ret))))
def r78 : List RV := [.tmp 6]
theorem ok78 : FnOk Tryz.prog 78 50 c78 r78 := ⟨[40, 45], _, _, Tryz.func78, rfl, rfl, by kernel_rfl, by kernel_rfl, by kernel_rfl⟩
/-- (*vouch/tx.Tx).ask -/
def c79 : C := (.seq (.reg [(rO 6 (.new 39 [.int .i64 (0), .int .i64 (0), .int .i64 (0), .int .i64 (0), .int .i64 (0), .int .i64 (0), .string ⟨#[]⟩, .int .i64 (0), .int .i64 (0), .bool false, .string ⟨#[]⟩, .bool false, .int .i64 (0), .int .i64 (0), .slice none 0 0, .slice none 0 0]))])
 (.seq (.reg [(rO 7 (.mv (.tmp 0))),
 (rO 8 (.mv (.tmp 0))),
 (rO 9 (.mv (.tmp 0))),
 (rO 10 (.mv (.tmp 1))),
 (rO 11 (.mv (.tmp 2))),
 (rO 12 (.nilc (.tmp 7))),
 (rO 13 (.fa 2 (.tmp 12))),
 (rO 14 (.fa 0 (.tmp 13))),
 ⟨none, (.st 1 (.tmp 14) (.tmp 10)), none⟩,
 (rO 15 (.nilc (.tmp 8))),
 (rO 16 (.fa 2 (.tmp 15))),
 (rO 17 (.fa 4 (.tmp 16))),
 ⟨none, (.st 1 (.tmp 17) (.tmp 11)), none⟩,
 (rO 18 (.nilc (.tmp 9))),
 (rO 19 (.fa 2 (.tmp 18))),
 (rO 20 (.fa 6 (.tmp 19))),
 ⟨none, (.st 1 (.tmp 20) (.const (.int .i64 0))), none⟩])
 (.seq (.reg [(rO 21 (.mv (.tmp 0))),
 (rO 22 (.nilc (.tmp 21))),
 (rO 23 (.fa 2 (.tmp 22))),
 (rO 24 (.fa 5 (.tmp 23))),
 (rO 25 (.ld none (.tmp 24))),
 (rO 26 (.bin .add (.tmp 25) (.const (.int .i64 1)))),
 (rO 27 (.nilc (.tmp 21))),
 (rO 28 (.fa 2 (.tmp 27))),
 (rO 29 (.fa 5 (.tmp 28))),
 ⟨none, (.st 1 (.tmp 29) (.tmp 26)), none⟩])
 (.seq (.reg [(rO 30 (.mv (.tmp 0))),
 (rO 31 (.call 85 [(.tmp 30)])),
 ⟨none, (.st 16 (.tmp 6) (.tmp 31)), none⟩])
 .ret))))
def r79 : List RV := [.agg 6 16]
theorem ok79 : FnOk Tryz.prog 79 32 c79 r79 := ⟨[40, 45], _, _, Tryz.func79, rfl, rfl, by kernel_rfl, by kernel_rfl, by kernel_rfl⟩
/-- (*vouch/tx.Tx).rest -/
def c80 : C := (.reg [(rO 6 (.mv (.tmp 0))),
 (rO 7 (.mv (.tmp 0))),
 (rO 8 (.mv (.tmp 0))),
 (rO 9 (.mv (.tmp 0))),
 (rO 10 (.mv (.tmp 1))),
 (rO 11 (.mv (.tmp 2))),
 (rO 12 (.nilc (.tmp 6))),
 (rO 13 (.fa 2 (.tmp 12))),
 (rO 14 (.fa 0 (.tmp 13))),
 ⟨none, (.st 1 (.tmp 14) (.tmp 10)), none⟩,
 (rO 15 (.nilc (.tmp 7))),
 (rO 16 (.fa 2 (.tmp 15))),
 (rO 17 (.fa 1 (.tmp 16))),
 ⟨none, (.st 1 (.tmp 17) (.tmp 11)), none⟩,
 (rO 18 (.nilc (.tmp 8))),
 (rO 19 (.fa 2 (.tmp 18))),
 (rO 20 (.fa 4 (.tmp 19))),
 ⟨none, (.st 1 (.tmp 20) (.const (.string { data := #[] }))), none⟩,
 (rO 21 (.nilc (.tmp 9))),
 (rO 22 (.fa 2 (.tmp 21))),
 (rO 23 (.fa 6 (.tmp 22))),
 ⟨none, (.st 1 (.tmp 23) (.const (.int .i64 0))), none⟩])
def r80 : List RV := []
theorem ok80 : FnOk Tryz.prog 80 24 c80 r80 := ⟨[40, 45], _, _, Tryz.func80, rfl, rfl, by kernel_rfl, by kernel_rfl, by kernel_rfl⟩
/-- (*vouch/tx.Tx).message -/
def c85 : C := (.seq (.reg [(rO 2 (.new 39 [.int .i64 (0), .int .i64 (0), .int .i64 (0), .int .i64 (0), .int .i64 (0), .int .i64 (0), .string ⟨#[]⟩, .int .i64 (0), .int .i64 (0), .bool false, .string ⟨#[]⟩, .bool false, .int .i64 (0), .int .i64 (0), .slice none 0 0, .slice none 0 0]))])
 (.seq (.draw [⟨(rO 4 (.mv (.tmp 0))), .p⟩,
 ⟨(rO 5 (.nilc (.tmp 4))), .p⟩,
 ⟨(rO 6 (.fa 0 (.tmp 5))), .p⟩,
 ⟨(rO 7 (.ld none (.tmp 6))), .l⟩,
 ⟨(rO 8 (.mv (.tmp 0))), .p⟩,
 ⟨(rO 9 (.nilc (.tmp 8))), .p⟩,
 ⟨(rO 10 (.fa 2 (.tmp 9))), .p⟩,
 ⟨(rO 11 (.fa 5 (.tmp 10))), .p⟩,
 ⟨(rO 12 (.ld none (.tmp 11))), .l⟩,
 ⟨(rO 13 (.mv (.tmp 0))), .p⟩,
 ⟨(rO 14 (.nilc (.tmp 13))), .p⟩,
 ⟨(rO 15 (.fa 2 (.tmp 14))), .p⟩,
 ⟨(rO 16 (.fa 4 (.tmp 15))), .p⟩,
 ⟨(rO 17 (.ld none (.tmp 16))), .l⟩,
 ⟨(rO 18 (.mv (.tmp 0))), .p⟩,
 ⟨(rO 19 (.nilc (.tmp 18))), .p⟩,
 ⟨(rO 20 (.fa 2 (.tmp 19))), .p⟩,
 ⟨(rO 21 (.fa 2 (.tmp 20))), .p⟩,
 ⟨(rO 22 (.ld (some 2) (.tmp 21))), .l⟩,
 ⟨(rO 23 (.bld [.int .i64 (0), .int .i64 (0), .int .i64 (0), .int .i64 (0), .int .i64 (0), .int .i64 (0), .string ⟨#[]⟩, .int .i64 (0), .int .i64 (0), .bool false, .string ⟨#[]⟩, .bool false, .int .i64 (0), .int .i64 (0), .slice none 0 0, .slice none 0 0] [(0, 1, (.const (.int .i64 5))), (4, 1, (.tmp 7)), (5, 1, (.tmp 12)), (6, 1, (.tmp 17)), (7, 2, (.tmp 22))])), .p⟩,
 ⟨(rO 3 (.new 39 [.int .i64 (0), .int .i64 (0), .int .i64 (0), .int .i64 (0), .int .i64 (0), .int .i64 (0), .string ⟨#[]⟩, .int .i64 (0), .int .i64 (0), .bool false, .string ⟨#[]⟩, .bool false, .int .i64 (0), .int .i64 (0), .slice none 0 0, .slice none 0 0])), .f⟩,
 ⟨⟨none, (.st 16 (.tmp 3) (.tmp 23)), none⟩, .m⟩])
 (.seq (.seq (.reg [(rO 24 (.mv (.tmp 0))),
 (rO 25 (.nilc (.tmp 24))),
 (rO 26 (.fa 2 (.tmp 25))),
 (rO 27 (.fa 0 (.tmp 26))),
 (rO 28 (.ld none (.tmp 27))),
 (rO 29 (.bin .eql (.tmp 28) (.const (.int .i64 1))))])
 (.cond (.tmp 29) (.draw [⟨(rO 30 (.fa 6 (.tmp 3))), .p⟩,
 ⟨(rO 31 (.ld none (.tmp 30))), .l⟩,
 ⟨(rO 32 (.mv (.tmp 0))), .p⟩,
 ⟨(rO 33 (.nilc (.tmp 32))), .p⟩,
 ⟨(rO 34 (.fa 1 (.tmp 33))), .p⟩,
 ⟨(rO 35 (.ld none (.tmp 34))), .l⟩,
 ⟨(rO 36 (.call 102 [(.tmp 31), (.tmp 35)])), .m⟩,
 ⟨(rO 37 (.fa 0 (.tmp 3))), .p⟩,
 ⟨⟨none, (.st 1 (.tmp 37) (.const (.int .i64 3))), none⟩, .m⟩,
 ⟨(rO 38 (.fa 1 (.tmp 3))), .p⟩,
 ⟨⟨none, (.st 1 (.tmp 38) (.tmp 36)), none⟩, .m⟩])
 .skip))
 (.seq (.reg [(rO 39 (.ld (some 16) (.tmp 3))),
 ⟨none, (.st 16 (.tmp 2) (.tmp 39)), none⟩])
 .ret))))
def r85 : List RV := [.agg 2 16]
theorem ok85 : FnOk Tryz.prog 85 40 c85 r85 := ⟨[40, 45], _, _, Tryz.func85, rfl, rfl, by kernel_rfl, by kernel_rfl, by kernel_rfl⟩
/-- slices.Clone[[]vouch/api.Got,vouch/api.Got] -/
def c95 : C := (.seq (.reg [(rO 2 (.mv (.const (.slice none 0 0))))])
 (.seq (.seq (.reg [(rO 3 (.mv (.tmp 0))),
 (rO 4 (.eqs false .slice (.tmp 3) (.const (.slice none 0 0))))])
 (.cond (.tmp 4) (.seq (.reg [(rO 2 (.mv (.const (.slice none 0 0))))])
 .ret)
 .skip))
 (.seq (.reg [(rO 5 (.lit 128 0 3 [] [])),
 (rO 6 (.mv (.tmp 0))),
 (rO 7 (.app 128 3 40 (.tmp 5) (.tmp 6))),
 (rO 2 (.mv (.tmp 7)))])
 .ret)))
def r95 : List RV := [.tmp 2]
theorem ok95 : FnOk Tryz.prog 95 8 c95 r95 := ⟨[40, 45], _, _, Tryz.func95, rfl, rfl, by kernel_rfl, by kernel_rfl, by kernel_rfl⟩
/-- vouch/fact.Narrow -/
def c98 : C := (.seq (.reg [(rO 2 (.box 33 (.tmp 0))),
 (rO 3 (.box 165 (.tmp 1))),
 (rO 4 (.new 33 [.int .i64 (0), .int .i64 (0)])),
 (rO 5 (.mv (.const (.bool false))))])
 (.seq (.draw [⟨(rO 7 (.ld (some 2) (.tmp 2))), .l⟩,
 ⟨(rO 8 (.call 112 [(.tmp 7)])), .g⟩,
 ⟨(rO 9 (.ld (some 2) (.tmp 3))), .l⟩,
 ⟨(rO 10 (.call 113 [(.tmp 8), (.tmp 9)])), .g⟩,
 ⟨(rO 6 (.new 165 [.int .i64 (0), .int .i64 (0)])), .f⟩,
 ⟨⟨none, (.st 2 (.tmp 6) (.tmp 10)), none⟩, .m⟩])
 (.seq (.draw [⟨(rO 11 (.fa 0 (.tmp 6))), .p⟩,
 ⟨(rO 12 (.ld none (.tmp 11))), .l⟩,
 ⟨(rO 13 (.fa 1 (.tmp 6))), .p⟩,
 ⟨(rO 14 (.ld none (.tmp 13))), .l⟩,
 ⟨(rO 15 (.bld [.int .i64 (0), .int .i64 (0)] [(0, 1, (.tmp 12)), (1, 1, (.tmp 14))])), .p⟩,
 ⟨(rO 16 (.ld (some 2) (.tmp 6))), .l⟩,
 ⟨(rO 17 (.call 114 [(.tmp 16)])), .g⟩,
 ⟨(rO 18 (.nt (.tmp 17))), .p⟩,
 ⟨⟨none, (.st 2 (.tmp 4) (.tmp 15)), none⟩, .m⟩,
 ⟨(rO 5 (.mv (.tmp 18))), .p⟩])
 .ret)))
def r98 : List RV := [.agg 4 2, .tmp 5]
theorem ok98 : FnOk Tryz.prog 98 19 c98 r98 := ⟨[40, 45], _, _, Tryz.func98, rfl, rfl, by kernel_rfl, by kernel_rfl, by kernel_rfl⟩
/-- vouch/span.Of[int64] -/
def c99 : C := (.seq (.reg [(rO 4 (.new 165 [.int .i64 (0), .int .i64 (0)]))])
 (.seq (.seq (.reg [(rO 5 (.mv (.tmp 0))),
 (rO 6 (.mv (.tmp 1))),
 (rO 7 (.bin .geq (.tmp 5) (.tmp 6)))])
 (.cond (.tmp 7) (.seq (.reg [(rO 8 (.bld [.int .i64 (0), .int .i64 (0)] [])),
 ⟨none, (.st 2 (.tmp 4) (.tmp 8)), none⟩])
 .ret)
 .skip))
 (.seq (.reg [(rO 9 (.mv (.tmp 0))),
 (rO 10 (.mv (.tmp 1))),
 (rO 11 (.bld [.int .i64 (0), .int .i64 (0)] [(0, 1, (.tmp 9)), (1, 1, (.tmp 10))])),
 ⟨none, (.st 2 (.tmp 4) (.tmp 11)), none⟩])
 .ret)))
def r99 : List RV := [.agg 4 2]
theorem ok99 : FnOk Tryz.prog 99 12 c99 r99 := ⟨[40, 45], _, _, Tryz.func99, rfl, rfl, by kernel_rfl, by kernel_rfl, by kernel_rfl⟩
/-- vouch/route.To -/
def c102 : C := (.seq (.reg [(rO 4 (.mv (.const (.int .i64 0))))])
 (.seq (.seq (.reg [(rO 5 (.mv (.tmp 1))),
 (rO 6 (.bin .lss (.tmp 5) (.const (.int .i64 1)))),
 (rO 7 (.mv (.tmp 6))),
 ⟨(some 8), (.mv (.tmp 1)), (some (7, false))⟩,
 ⟨(some 9), (.bin .gtr (.tmp 8) (.const (.int .i64 8))), (some (7, false))⟩,
 (rO 10 (.pick (.tmp 7) (.const (.bool true)) (.tmp 9)))])
 (.cond (.tmp 10) (.seq (.reg [(rO 4 (.mv (.const (.int .i64 (-1)))))])
 .ret)
 .skip))
 (.seq (.reg [(rO 11 (.mv (.tmp 0))),
 (rO 12 (.call 121 [(.tmp 11)])),
 (rO 13 (.mv (.tmp 1))),
 (rO 14 (.conv .u64 (.tmp 13))),
 (rO 15 (.bin .rem (.tmp 12) (.tmp 14))),
 (rO 16 (.conv .i64 (.tmp 15))),
 (rO 4 (.mv (.tmp 16)))])
 .ret)))
def r102 : List RV := [.tmp 4]
theorem ok102 : FnOk Tryz.prog 102 17 c102 r102 := ⟨[40, 45], _, _, Tryz.func102, rfl, rfl, by kernel_rfl, by kernel_rfl, by kernel_rfl⟩
/-- vouch/fact.pinned -/
def c112 : C := (.seq (.reg [(rO 1 (.box 33 (.tmp 0))),
 (rO 2 (.new 165 [.int .i64 (0), .int .i64 (0)]))])
 (.seq (.reg [(rO 3 (.fa 0 (.tmp 1))),
 (rO 4 (.ld none (.tmp 3))),
 (rO 5 (.fa 1 (.tmp 1))),
 (rO 6 (.ld none (.tmp 5))),
 (rO 7 (.call 99 [(.tmp 4), (.tmp 6)])),
 ⟨none, (.st 2 (.tmp 2) (.tmp 7)), none⟩])
 .ret))
def r112 : List RV := [.agg 2 2]
theorem ok112 : FnOk Tryz.prog 112 8 c112 r112 := ⟨[40, 45], _, _, Tryz.func112, rfl, rfl, by kernel_rfl, by kernel_rfl, by kernel_rfl⟩
/-- (vouch/span.Span[int64]).Meet -/
def c113 : C := (.seq (.reg [(rO 2 (.box 165 (.tmp 0))),
 (rO 3 (.box 165 (.tmp 1))),
 (rO 4 (.new 165 [.int .i64 (0), .int .i64 (0)]))])
 (.seq (.reg [(rO 5 (.fa 0 (.tmp 2))),
 (rO 6 (.ld none (.tmp 5))),
 (rO 7 (.fa 0 (.tmp 3))),
 (rO 8 (.ld none (.tmp 7))),
 (rO 9 (.mx true (.tmp 6) (.tmp 8))),
 (rO 10 (.fa 1 (.tmp 2))),
 (rO 11 (.ld none (.tmp 10))),
 (rO 12 (.fa 1 (.tmp 3))),
 (rO 13 (.ld none (.tmp 12))),
 (rO 14 (.mx false (.tmp 11) (.tmp 13))),
 (rO 15 (.call 99 [(.tmp 9), (.tmp 14)])),
 ⟨none, (.st 2 (.tmp 4) (.tmp 15)), none⟩])
 .ret))
def r113 : List RV := [.agg 4 2]
theorem ok113 : FnOk Tryz.prog 113 16 c113 r113 := ⟨[40, 45], _, _, Tryz.func113, rfl, rfl, by kernel_rfl, by kernel_rfl, by kernel_rfl⟩
/-- (vouch/span.Span[int64]).Empty -/
def c114 : C := (.seq (.reg [(rO 1 (.box 165 (.tmp 0))),
 (rO 2 (.mv (.const (.bool false))))])
 (.seq (.reg [(rO 3 (.fa 0 (.tmp 1))),
 (rO 4 (.ld none (.tmp 3))),
 (rO 5 (.fa 1 (.tmp 1))),
 (rO 6 (.ld none (.tmp 5))),
 (rO 7 (.bin .geq (.tmp 4) (.tmp 6))),
 (rO 2 (.mv (.tmp 7)))])
 .ret))
def r114 : List RV := [.tmp 2]
theorem ok114 : FnOk Tryz.prog 114 8 c114 r114 := ⟨[40, 45], _, _, Tryz.func114, rfl, rfl, by kernel_rfl, by kernel_rfl, by kernel_rfl⟩
/-- vouch/route.Hash -/
def c121 : C := (.seq (.reg [(rO 2 (.mv (.const (.int .u64 0))))])
 (.seq (.reg [(rO 3 (.mv (.const (.int .u64 14695981039346656037))))])
 (.seq (.seq (.reg [(rO 5 (.mv (.tmp 0))),
 (rO 6 (.len false (.tmp 5))),
 (rO 7 (.mv (.const (.int .i64 0))))])
 (.block 0 (.loop (.seq (.reg [(rO 8 (.bin .lss (.tmp 7) (.tmp 6)))])
 (.seq (.cond (.tmp 8) .skip
 (.exit 0))
 (.seq (.block 1 (.seq (.reg [(rO 9 (.mv (.tmp 7))),
 (rO 4 (.mv (.tmp 9)))])
 (.seq (.reg [(rO 10 (.mv (.tmp 3))),
 (rO 11 (.mv (.tmp 0))),
 (rO 12 (.mv (.tmp 4))),
 (rO 13 (.ixs (.tmp 11) (.tmp 12))),
 (rO 14 (.conv .u64 (.tmp 13))),
 (rO 15 (.bin .xor (.tmp 10) (.tmp 14))),
 (rO 3 (.mv (.tmp 15)))])
 (.reg [(rO 16 (.mv (.tmp 3))),
 (rO 17 (.bin .mul (.tmp 16) (.const (.int .u64 1099511628211)))),
 (rO 3 (.mv (.tmp 17)))]))))
 (.reg [(rO 18 (.bin .add (.tmp 7) (.const (.int .i64 1)))),
 (rO 7 (.mv (.tmp 18)))])))))))
 (.seq (.reg [(rO 19 (.mv (.tmp 3))),
 (rO 2 (.mv (.tmp 19)))])
 .ret))))
def r121 : List RV := [.tmp 2]
theorem ok121 : FnOk Tryz.prog 121 20 c121 r121 := ⟨[40, 45], _, _, Tryz.func121, rfl, rfl, by kernel_rfl, by kernel_rfl, by kernel_rfl⟩
def ofS (lo hi : Int) : Int × Int := if lo ≥ hi then (0, 0) else (lo, hi)
theorem of98 (lo hi : Int) (σ : Hp) : ACalls Tryz.prog 99 #[.int .i64 lo, .int .i64 hi] σ fun v σ' => v = .agg #[.int .i64 (ofS lo hi).1, .int .i64 (ofS lo hi).2] ∧ σ' = σ := by
  (refine acalls_F ok99 (by simp) ?_; unfold c99 r99)
  (repeat' (first | (simp +contextual -dsimp only [*, ↓reduceIte, ↓evP, evQ, splice, Nat.reduceAdd, Nat.reduceEqDiff, Nat.reduceLeDiff, Nat.reduceMul, reduceCtorEq, Int.reduceLT, Int.reduceLE, Int.reduceGT, Int.reduceGE, Int.reduceEq, Int.reduceNeg]) | (refine condF_split (fun hc => ?_) (fun hc => ?_) <;> (try simp only [Bool.not_eq_true', Bool.not_eq_false', Bool.and_eq_true, Bool.or_eq_false_iff] at hc)) | (intro _; intros) | (refine And.intro ?_ ?_; focus (first | omega | ((repeat (first | exact Sub.refl _ | (refine Sub.drop ?_ ?_; focus (simp only [evN, *]; done)) | refine Sub.both ?_)); done) | (simp_all; done) | (simp_all; omega)))))
  all_goals exact endF_sub (by (repeat (first | exact Sub.refl _ | (refine Sub.drop ?_ ?_; focus (simp only [evN, *]; done)) | refine Sub.both ?_)); done) ⟨by ((try simp only [decide_eq_true_eq, decide_eq_false_iff_not] at *) <;> first | rfl | (simp [ofS]; done) | (simp_all [ofS]; done) | (simp [ofS]; omega) | (simp [ofS]; (rw [Bool.eq_iff_iff]); simp; omega) | (simp_all [ofS] <;> omega) | ((try unfold ofS); (rw [Value.bool.injEq, Bool.eq_iff_iff]); simp <;> omega) | ((try unfold ofS); (repeat' split) <;> simp_all <;> omega) | (simp_all [ofS] <;> (repeat' split) <;> simp_all <;> omega)), rfl⟩
theorem empty113 (lo hi : Int) (σ : Hp) : ACalls Tryz.prog 114 #[.agg #[.int .i64 lo, .int .i64 hi]] σ fun v σ' => v = .bool (decide (lo ≥ hi)) ∧ σ' = σ := by
  (refine acalls_F ok114 (by simp) ?_; unfold c114 r114)
  (repeat' (first | (simp +contextual -dsimp only [*, ↓reduceIte, ↓evP, evQ, splice, Nat.reduceAdd, Nat.reduceEqDiff, Nat.reduceLeDiff, Nat.reduceMul, reduceCtorEq, Int.reduceLT, Int.reduceLE, Int.reduceGT, Int.reduceGE, Int.reduceEq, Int.reduceNeg]) | (refine condF_split (fun hc => ?_) (fun hc => ?_) <;> (try simp only [Bool.not_eq_true', Bool.not_eq_false', Bool.and_eq_true, Bool.or_eq_false_iff] at hc)) | (intro _; intros) | (refine And.intro ?_ ?_; focus (first | omega | ((repeat (first | exact Sub.refl _ | (refine Sub.drop ?_ ?_; focus (simp only [evN, *]; done)) | refine Sub.both ?_)); done) | (simp_all; done) | (simp_all; omega)))))
  all_goals exact endF_sub (by (repeat (first | exact Sub.refl _ | (refine Sub.drop ?_ ?_; focus (simp only [evN, *]; done)) | refine Sub.both ?_)); done) ⟨by ((try simp only [decide_eq_true_eq, decide_eq_false_iff_not] at *) <;> first | rfl | (simp []; done) | (simp_all []; done) | (simp []; omega) | (simp []; (rw [Bool.eq_iff_iff]); simp; omega) | (simp_all [] <;> omega) | ((try unfold id); (rw [Value.bool.injEq, Bool.eq_iff_iff]); simp <;> omega) | ((try unfold id); (repeat' split) <;> simp_all <;> omega) | (simp_all [] <;> (repeat' split) <;> simp_all <;> omega)), rfl⟩
theorem meet112 (a b c d : Int) (σ : Hp) : ACalls Tryz.prog 113 #[.agg #[.int .i64 a, .int .i64 b], .agg #[.int .i64 c, .int .i64 d]] σ fun v σ' => v = .agg #[.int .i64 (ofS (mxI a c) (mnI b d)).1, .int .i64 (ofS (mxI a c) (mnI b d)).2] ∧ σ' = σ := by
  (refine acalls_F ok113 (by simp) ?_; unfold c113 r113)
  (repeat' (first | (simp +contextual -dsimp only [*, ↓reduceIte, ↓evP, evQ, splice, Nat.reduceAdd, Nat.reduceEqDiff, Nat.reduceLeDiff, Nat.reduceMul, reduceCtorEq, Int.reduceLT, Int.reduceLE, Int.reduceGT, Int.reduceGE, Int.reduceEq, Int.reduceNeg]) | (refine condF_split (fun hc => ?_) (fun hc => ?_) <;> (try simp only [Bool.not_eq_true', Bool.not_eq_false', Bool.and_eq_true, Bool.or_eq_false_iff] at hc)) | refine callF_v (of98 _ _ _) ?_ | refine ccallF_of (of98 _ _ _) ?_ | refine gcallF_of (of98 _ _ _) ?_ | (intro _; intros) | (refine And.intro ?_ ?_; focus (first | omega | ((repeat (first | exact Sub.refl _ | (refine Sub.drop ?_ ?_; focus (simp only [evN, *]; done)) | refine Sub.both ?_)); done) | (simp_all; done) | (simp_all; omega)))))
  all_goals exact endF_sub (by (repeat (first | exact Sub.refl _ | (refine Sub.drop ?_ ?_; focus (simp only [evN, *]; done)) | refine Sub.both ?_)); done) ⟨by ((try simp only [decide_eq_true_eq, decide_eq_false_iff_not] at *) <;> first | rfl | (simp []; done) | (simp_all []; done) | (simp []; omega) | (simp []; (rw [Bool.eq_iff_iff]); simp; omega) | (simp_all [] <;> omega) | ((try unfold id); (rw [Value.bool.injEq, Bool.eq_iff_iff]); simp <;> omega) | ((try unfold id); (repeat' split) <;> simp_all <;> omega) | (simp_all [] <;> (repeat' split) <;> simp_all <;> omega)), rfl⟩
theorem pinned111 (a b : Int) (σ : Hp) : ACalls Tryz.prog 112 #[.agg #[.int .i64 a, .int .i64 b]] σ fun v σ' => v = .agg #[.int .i64 (ofS a b).1, .int .i64 (ofS a b).2] ∧ σ' = σ := by
  (refine acalls_F ok112 (by simp) ?_; unfold c112 r112)
  (repeat' (first | (simp +contextual -dsimp only [*, ↓reduceIte, ↓evP, evQ, splice, Nat.reduceAdd, Nat.reduceEqDiff, Nat.reduceLeDiff, Nat.reduceMul, reduceCtorEq, Int.reduceLT, Int.reduceLE, Int.reduceGT, Int.reduceGE, Int.reduceEq, Int.reduceNeg]) | (refine condF_split (fun hc => ?_) (fun hc => ?_) <;> (try simp only [Bool.not_eq_true', Bool.not_eq_false', Bool.and_eq_true, Bool.or_eq_false_iff] at hc)) | refine callF_v (of98 _ _ _) ?_ | refine ccallF_of (of98 _ _ _) ?_ | refine gcallF_of (of98 _ _ _) ?_ | (intro _; intros) | (refine And.intro ?_ ?_; focus (first | omega | ((repeat (first | exact Sub.refl _ | (refine Sub.drop ?_ ?_; focus (simp only [evN, *]; done)) | refine Sub.both ?_)); done) | (simp_all; done) | (simp_all; omega)))))
  all_goals exact endF_sub (by (repeat (first | exact Sub.refl _ | (refine Sub.drop ?_ ?_; focus (simp only [evN, *]; done)) | refine Sub.both ?_)); done) ⟨by ((try simp only [decide_eq_true_eq, decide_eq_false_iff_not] at *) <;> first | rfl | (simp []; done) | (simp_all []; done) | (simp []; omega) | (simp []; (rw [Bool.eq_iff_iff]); simp; omega) | (simp_all [] <;> omega) | ((try unfold id); (rw [Value.bool.injEq, Bool.eq_iff_iff]); simp <;> omega) | ((try unfold id); (repeat' split) <;> simp_all <;> omega) | (simp_all [] <;> (repeat' split) <;> simp_all <;> omega)), rfl⟩
/-- What a pin and a span have in common, and whether it is not empty. -/
def nar (a b c d : Int) : Int × Int := ofS (mxI (ofS a b).1 c) (mnI (ofS a b).2 d)
theorem narrow97 (a b c d : Int) (σ : Hp) : ACalls Tryz.prog 98 #[.agg #[.int .i64 a, .int .i64 b], .agg #[.int .i64 c, .int .i64 d]] σ fun v σ' =>
    v = .tuple #[.agg #[.int .i64 (nar a b c d).1, .int .i64 (nar a b c d).2], .bool (!decide ((nar a b c d).1 ≥ (nar a b c d).2))] ∧ σ' = σ := by
  (refine acalls_F ok98 (by simp) ?_; unfold c98 r98)
  (repeat' (first | (simp +contextual -dsimp only [*, ↓reduceIte, ↓evP, evQ, splice, Nat.reduceAdd, Nat.reduceEqDiff, Nat.reduceLeDiff, Nat.reduceMul, reduceCtorEq, Int.reduceLT, Int.reduceLE, Int.reduceGT, Int.reduceGE, Int.reduceEq, Int.reduceNeg]) | (refine condF_split (fun hc => ?_) (fun hc => ?_) <;> (try simp only [Bool.not_eq_true', Bool.not_eq_false', Bool.and_eq_true, Bool.or_eq_false_iff] at hc)) | refine callF_v (pinned111 _ _ _) ?_ | refine callF_v (meet112 _ _ _ _ _) ?_ | refine callF_v (empty113 _ _ _) ?_ | refine ccallF_of (pinned111 _ _ _) ?_ | refine ccallF_of (meet112 _ _ _ _ _) ?_ | refine ccallF_of (empty113 _ _ _) ?_ | refine gcallF_of (pinned111 _ _ _) ?_ | refine gcallF_of (meet112 _ _ _ _ _) ?_ | refine gcallF_of (empty113 _ _ _) ?_ | (intro _; intros) | (refine And.intro ?_ ?_; focus (first | omega | ((repeat (first | exact Sub.refl _ | (refine Sub.drop ?_ ?_; focus (simp only [evN, *]; done)) | refine Sub.both ?_)); done) | (simp_all; done) | (simp_all; omega)))))
  all_goals exact endF_sub (by (repeat (first | exact Sub.refl _ | (refine Sub.drop ?_ ?_; focus (simp only [evN, *]; done)) | refine Sub.both ?_)); done) ⟨by ((try simp only [decide_eq_true_eq, decide_eq_false_iff_not] at *) <;> first | rfl | (simp [nar]; done) | (simp_all [nar]; done) | (simp [nar]; omega) | (simp [nar]; (rw [Bool.eq_iff_iff]); simp; omega) | (simp_all [nar] <;> omega) | ((try unfold nar); (rw [Value.bool.injEq, Bool.eq_iff_iff]); simp <;> omega) | ((try unfold nar); (repeat' split) <;> simp_all <;> omega) | (simp_all [nar] <;> (repeat' split) <;> simp_all <;> omega)), rfl⟩
def hstep (h : Int) (b : UInt8) : Int := IntKind.u64.wrap (IntKind.u64.wrap ((BitVec.ofInt IntKind.u64.bits h ^^^ BitVec.ofInt IntKind.u64.bits (IntKind.u64.wrap (b.toNat : Int))).toNat : Int) * 1099511628211)
def hashN (l : List UInt8) (i : Nat) : Int := (l.take i).foldl hstep 14695981039346656037
def hashK (k : ByteArray) : Int := hashN k.data.toList k.data.toList.length
theorem hashN_succ (l : List UInt8) (i : Nat) (h : i < l.length) : hashN l (i + 1) = hstep (hashN l i) (l.getD i 0) := by
  unfold hashN
  rw [List.take_succ_eq_append_getElem h, List.foldl_append]
  have e : l.getD i 0 = l[i] := by rw [List.getD_eq_getElem?_getD, List.getElem?_eq_getElem h]; rfl
  rw [e]; rfl
theorem size_len (k : ByteArray) : k.size = k.data.toList.length := Array.length_toList.symm
theorem hash114 (key : ByteArray) (σ : Hp) (hsz : key.size ≤ 140737488351232) : ACalls Tryz.prog 121 #[.string key] σ fun v σ' => v = .int .u64 (hashK key) ∧ σ' = σ := by
  (refine acalls_F ok121 (by simp) ?_; unfold c121 r121; simp +contextual -dsimp only [↓reduceIte, ↓evP, evQ, splice, Nat.reduceAdd, Nat.reduceEqDiff, Nat.reduceLeDiff, Nat.reduceMul, reduceCtorEq, Int.reduceLT, Int.reduceLE, Int.reduceGT, Int.reduceGE, Int.reduceEq, Int.reduceNeg])
  refine loopF_of (fun k s σ' => ∃ i : Nat, i ≤ key.size ∧ k = key.size - i ∧ s 7 = .int .i64 i ∧ s 3 = .int .u64 (hashN key.data.toList i) ∧ s 6 = .int .i64 key.size ∧ s 0 = .string key ∧ σ' = σ) key.size (Sub.refl _) ⟨0, by omega, rfl, rfl, rfl, rfl, rfl, rfl⟩ ?_
  rintro k s σ' ⟨i, hi, hk, h7, h3, h6, h0, rfl⟩
  (repeat' (first | (simp +contextual -dsimp only [*, ↓reduceIte, ↓evP, evQ, splice, Nat.reduceAdd, Nat.reduceEqDiff, Nat.reduceLeDiff, Nat.reduceMul, reduceCtorEq, Int.reduceLT, Int.reduceLE, Int.reduceGT, Int.reduceGE, Int.reduceEq, Int.reduceNeg]) | (refine condF_split (fun hc => ?_) (fun hc => ?_) <;> (try simp only [Bool.not_eq_true', Bool.not_eq_false', Bool.and_eq_true, Bool.or_eq_false_iff] at hc)) | (intro _; intros) | (refine And.intro ?_ ?_; focus (first | omega | ((repeat (first | exact Sub.refl _ | (refine Sub.drop ?_ ?_; focus (simp only [evN, *]; done)) | refine Sub.both ?_)); done) | (simp_all; done) | (simp_all; omega)))))
  all_goals (try simp only [decide_eq_true_eq, decide_eq_false_iff_not] at *)
  · refine nextF_of (key.size - (i + 1)) (by omega) (Sub.refl _) ⟨i + 1, by omega, rfl, ?_, ?_, (by first | rfl | (simp only [↓putO_get, ↓putO_no, init_zero, init_succ, Nat.reduceEqDiff, ↓reduceIte, *]; done) | (simp only [↓putO_get, ↓putO_no, init_zero, init_succ, Nat.reduceEqDiff, ↓reduceIte, *]; rfl)), (by first | rfl | (simp only [↓putO_get, ↓putO_no, init_zero, init_succ, Nat.reduceEqDiff, ↓reduceIte, *]; done) | (simp only [↓putO_get, ↓putO_no, init_zero, init_succ, Nat.reduceEqDiff, ↓reduceIte, *]; rfl)), rfl⟩
    · show Value.int .i64 (IntKind.i64.wrap _) = _; rw [wi64 (by omega)]; rfl
    · rw [hashN_succ _ _ (by rw [← size_len]; omega)]; rfl
  · obtain rfl : i = key.size := by omega
    exact endF_sub (by (repeat (first | exact Sub.refl _ | (refine Sub.drop ?_ ?_; focus (simp only [evN, *]; done)) | refine Sub.both ?_)); done) ⟨by rw [size_len]; rfl, rfl⟩
theorem hashN_range (l : List UInt8) (i : Nat) : 0 ≤ hashN l i ∧ hashN l i < 18446744073709551616 := by
  induction i with
  | zero => simp only [hashN, List.take_zero, List.foldl_nil]; decide
  | succ i ih =>
    by_cases h : i < l.length
    · rw [hashN_succ l i h]; unfold hstep
      simp only [IntKind.wrap_u64]; omega
    · have e : hashN l (i + 1) = hashN l i := by unfold hashN; rw [List.take_of_length_le (by omega), List.take_of_length_le (by omega)]
      rw [e]; exact ih
/-- The node of a key. -/
def toN (key : ByteArray) (n : Int) : Int := if n < 1 ∨ n > 8 then -1 else (hashK key) % n
theorem to99 (key : ByteArray) (n : Int) (σ : Hp) (hsz : key.size ≤ 140737488351232) : ACalls Tryz.prog 102 #[.string key, .int .i64 n] σ fun v σ' => v = .int .i64 (toN key n) ∧ σ' = σ := by
  have hr := hashN_range key.data.toList key.data.toList.length
  have e1 : ∀ h : ¬ (n < 1 ∨ n > 8), IntKind.u64.wrap n = n := fun h => by rw [IntKind.wrap_u64]; omega
  (refine acalls_F ok102 (by simp) ?_; unfold c102 r102)
  (repeat' (first | (simp +contextual -dsimp only [*, ↓reduceIte, ↓evP, evQ, splice, Nat.reduceAdd, Nat.reduceEqDiff, Nat.reduceLeDiff, Nat.reduceMul, reduceCtorEq, Int.reduceLT, Int.reduceLE, Int.reduceGT, Int.reduceGE, Int.reduceEq, Int.reduceNeg]) | (refine condF_split (fun hc => ?_) (fun hc => ?_) <;> (try simp only [Bool.not_eq_true', Bool.not_eq_false', Bool.and_eq_true, Bool.or_eq_false_iff] at hc)) | refine callF_v (hash114 _ _ (by assumption)) ?_ | refine ccallF_of (hash114 _ _ (by assumption)) ?_ | refine gcallF_of (hash114 _ _ (by assumption)) ?_ | (intro _; intros) | (refine And.intro ?_ ?_; focus (first | omega | ((repeat (first | exact Sub.refl _ | (refine Sub.drop ?_ ?_; focus (simp only [evN, *]; done)) | refine Sub.both ?_)); done) | (simp_all; done) | (simp_all; omega)))))
  all_goals (try simp only [decide_eq_true_eq, decide_eq_false_iff_not] at *)
  · exact endF_sub (by (repeat (first | exact Sub.refl _ | (refine Sub.drop ?_ ?_; focus (simp only [evN, *]; done)) | refine Sub.both ?_)); done) ⟨by unfold toN; rw [if_pos (by omega)], rfl⟩
  · exact endF_sub (by (repeat (first | exact Sub.refl _ | (refine Sub.drop ?_ ?_; focus (simp only [evN, *]; done)) | refine Sub.both ?_)); done) ⟨by unfold toN; rw [if_pos (by omega)], rfl⟩
  · rw [e1 (by omega), if_neg (by omega)]
    simp +contextual -dsimp only [*, ↓reduceIte, ↓evP, evQ, splice, Nat.reduceAdd, Nat.reduceEqDiff, Nat.reduceLeDiff, Nat.reduceMul, reduceCtorEq, Int.reduceLT, Int.reduceLE, Int.reduceGT, Int.reduceGE, Int.reduceEq, Int.reduceNeg]
    refine endF_sub (by (repeat (first | exact Sub.refl _ | (refine Sub.drop ?_ ?_; focus (simp only [evN, *]; done)) | refine Sub.both ?_)); done) ⟨?_, rfl⟩
    unfold toN hashK
    have m1 := Int.emod_nonneg (hashN key.data.toList key.data.toList.length) (show n ≠ 0 by omega)
    have m2 := Int.emod_lt_of_pos (hashN key.data.toList key.data.toList.length) (show 0 < n by omega)
    rw [if_neg (by omega), Int.tmod_eq_emod_of_nonneg (by omega), wi64 (by omega)]
structure Got where
  key : ByteArray
  has : Bool
  data : ByteArray
structure TxS where
  id : Int
  nodes : Int
  st : Int
  er : Int
  lo : Int
  hi : Int
  key : ByteArray
  seq : Int
  tr : Int
  reads : List Got
def TxS.cells (T : TxS) (v : Value) : List Value := [.int .i64 T.id, .int .i64 T.nodes, .int .i64 T.st, .int .i64 T.er, .int .i64 T.lo, .int .i64 T.hi, .string T.key, .int .i64 T.seq, .int .i64 T.tr, v]
/-- The request that is under way. -/
def TxS.req (T : TxS) : Msg := { kind := cond (decide (T.st = 1)) 3 5, node := cond (decide (T.st = 1)) (toN T.key T.nodes) 0, tx := T.id, seq := T.seq, key := T.key, lo := T.lo, hi := T.hi }
def TxS.busy (T : TxS) : Bool := decide (T.st = 1) || decide (T.st = 2)
def TxS.asks (T : TxS) (st : Int) (key : ByteArray) : TxS := { T with st := st, key := key, tr := 0, seq := IntKind.i64.wrap (T.seq + 1) }
def TxS.rests (T : TxS) (st er : Int) : TxS := { T with st := st, er := er, key := ⟨#[]⟩, tr := 0 }
theorem rest83 {σ : Hp} {g : Nat} {T : TxS} {v : Value} (hg : σ g = some (.cells (T.cells v) 133)) (st er : Int) :
    ACalls Tryz.prog 80 #[.pointer (some ⟨g, 0, none⟩), .int .i64 st, .int .i64 er] σ fun u σ' => u = .tuple #[] ∧ σ' = set σ g (.cells ((T.rests st er).cells v) 133) := by
  (unfold TxS.cells at hg; obtain ⟨τ, rfl⟩ := open_upd hg; clear hg)
  (refine acalls_F ok80 (by simp) ?_; unfold c80 r80)
  (repeat' (first | (simp +contextual -dsimp only [*, Msg.cells, TxS.cells, TxS.req, ↓reduceIte, ↓evP, evQ, splice, Nat.reduceAdd, Nat.reduceEqDiff, Nat.reduceLeDiff, Nat.reduceMul, reduceCtorEq, Int.reduceLT, Int.reduceLE, Int.reduceGT, Int.reduceGE, Int.reduceEq, Int.reduceNeg]) | (refine condF_split (fun hc => ?_) (fun hc => ?_) <;> (try simp only [Bool.not_eq_true', Bool.not_eq_false', Bool.and_eq_true, Bool.or_eq_false_iff] at hc)) | (intro _; intros) | (refine And.intro ?_ ?_; focus (first | omega | ((repeat (first | exact Sub.refl _ | (refine Sub.drop ?_ ?_; focus (simp only [evN, *]; done)) | refine Sub.both ?_)); done) | (simp_all; done) | (simp_all; omega)))))
  all_goals (refine endF_det ?_ ?_; (focus ((try simp only [cond_true, cond_false, *]) <;> ((try simp only [decide_eq_true_eq, decide_eq_false_iff_not] at *) <;> first | rfl | (simp []; done) | (simp_all []; done) | (simp []; omega) | (simp []; (rw [Bool.eq_iff_iff]); simp; omega) | (simp_all [] <;> omega) | ((try unfold id); (rw [Value.bool.injEq, Bool.eq_iff_iff]); simp <;> omega) | ((try unfold id); (repeat' split) <;> simp_all <;> omega) | (simp_all [] <;> (repeat' split) <;> simp_all <;> omega)))); (focus ((try simp only [cond_true, cond_false, set_same, *]); exact (by (repeat (first | exact Sub.refl _ | (refine Sub.drop ?_ ?_; focus (simp only [evN, *]; done)) | refine Sub.both ?_)); done))))
theorem busy80 {σ : Hp} {g : Nat} {T : TxS} {v : Value} (hg : σ g = some (.cells (T.cells v) 133)) :
    ACalls Tryz.prog 77 #[.pointer (some ⟨g, 0, none⟩)] σ fun u σ' => u = .bool T.busy ∧ σ' = σ := by
  (unfold TxS.cells at hg; obtain ⟨τ, rfl⟩ := open_upd hg; clear hg)
  (refine acalls_F ok77 (by simp) ?_; unfold c77 r77)
  (repeat' (first | (simp +contextual -dsimp only [*, Msg.cells, TxS.cells, TxS.req, ↓reduceIte, ↓evP, evQ, splice, Nat.reduceAdd, Nat.reduceEqDiff, Nat.reduceLeDiff, Nat.reduceMul, reduceCtorEq, Int.reduceLT, Int.reduceLE, Int.reduceGT, Int.reduceGE, Int.reduceEq, Int.reduceNeg]) | (refine condF_split (fun hc => ?_) (fun hc => ?_) <;> (try simp only [Bool.not_eq_true', Bool.not_eq_false', Bool.and_eq_true, Bool.or_eq_false_iff] at hc)) | (intro _; intros) | (refine And.intro ?_ ?_; focus (first | omega | ((repeat (first | exact Sub.refl _ | (refine Sub.drop ?_ ?_; focus (simp only [evN, *]; done)) | refine Sub.both ?_)); done) | (simp_all; done) | (simp_all; omega)))))
  all_goals (refine endF_det ?_ ?_; (focus ((try simp only [TxS.busy, cond_true, cond_false, *]) <;> ((try simp only [decide_eq_true_eq, decide_eq_false_iff_not] at *) <;> first | rfl | (simp [TxS.busy]; done) | (simp_all [TxS.busy]; done) | (simp [TxS.busy]; omega) | (simp [TxS.busy]; (rw [Bool.eq_iff_iff]); simp; omega) | (simp_all [TxS.busy] <;> omega) | ((try unfold TxS.busy); (rw [Value.bool.injEq, Bool.eq_iff_iff]); simp <;> omega) | ((try unfold TxS.busy); (repeat' split) <;> simp_all <;> omega) | (simp_all [TxS.busy] <;> (repeat' split) <;> simp_all <;> omega)))); (focus ((try simp only [TxS.busy, cond_true, cond_false, set_same, *]); exact (by (repeat (first | exact Sub.refl _ | (refine Sub.drop ?_ ?_; focus (simp only [evN, *]; done)) | refine Sub.both ?_)); done))))
theorem message84 {σ : Hp} {g : Nat} {T : TxS} {v : Value} (hg : σ g = some (.cells (T.cells v) 133)) (hk : T.key.size ≤ 140737488351232) :
    ACalls Tryz.prog 85 #[.pointer (some ⟨g, 0, none⟩)] σ fun u σ' => u = .agg T.req.cells.toArray ∧ σ' = σ := by
  (unfold TxS.cells at hg; obtain ⟨τ, rfl⟩ := open_upd hg; clear hg)
  (refine acalls_F ok85 (by simp) ?_; unfold c85 r85)
  (repeat' (first | (simp +contextual -dsimp only [*, Msg.cells, TxS.cells, TxS.req, ↓reduceIte, ↓evP, evQ, splice, Nat.reduceAdd, Nat.reduceEqDiff, Nat.reduceLeDiff, Nat.reduceMul, reduceCtorEq, Int.reduceLT, Int.reduceLE, Int.reduceGT, Int.reduceGE, Int.reduceEq, Int.reduceNeg]) | (refine condF_split (fun hc => ?_) (fun hc => ?_) <;> (try simp only [Bool.not_eq_true', Bool.not_eq_false', Bool.and_eq_true, Bool.or_eq_false_iff] at hc)) | refine callF_v (to99 _ _ _ (by assumption)) ?_ | refine ccallF_of (to99 _ _ _ (by assumption)) ?_ | refine gcallF_of (to99 _ _ _ (by assumption)) ?_ | (intro _; intros) | (refine And.intro ?_ ?_; focus (first | omega | ((repeat (first | exact Sub.refl _ | (refine Sub.drop ?_ ?_; focus (simp only [evN, *]; done)) | refine Sub.both ?_)); done) | (simp_all; done) | (simp_all; omega)))))
  all_goals (refine endF_det ?_ ?_; (focus ((try simp only [TxS.req, Msg.cells, cond_true, cond_false, *]) <;> ((try simp only [decide_eq_true_eq, decide_eq_false_iff_not] at *) <;> first | rfl | (simp [TxS.req, Msg.cells]; done) | (simp_all [TxS.req, Msg.cells]; done) | (simp [TxS.req, Msg.cells]; omega) | (simp [TxS.req, Msg.cells]; (rw [Bool.eq_iff_iff]); simp; omega) | (simp_all [TxS.req, Msg.cells] <;> omega) | ((try unfold TxS.req  Msg.cells); (rw [Value.bool.injEq, Bool.eq_iff_iff]); simp <;> omega) | ((try unfold TxS.req  Msg.cells); (repeat' split) <;> simp_all <;> omega) | (simp_all [TxS.req, Msg.cells] <;> (repeat' split) <;> simp_all <;> omega)))); (focus ((try simp only [TxS.req, Msg.cells, cond_true, cond_false, set_same, *]); exact (by (repeat (first | exact Sub.refl _ | (refine Sub.drop ?_ ?_; focus (simp only [evN, *]; done)) | refine Sub.both ?_)); done))))
theorem ask81 {σ : Hp} {g : Nat} {T : TxS} {v : Value} (hg : σ g = some (.cells (T.cells v) 133)) (st : Int) (key : ByteArray) (hk : key.size ≤ 140737488351232) :
    ACalls Tryz.prog 79 #[.pointer (some ⟨g, 0, none⟩), .int .i64 st, .string key] σ fun u σ' => u = .agg (T.asks st key).req.cells.toArray ∧ σ' = set σ g (.cells ((T.asks st key).cells v) 133) := by
  (unfold TxS.cells at hg; obtain ⟨τ, rfl⟩ := open_upd hg; clear hg)
  (refine acalls_F ok79 (by simp) ?_; unfold c79 r79)
  (repeat' (first | (simp +contextual -dsimp only [*, Msg.cells, TxS.cells, TxS.req, ↓reduceIte, ↓evP, evQ, splice, Nat.reduceAdd, Nat.reduceEqDiff, Nat.reduceLeDiff, Nat.reduceMul, reduceCtorEq, Int.reduceLT, Int.reduceLE, Int.reduceGT, Int.reduceGE, Int.reduceEq, Int.reduceNeg]) | (refine condF_split (fun hc => ?_) (fun hc => ?_) <;> (try simp only [Bool.not_eq_true', Bool.not_eq_false', Bool.and_eq_true, Bool.or_eq_false_iff] at hc)) | refine callF_v (message84 (T := T.asks st key) (v := v) (by first | rfl | (simp only [upd_same, upd_at, set_at, *, ↓reduceIte]; done) | (simp only [upd_same, upd_at, set_at, *, ↓reduceIte]; rfl)) (by assumption)) ?_ | refine ccallF_of (message84 (T := T.asks st key) (v := v) (by first | rfl | (simp only [upd_same, upd_at, set_at, *, ↓reduceIte]; done) | (simp only [upd_same, upd_at, set_at, *, ↓reduceIte]; rfl)) (by assumption)) ?_ | refine gcallF_of (message84 (T := T.asks st key) (v := v) (by first | rfl | (simp only [upd_same, upd_at, set_at, *, ↓reduceIte]; done) | (simp only [upd_same, upd_at, set_at, *, ↓reduceIte]; rfl)) (by assumption)) ?_ | (intro _; intros) | (refine And.intro ?_ ?_; focus (first | omega | ((repeat (first | exact Sub.refl _ | (refine Sub.drop ?_ ?_; focus (simp only [evN, *]; done)) | refine Sub.both ?_)); done) | (simp_all; done) | (simp_all; omega)))))
  all_goals (refine endF_det ?_ ?_; (focus ((try simp only [TxS.req, Msg.cells, cond_true, cond_false, *]) <;> ((try simp only [decide_eq_true_eq, decide_eq_false_iff_not] at *) <;> first | rfl | (simp [TxS.req, Msg.cells]; done) | (simp_all [TxS.req, Msg.cells]; done) | (simp [TxS.req, Msg.cells]; omega) | (simp [TxS.req, Msg.cells]; (rw [Bool.eq_iff_iff]); simp; omega) | (simp_all [TxS.req, Msg.cells] <;> omega) | ((try unfold TxS.req  Msg.cells); (rw [Value.bool.injEq, Bool.eq_iff_iff]); simp <;> omega) | ((try unfold TxS.req  Msg.cells); (repeat' split) <;> simp_all <;> omega) | (simp_all [TxS.req, Msg.cells] <;> (repeat' split) <;> simp_all <;> omega)))); (focus ((try simp only [TxS.req, Msg.cells, cond_true, cond_false, set_same, *]); exact (by (repeat (first | exact Sub.refl _ | (refine Sub.drop ?_ ?_; focus (simp only [evN, *]; done)) | refine Sub.both ?_)); done))))
/-- Again. -/
def TxS.more (T : TxS) : TxS := { T with tr := IntKind.i64.wrap (T.tr + 1) }
def TxS.again (T : TxS) (n : Int) : TxS × Msg × Int :=
  cond T.busy (cond (decide (T.tr < n)) (T.more, T.more.req, 0) (cond (decide (T.st = 1)) (T.asks 2 T.key, (T.asks 2 T.key).req, 0) (T.rests 4 41, {}, 41))) (T, {}, 3)
theorem again69 {σ : Hp} {g : Nat} {T : TxS} {v : Value} (hg : σ g = some (.cells (T.cells v) 133)) (n : Int) (hk : T.key.size ≤ 140737488351232) :
    ACalls Tryz.prog 55 #[.pointer (some ⟨g, 0, none⟩), .int .i64 n] σ fun u σ' => u = .tuple #[.agg (T.again n).2.1.cells.toArray, .int .i64 (T.again n).2.2] ∧ σ' = set σ g (.cells ((T.again n).1.cells v) 133) := by
  (unfold TxS.cells at hg; obtain ⟨τ, rfl⟩ := open_upd hg; clear hg)
  (refine acalls_F ok55 (by simp) ?_; unfold c55 r55)
  (repeat' (first | (simp +contextual -dsimp only [*, Msg.cells, TxS.cells, TxS.req, ↓reduceIte, ↓evP, evQ, splice, Nat.reduceAdd, Nat.reduceEqDiff, Nat.reduceLeDiff, Nat.reduceMul, reduceCtorEq, Int.reduceLT, Int.reduceLE, Int.reduceGT, Int.reduceGE, Int.reduceEq, Int.reduceNeg]) | (refine condF_split (fun hc => ?_) (fun hc => ?_) <;> (try simp only [Bool.not_eq_true', Bool.not_eq_false', Bool.and_eq_true, Bool.or_eq_false_iff] at hc)) | refine callF_v (busy80 (T := T) (v := v) (by first | rfl | (simp only [upd_same, upd_at, set_at, *, ↓reduceIte]; done) | (simp only [upd_same, upd_at, set_at, *, ↓reduceIte]; rfl))) ?_ | refine callF_v (message84 (T := T.more) (v := v) (by first | rfl | (simp only [upd_same, upd_at, set_at, *, ↓reduceIte]; done) | (simp only [upd_same, upd_at, set_at, *, ↓reduceIte]; rfl)) (by assumption)) ?_ | refine callF_v (ask81 (T := T) (v := v) (by first | rfl | (simp only [upd_same, upd_at, set_at, *, ↓reduceIte]; done) | (simp only [upd_same, upd_at, set_at, *, ↓reduceIte]; rfl)) _ _ (by assumption)) ?_ | refine callF_v (rest83 (T := T) (v := v) (by first | rfl | (simp only [upd_same, upd_at, set_at, *, ↓reduceIte]; done) | (simp only [upd_same, upd_at, set_at, *, ↓reduceIte]; rfl)) _ _) ?_ | refine ccallF_of (busy80 (T := T) (v := v) (by first | rfl | (simp only [upd_same, upd_at, set_at, *, ↓reduceIte]; done) | (simp only [upd_same, upd_at, set_at, *, ↓reduceIte]; rfl))) ?_ | refine ccallF_of (message84 (T := T.more) (v := v) (by first | rfl | (simp only [upd_same, upd_at, set_at, *, ↓reduceIte]; done) | (simp only [upd_same, upd_at, set_at, *, ↓reduceIte]; rfl)) (by assumption)) ?_ | refine ccallF_of (ask81 (T := T) (v := v) (by first | rfl | (simp only [upd_same, upd_at, set_at, *, ↓reduceIte]; done) | (simp only [upd_same, upd_at, set_at, *, ↓reduceIte]; rfl)) _ _ (by assumption)) ?_ | refine ccallF_of (rest83 (T := T) (v := v) (by first | rfl | (simp only [upd_same, upd_at, set_at, *, ↓reduceIte]; done) | (simp only [upd_same, upd_at, set_at, *, ↓reduceIte]; rfl)) _ _) ?_ | refine gcallF_of (busy80 (T := T) (v := v) (by first | rfl | (simp only [upd_same, upd_at, set_at, *, ↓reduceIte]; done) | (simp only [upd_same, upd_at, set_at, *, ↓reduceIte]; rfl))) ?_ | refine gcallF_of (message84 (T := T.more) (v := v) (by first | rfl | (simp only [upd_same, upd_at, set_at, *, ↓reduceIte]; done) | (simp only [upd_same, upd_at, set_at, *, ↓reduceIte]; rfl)) (by assumption)) ?_ | refine gcallF_of (ask81 (T := T) (v := v) (by first | rfl | (simp only [upd_same, upd_at, set_at, *, ↓reduceIte]; done) | (simp only [upd_same, upd_at, set_at, *, ↓reduceIte]; rfl)) _ _ (by assumption)) ?_ | refine gcallF_of (rest83 (T := T) (v := v) (by first | rfl | (simp only [upd_same, upd_at, set_at, *, ↓reduceIte]; done) | (simp only [upd_same, upd_at, set_at, *, ↓reduceIte]; rfl)) _ _) ?_ | (intro _; intros) | (refine And.intro ?_ ?_; focus (first | omega | ((repeat (first | exact Sub.refl _ | (refine Sub.drop ?_ ?_; focus (simp only [evN, *]; done)) | refine Sub.both ?_)); done) | (simp_all; done) | (simp_all; omega)))))
  all_goals (refine endF_det ?_ ?_; (focus ((try simp only [TxS.again, TxS.req, Msg.cells, cond_true, cond_false, *]) <;> ((try simp only [decide_eq_true_eq, decide_eq_false_iff_not] at *) <;> first | rfl | (simp [TxS.again, TxS.req, Msg.cells]; done) | (simp_all [TxS.again, TxS.req, Msg.cells]; done) | (simp [TxS.again, TxS.req, Msg.cells]; omega) | (simp [TxS.again, TxS.req, Msg.cells]; (rw [Bool.eq_iff_iff]); simp; omega) | (simp_all [TxS.again, TxS.req, Msg.cells] <;> omega) | ((try unfold TxS.again  TxS.req  Msg.cells); (rw [Value.bool.injEq, Bool.eq_iff_iff]); simp <;> omega) | ((try unfold TxS.again  TxS.req  Msg.cells); (repeat' split) <;> simp_all <;> omega) | (simp_all [TxS.again, TxS.req, Msg.cells] <;> (repeat' split) <;> simp_all <;> omega)))); (focus ((try simp only [TxS.again, TxS.req, Msg.cells, cond_true, cond_false, set_same, *]); exact (by (repeat (first | exact Sub.refl _ | (refine Sub.drop ?_ ?_; focus (simp only [evN, *]; done)) | refine Sub.both ?_)); done))))
def TxS.finish (T : TxS) : TxS × Int × Int :=
  cond (decide (T.st = 3)) (T, 0, 40) (cond (decide (T.st = 4)) (T, 0, T.er) (cond T.busy (T, 0, 31) (T.rests 3 0, cond (decide (T.hi = 4611686018427387904)) T.lo (IntKind.i64.wrap (T.hi - 1)), 0)))
theorem finish66 {σ : Hp} {g : Nat} {T : TxS} {v : Value} (hg : σ g = some (.cells (T.cells v) 133)) :
    ACalls Tryz.prog 47 #[.pointer (some ⟨g, 0, none⟩)] σ fun u σ' => u = .tuple #[.int .i64 T.finish.2.1, .int .i64 T.finish.2.2] ∧ σ' = set σ g (.cells (T.finish.1.cells v) 133) := by
  (unfold TxS.cells at hg; obtain ⟨τ, rfl⟩ := open_upd hg; clear hg)
  (refine acalls_F ok47 (by simp) ?_; unfold c47 r47)
  (repeat' (first | (simp +contextual -dsimp only [*, Msg.cells, TxS.cells, TxS.req, ↓reduceIte, ↓evP, evQ, splice, Nat.reduceAdd, Nat.reduceEqDiff, Nat.reduceLeDiff, Nat.reduceMul, reduceCtorEq, Int.reduceLT, Int.reduceLE, Int.reduceGT, Int.reduceGE, Int.reduceEq, Int.reduceNeg]) | (refine condF_split (fun hc => ?_) (fun hc => ?_) <;> (try simp only [Bool.not_eq_true', Bool.not_eq_false', Bool.and_eq_true, Bool.or_eq_false_iff] at hc)) | refine callF_v (busy80 (T := T) (v := v) (by first | rfl | (simp only [upd_same, upd_at, set_at, *, ↓reduceIte]; done) | (simp only [upd_same, upd_at, set_at, *, ↓reduceIte]; rfl))) ?_ | refine callF_v (rest83 (T := T) (v := v) (by first | rfl | (simp only [upd_same, upd_at, set_at, *, ↓reduceIte]; done) | (simp only [upd_same, upd_at, set_at, *, ↓reduceIte]; rfl)) _ _) ?_ | refine ccallF_of (busy80 (T := T) (v := v) (by first | rfl | (simp only [upd_same, upd_at, set_at, *, ↓reduceIte]; done) | (simp only [upd_same, upd_at, set_at, *, ↓reduceIte]; rfl))) ?_ | refine ccallF_of (rest83 (T := T) (v := v) (by first | rfl | (simp only [upd_same, upd_at, set_at, *, ↓reduceIte]; done) | (simp only [upd_same, upd_at, set_at, *, ↓reduceIte]; rfl)) _ _) ?_ | refine gcallF_of (busy80 (T := T) (v := v) (by first | rfl | (simp only [upd_same, upd_at, set_at, *, ↓reduceIte]; done) | (simp only [upd_same, upd_at, set_at, *, ↓reduceIte]; rfl))) ?_ | refine gcallF_of (rest83 (T := T) (v := v) (by first | rfl | (simp only [upd_same, upd_at, set_at, *, ↓reduceIte]; done) | (simp only [upd_same, upd_at, set_at, *, ↓reduceIte]; rfl)) _ _) ?_ | (intro _; intros) | (refine And.intro ?_ ?_; focus (first | omega | ((repeat (first | exact Sub.refl _ | (refine Sub.drop ?_ ?_; focus (simp only [evN, *]; done)) | refine Sub.both ?_)); done) | (simp_all; done) | (simp_all; omega)))))
  all_goals (refine endF_det ?_ ?_; (focus ((try simp only [TxS.finish, TxS.rests, TxS.cells, cond_true, cond_false, *]) <;> ((try simp only [decide_eq_true_eq, decide_eq_false_iff_not] at *) <;> first | rfl | (simp [TxS.finish, TxS.rests, TxS.cells]; done) | (simp_all [TxS.finish, TxS.rests, TxS.cells]; done) | (simp [TxS.finish, TxS.rests, TxS.cells]; omega) | (simp [TxS.finish, TxS.rests, TxS.cells]; (rw [Bool.eq_iff_iff]); simp; omega) | (simp_all [TxS.finish, TxS.rests, TxS.cells] <;> omega) | ((try unfold TxS.finish  TxS.rests  TxS.cells); (rw [Value.bool.injEq, Bool.eq_iff_iff]); simp <;> omega) | ((try unfold TxS.finish  TxS.rests  TxS.cells); (repeat' split) <;> simp_all <;> omega) | (simp_all [TxS.finish, TxS.rests, TxS.cells] <;> (repeat' split) <;> simp_all <;> omega)))); (focus ((try simp only [TxS.finish, TxS.rests, TxS.cells, cond_true, cond_false, set_same, *]); exact (by (repeat (first | exact Sub.refl _ | (refine Sub.drop ?_ ?_; focus (simp only [evN, *]; done)) | refine Sub.both ?_)); done))))
theorem finish_alt (T : TxS) : T.finish = cond (decide (T.st = 1)) (T, 0, 31) (cond (decide (T.st = 2)) (T, 0, 31) (cond (decide (T.st = 3)) (T, 0, 40) (cond (decide (T.st = 4)) (T, 0, T.er) (T.rests 3 0, cond (decide (T.hi = 4611686018427387904)) T.lo (IntKind.i64.wrap (T.hi - 1)), 0)))) := by
  unfold TxS.finish TxS.busy
  by_cases h1 : T.st = 1
  · simp [h1]
  · by_cases h2 : T.st = 2
    · simp [h2]
    · simp [h1, h2]
def newT (id nodes floor : Int) : TxS := { id := id, nodes := mnI (mxI nodes 1) 8, st := 0, er := 0, lo := mnI (mxI floor 0) 1099511627776, hi := 4611686018427387904, key := ⟨#[]⟩, seq := 0, tr := 0, reads := [] }
theorem new61 (σ : Hp) (id nodes floor : Int) : ACalls Tryz.prog 46 #[.int .i64 id, .int .i64 nodes, .int .i64 floor] σ fun u σ' => ∃ g, σ g = none ∧ u = .pointer (some ⟨g, 0, none⟩) ∧ σ' = upd σ g (.cells ((newT id nodes floor).cells (.slice none 0 0)) 133) := by
  (refine acalls_F ok46 (by simp) ?_; unfold c46 r46)
  (repeat' (first | (simp +contextual -dsimp only [*, Msg.cells, TxS.cells, TxS.req, ↓reduceIte, ↓evP, evQ, splice, Nat.reduceAdd, Nat.reduceEqDiff, Nat.reduceLeDiff, Nat.reduceMul, reduceCtorEq, Int.reduceLT, Int.reduceLE, Int.reduceGT, Int.reduceGE, Int.reduceEq, Int.reduceNeg]) | (refine condF_split (fun hc => ?_) (fun hc => ?_) <;> (try simp only [Bool.not_eq_true', Bool.not_eq_false', Bool.and_eq_true, Bool.or_eq_false_iff] at hc)) | (intro _; intros) | (refine And.intro ?_ ?_; focus (first | omega | ((repeat (first | exact Sub.refl _ | (refine Sub.drop ?_ ?_; focus (simp only [evN, *]; done)) | refine Sub.both ?_)); done) | (simp_all; done) | (simp_all; omega)))))
  exact endF_at ⟨_, by assumption, rfl, rfl⟩
def Got.cells (x : Got) : List Value := [.string x.key, .bool x.has, .string x.data]
theorem Got.cells_len (x : Got) : x.cells.length = 3 := rfl
theorem got_row {l : List Got} {i : Nat} {x : Got} (hx : l[i]? = some x) : seg (l.flatMap Got.cells) (i * 3) 3 = some [.string x.key, .bool x.has, .string x.data] ∧ seg (l.flatMap Got.cells) (i * 3 + 1) 2 = some [.bool x.has, .string x.data] ∧ (l.flatMap Got.cells)[i * 3]? = some (.string x.key) :=
  ⟨seg_flat Got.cells_len hx 0 3 (by omega), seg_flat Got.cells_len hx 1 2 (by omega), get_flat Got.cells_len hx 0 (by omega)⟩
def TxS.find (T : TxS) (key : ByteArray) : Option Got := T.reads.find? fun x => decide (x.key = key)
def TxS.read (T : TxS) (key : ByteArray) : TxS × (Bool × ByteArray) × Msg × Int :=
  cond (decide (T.st ≥ 3)) (T, (false, ⟨#[]⟩), {}, 40) (cond T.busy (T, (false, ⟨#[]⟩), {}, 31) (cond (goodK key)
    (match T.find key with | some x => (T, (x.has, x.data), {}, 0) | none => (T.asks 1 key, (false, ⟨#[]⟩), (T.asks 1 key).req, 0)) (T, (false, ⟨#[]⟩), {}, 1)))
theorem goodK_alt (k : ByteArray) : goodK k = (!decide (k = ⟨#[]⟩) && !decide ((k.size : Int) > 32)) := by
  have e : k = ⟨#[]⟩ ↔ k.size = 0 := ⟨fun h => by subst h; rfl, fun h => by
    obtain ⟨d⟩ := k
    congr
    exact Array.eq_empty_of_size_eq_zero h⟩
  have e1 : decide (k = ⟨#[]⟩) = decide (k.size = 0) := decide_eq_decide.2 e
  unfold goodK
  rw [e1, Bool.eq_iff_iff]; simp only [Bool.and_eq_true, Bool.not_eq_true', decide_eq_true_eq, decide_eq_false_iff_not]; omega
theorem find_step {l : List Got} {i : Nat} {x : Got} {key : ByteArray} (hx : l[i]? = some x) (h : (l.take i).find? (fun x => decide (x.key = key)) = none) :
    (decide (x.key = key) = true → l.find? (fun x => decide (x.key = key)) = some x) ∧ (decide (x.key = key) = false → (l.take (i + 1)).find? (fun x => decide (x.key = key)) = none) := by
  obtain ⟨hlt, he⟩ := List.getElem?_eq_some_iff.1 hx
  refine ⟨fun hk => ?_, fun hk => ?_⟩
  · have : l = l.take i ++ x :: l.drop (i + 1) := by rw [← he, ← List.drop_eq_getElem_cons hlt, List.take_append_drop]
    rw [this, List.find?_append, h, List.find?_cons, hk]; rfl
  · rw [List.take_succ_eq_append_getElem hlt, List.find?_append, h, he, List.find?_cons, hk]; rfl
theorem read64 {σ : Hp} {g : Nat} {T : TxS} {v : Value} (hg : σ g = some (.cells (T.cells v) 133)) (hr : RowsAt 128 3 Got.cells σ v T.reads) (key : ByteArray) (hk : key.size ≤ 140737488351232) (hn : T.reads.length ≤ 140737488351232) :
    ACalls Tryz.prog 51 #[.pointer (some ⟨g, 0, none⟩), .string key] σ fun u σ' => u = .tuple #[.agg #[.bool (T.read key).2.1.1, .string (T.read key).2.1.2], .agg (T.read key).2.2.1.cells.toArray, .int .i64 (T.read key).2.2.2] ∧ σ' = set σ g (.cells ((T.read key).1.cells v) 133) := by
  rcases hr with ⟨rfl, hnil⟩ | ⟨b, c, rfl, hc, hb⟩
  · (unfold TxS.cells at hg; obtain ⟨τ, rfl⟩ := open_upd hg; clear hg)
    (refine acalls_F ok51 (by simp) ?_; unfold c51 r51)
    (repeat' (first | (simp +contextual -dsimp only [*, Msg.cells, TxS.cells, TxS.req, TxS.rests, TxS.asks, TxS.more, ↓reduceIte, ↓evP, evQ, splice, Nat.reduceAdd, Nat.reduceEqDiff, Nat.reduceLeDiff, Nat.reduceMul, reduceCtorEq, Int.reduceLT, Int.reduceLE, Int.reduceGT, Int.reduceGE, Int.reduceEq, Int.reduceNeg]) | (refine condF_split (fun hc => ?_) (fun hc => ?_) <;> (try simp only [Bool.not_eq_true', Bool.not_eq_false', Bool.and_eq_true, Bool.or_eq_false_iff] at hc)) | refine callF_v (busy80 (T := T) (v := .slice none 0 0) (by first | rfl | (simp only [upd_same, upd_at, set_at, *, ↓reduceIte]; done) | (simp only [upd_same, upd_at, set_at, *, ↓reduceIte]; rfl))) ?_ | refine ccallF_of (busy80 (T := T) (v := .slice none 0 0) (by first | rfl | (simp only [upd_same, upd_at, set_at, *, ↓reduceIte]; done) | (simp only [upd_same, upd_at, set_at, *, ↓reduceIte]; rfl))) ?_ | refine gcallF_of (busy80 (T := T) (v := .slice none 0 0) (by first | rfl | (simp only [upd_same, upd_at, set_at, *, ↓reduceIte]; done) | (simp only [upd_same, upd_at, set_at, *, ↓reduceIte]; rfl))) ?_ | (intro _; intros) | (refine And.intro ?_ ?_; focus (first | omega | ((repeat (first | exact Sub.refl _ | (refine Sub.drop ?_ ?_; focus (simp only [evN, *]; done)) | refine Sub.both ?_)); done) | (simp_all; done) | (simp_all; omega)))))
    all_goals (try (refine endF_det ?_ ?_; (focus ((try simp only [TxS.read, goodK_alt, Bool.not_true, Bool.and_false, Bool.false_and, Bool.not_false, cond_true, cond_false, *]) <;> ((try simp only [decide_eq_true_eq, decide_eq_false_iff_not] at *) <;> first | rfl | (simp [TxS.read, goodK_alt, Bool.not_true, Bool.and_false, Bool.false_and, Bool.not_false]; done) | (simp_all [TxS.read, goodK_alt, Bool.not_true, Bool.and_false, Bool.false_and, Bool.not_false]; done) | (simp [TxS.read, goodK_alt, Bool.not_true, Bool.and_false, Bool.false_and, Bool.not_false]; omega) | (simp [TxS.read, goodK_alt, Bool.not_true, Bool.and_false, Bool.false_and, Bool.not_false]; (rw [Bool.eq_iff_iff]); simp; omega) | (simp_all [TxS.read, goodK_alt, Bool.not_true, Bool.and_false, Bool.false_and, Bool.not_false] <;> omega) | ((try unfold TxS.read  goodK_alt  Bool.not_true  Bool.and_false  Bool.false_and  Bool.not_false); (rw [Value.bool.injEq, Bool.eq_iff_iff]); simp <;> omega) | ((try unfold TxS.read  goodK_alt  Bool.not_true  Bool.and_false  Bool.false_and  Bool.not_false); (repeat' split) <;> simp_all <;> omega) | (simp_all [TxS.read, goodK_alt, Bool.not_true, Bool.and_false, Bool.false_and, Bool.not_false] <;> (repeat' split) <;> simp_all <;> omega)))); (focus ((try simp only [TxS.read, goodK_alt, Bool.not_true, Bool.and_false, Bool.false_and, Bool.not_false, cond_true, cond_false, set_same, *]); exact (by (repeat (first | exact Sub.refl _ | (refine Sub.drop ?_ ?_; focus (simp only [evN, *]; done)) | refine Sub.both ?_)); done)))))
    refine loopF_keep [0, 1, 4, 5, 43] (fun k s => s 44 = .int .i64 0) 0 (by first | rfl | (simp only [↓putO_get, ↓putO_no, init_zero, init_succ, Nat.reduceEqDiff, ↓reduceIte, *]; done) | (simp only [↓putO_get, ↓putO_no, init_zero, init_succ, Nat.reduceEqDiff, ↓reduceIte, *]; rfl)) ?_
    intro k s hL h44
    simp only [List.map_cons, List.map_nil, ↓putO_get, ↓putO_no, init_zero, init_succ, Nat.reduceEqDiff, ↓reduceIte, List.cons.injEq, and_true] at hL
    (repeat' (first | (simp +contextual -dsimp only [*, Msg.cells, TxS.cells, TxS.req, TxS.rests, TxS.asks, TxS.more, ↓reduceIte, ↓evP, evQ, splice, Nat.reduceAdd, Nat.reduceEqDiff, Nat.reduceLeDiff, Nat.reduceMul, reduceCtorEq, Int.reduceLT, Int.reduceLE, Int.reduceGT, Int.reduceGE, Int.reduceEq, Int.reduceNeg]) | (refine condF_split (fun hc => ?_) (fun hc => ?_) <;> (try simp only [Bool.not_eq_true', Bool.not_eq_false', Bool.and_eq_true, Bool.or_eq_false_iff] at hc)) | refine callF_v (ask81 (T := T) (v := .slice none 0 0) (by first | rfl | (simp only [upd_same, upd_at, set_at, *, ↓reduceIte]; done) | (simp only [upd_same, upd_at, set_at, *, ↓reduceIte]; rfl)) _ _ (by assumption)) ?_ | refine ccallF_of (ask81 (T := T) (v := .slice none 0 0) (by first | rfl | (simp only [upd_same, upd_at, set_at, *, ↓reduceIte]; done) | (simp only [upd_same, upd_at, set_at, *, ↓reduceIte]; rfl)) _ _ (by assumption)) ?_ | refine gcallF_of (ask81 (T := T) (v := .slice none 0 0) (by first | rfl | (simp only [upd_same, upd_at, set_at, *, ↓reduceIte]; done) | (simp only [upd_same, upd_at, set_at, *, ↓reduceIte]; rfl)) _ _ (by assumption)) ?_ | (intro _; intros) | (refine And.intro ?_ ?_; focus (first | omega | ((repeat (first | exact Sub.refl _ | (refine Sub.drop ?_ ?_; focus (simp only [evN, *]; done)) | refine Sub.both ?_)); done) | (simp_all; done) | (simp_all; omega)))))
    have hf : T.find key = none := by unfold TxS.find; rw [hnil]; rfl
    all_goals (refine endF_det ?_ ?_; (focus ((try simp only [TxS.read, goodK_alt, Bool.not_true, Bool.and_true, Bool.false_and, Bool.not_false, hf, TxS.asks, TxS.req, TxS.cells, Msg.cells, cond_true, cond_false, *]) <;> ((try simp only [decide_eq_true_eq, decide_eq_false_iff_not] at *) <;> first | rfl | (simp [TxS.read, goodK_alt, Bool.not_true, Bool.and_true, Bool.false_and, Bool.not_false, hf, TxS.asks, TxS.req, TxS.cells, Msg.cells]; done) | (simp_all [TxS.read, goodK_alt, Bool.not_true, Bool.and_true, Bool.false_and, Bool.not_false, hf, TxS.asks, TxS.req, TxS.cells, Msg.cells]; done) | (simp [TxS.read, goodK_alt, Bool.not_true, Bool.and_true, Bool.false_and, Bool.not_false, hf, TxS.asks, TxS.req, TxS.cells, Msg.cells]; omega) | (simp [TxS.read, goodK_alt, Bool.not_true, Bool.and_true, Bool.false_and, Bool.not_false, hf, TxS.asks, TxS.req, TxS.cells, Msg.cells]; (rw [Bool.eq_iff_iff]); simp; omega) | (simp_all [TxS.read, goodK_alt, Bool.not_true, Bool.and_true, Bool.false_and, Bool.not_false, hf, TxS.asks, TxS.req, TxS.cells, Msg.cells] <;> omega) | ((try unfold TxS.read  goodK_alt  Bool.not_true  Bool.and_true  Bool.false_and  Bool.not_false  hf  TxS.asks  TxS.req  TxS.cells  Msg.cells); (rw [Value.bool.injEq, Bool.eq_iff_iff]); simp <;> omega) | ((try unfold TxS.read  goodK_alt  Bool.not_true  Bool.and_true  Bool.false_and  Bool.not_false  hf  TxS.asks  TxS.req  TxS.cells  Msg.cells); (repeat' split) <;> simp_all <;> omega) | (simp_all [TxS.read, goodK_alt, Bool.not_true, Bool.and_true, Bool.false_and, Bool.not_false, hf, TxS.asks, TxS.req, TxS.cells, Msg.cells] <;> (repeat' split) <;> simp_all <;> omega)))); (focus ((try simp only [TxS.read, goodK_alt, Bool.not_true, Bool.and_true, Bool.false_and, Bool.not_false, hf, TxS.asks, TxS.req, TxS.cells, Msg.cells, cond_true, cond_false, set_same, *]); exact (by (repeat (first | exact Sub.refl _ | (refine Sub.drop ?_ ?_; focus (simp only [evN, *]; done)) | refine Sub.both ?_)); done))))
  · unfold TxS.cells at hg
    obtain ⟨τ, rfl, hne1, hne2⟩ := open_two hg hb (by simp)
    clear hg hb
    (refine acalls_F ok51 (by simp) ?_; unfold c51 r51)
    (repeat' (first | (simp +contextual -dsimp only [*, Msg.cells, TxS.cells, TxS.req, TxS.rests, TxS.asks, TxS.more, ↓reduceIte, ↓evP, evQ, splice, Nat.reduceAdd, Nat.reduceEqDiff, Nat.reduceLeDiff, Nat.reduceMul, reduceCtorEq, Int.reduceLT, Int.reduceLE, Int.reduceGT, Int.reduceGE, Int.reduceEq, Int.reduceNeg]) | (refine condF_split (fun hc => ?_) (fun hc => ?_) <;> (try simp only [Bool.not_eq_true', Bool.not_eq_false', Bool.and_eq_true, Bool.or_eq_false_iff] at hc)) | refine callF_v (busy80 (T := T) (v := .slice (some ⟨b, 0, none⟩) T.reads.length c) (by first | rfl | (simp only [upd_same, upd_at, set_at, *, ↓reduceIte]; done) | (simp only [upd_same, upd_at, set_at, *, ↓reduceIte]; rfl))) ?_ | refine ccallF_of (busy80 (T := T) (v := .slice (some ⟨b, 0, none⟩) T.reads.length c) (by first | rfl | (simp only [upd_same, upd_at, set_at, *, ↓reduceIte]; done) | (simp only [upd_same, upd_at, set_at, *, ↓reduceIte]; rfl))) ?_ | refine gcallF_of (busy80 (T := T) (v := .slice (some ⟨b, 0, none⟩) T.reads.length c) (by first | rfl | (simp only [upd_same, upd_at, set_at, *, ↓reduceIte]; done) | (simp only [upd_same, upd_at, set_at, *, ↓reduceIte]; rfl))) ?_ | (intro _; intros) | (refine And.intro ?_ ?_; focus (first | omega | ((repeat (first | exact Sub.refl _ | (refine Sub.drop ?_ ?_; focus (simp only [evN, *]; done)) | refine Sub.both ?_)); done) | (simp_all; done) | (simp_all; omega)))))
    all_goals (try (refine endF_det ?_ ?_; (focus ((try simp only [TxS.read, goodK_alt, Bool.not_true, Bool.and_false, Bool.false_and, Bool.not_false, cond_true, cond_false, *]) <;> ((try simp only [decide_eq_true_eq, decide_eq_false_iff_not] at *) <;> first | rfl | (simp [TxS.read, goodK_alt, Bool.not_true, Bool.and_false, Bool.false_and, Bool.not_false]; done) | (simp_all [TxS.read, goodK_alt, Bool.not_true, Bool.and_false, Bool.false_and, Bool.not_false]; done) | (simp [TxS.read, goodK_alt, Bool.not_true, Bool.and_false, Bool.false_and, Bool.not_false]; omega) | (simp [TxS.read, goodK_alt, Bool.not_true, Bool.and_false, Bool.false_and, Bool.not_false]; (rw [Bool.eq_iff_iff]); simp; omega) | (simp_all [TxS.read, goodK_alt, Bool.not_true, Bool.and_false, Bool.false_and, Bool.not_false] <;> omega) | ((try unfold TxS.read  goodK_alt  Bool.not_true  Bool.and_false  Bool.false_and  Bool.not_false); (rw [Value.bool.injEq, Bool.eq_iff_iff]); simp <;> omega) | ((try unfold TxS.read  goodK_alt  Bool.not_true  Bool.and_false  Bool.false_and  Bool.not_false); (repeat' split) <;> simp_all <;> omega) | (simp_all [TxS.read, goodK_alt, Bool.not_true, Bool.and_false, Bool.false_and, Bool.not_false] <;> (repeat' split) <;> simp_all <;> omega)))); (focus ((try simp only [TxS.read, goodK_alt, Bool.not_true, Bool.and_false, Bool.false_and, Bool.not_false, cond_true, cond_false, set_same, *]); exact (by (repeat (first | exact Sub.refl _ | (refine Sub.drop ?_ ?_; focus (simp only [evN, *]; done)) | refine Sub.both ?_)); done)))))
    refine loopF_keep [0, 1, 4, 5, 42, 43] (fun k s => ∃ i : Nat, i ≤ T.reads.length ∧ k = T.reads.length - i ∧ s 44 = .int .i64 i ∧ (T.reads.take i).find? (fun x => decide (x.key = key)) = none) T.reads.length ⟨0, by omega, rfl, (by first | rfl | (simp only [↓putO_get, ↓putO_no, init_zero, init_succ, Nat.reduceEqDiff, ↓reduceIte, *]; done) | (simp only [↓putO_get, ↓putO_no, init_zero, init_succ, Nat.reduceEqDiff, ↓reduceIte, *]; rfl)), rfl⟩ ?_
    rintro k s hL ⟨i, hi, hk, h44, hfi⟩
    simp only [List.map_cons, List.map_nil, ↓putO_get, ↓putO_no, init_zero, init_succ, Nat.reduceEqDiff, ↓reduceIte, List.cons.injEq, and_true] at hL
    rcases Nat.lt_or_ge i T.reads.length with hlt | hge
    · obtain ⟨x, hx⟩ : ∃ x, T.reads[i]? = some x := ⟨_, List.getElem?_eq_getElem hlt⟩
      have hseg := got_row hx
      have hd : decide ((i : Int) < (T.reads.length : Int)) = true := by simp; omega
      have hst := find_step hx hfi
      clear hx hfi
      (repeat' (first | (simp +contextual -dsimp only [*, Msg.cells, TxS.cells, TxS.req, TxS.rests, TxS.asks, TxS.more, ↓reduceIte, ↓evP, evQ, splice, Nat.reduceAdd, Nat.reduceEqDiff, Nat.reduceLeDiff, Nat.reduceMul, reduceCtorEq, Int.reduceLT, Int.reduceLE, Int.reduceGT, Int.reduceGE, Int.reduceEq, Int.reduceNeg]) | (refine condF_split (fun hc => ?_) (fun hc => ?_) <;> (try simp only [Bool.not_eq_true', Bool.not_eq_false', Bool.and_eq_true, Bool.or_eq_false_iff] at hc)) | (intro _; intros) | (refine And.intro ?_ ?_; focus (first | omega | ((repeat (first | exact Sub.refl _ | (refine Sub.drop ?_ ?_; focus (simp only [evN, *]; done)) | refine Sub.both ?_)); done) | (simp_all; done) | (simp_all; omega)))))
      · have hf : T.find key = some x := hst.1 hc
        all_goals (refine endF_det ?_ ?_; (focus ((try simp only [TxS.read, goodK_alt, Bool.not_true, Bool.and_true, Bool.false_and, Bool.not_false, hf, TxS.cells, Msg.cells, cond_true, cond_false, *]) <;> ((try simp only [decide_eq_true_eq, decide_eq_false_iff_not] at *) <;> first | rfl | (simp [TxS.read, goodK_alt, Bool.not_true, Bool.and_true, Bool.false_and, Bool.not_false, hf, TxS.cells, Msg.cells]; done) | (simp_all [TxS.read, goodK_alt, Bool.not_true, Bool.and_true, Bool.false_and, Bool.not_false, hf, TxS.cells, Msg.cells]; done) | (simp [TxS.read, goodK_alt, Bool.not_true, Bool.and_true, Bool.false_and, Bool.not_false, hf, TxS.cells, Msg.cells]; omega) | (simp [TxS.read, goodK_alt, Bool.not_true, Bool.and_true, Bool.false_and, Bool.not_false, hf, TxS.cells, Msg.cells]; (rw [Bool.eq_iff_iff]); simp; omega) | (simp_all [TxS.read, goodK_alt, Bool.not_true, Bool.and_true, Bool.false_and, Bool.not_false, hf, TxS.cells, Msg.cells] <;> omega) | ((try unfold TxS.read  goodK_alt  Bool.not_true  Bool.and_true  Bool.false_and  Bool.not_false  hf  TxS.cells  Msg.cells); (rw [Value.bool.injEq, Bool.eq_iff_iff]); simp <;> omega) | ((try unfold TxS.read  goodK_alt  Bool.not_true  Bool.and_true  Bool.false_and  Bool.not_false  hf  TxS.cells  Msg.cells); (repeat' split) <;> simp_all <;> omega) | (simp_all [TxS.read, goodK_alt, Bool.not_true, Bool.and_true, Bool.false_and, Bool.not_false, hf, TxS.cells, Msg.cells] <;> (repeat' split) <;> simp_all <;> omega)))); (focus ((try simp only [TxS.read, goodK_alt, Bool.not_true, Bool.and_true, Bool.false_and, Bool.not_false, hf, TxS.cells, Msg.cells, cond_true, cond_false, set_same, *]); exact (by (repeat (first | exact Sub.refl _ | (refine Sub.drop ?_ ?_; focus (simp only [evN, *]; done)) | refine Sub.both ?_)); done))))
      · refine keep_of (T.reads.length - (i + 1)) (by omega) (by simp only [List.map_cons, List.map_nil, ↓putO_get, ↓putO_no, init_zero, init_succ, Nat.reduceEqDiff, ↓reduceIte, *]) (by (repeat (first | exact Sub.refl _ | (refine Sub.drop ?_ ?_; focus (simp only [evN, *]; done)) | refine Sub.both ?_)); done) ⟨i + 1, by omega, rfl, ?_, hst.2 hc⟩
        show Value.int .i64 (IntKind.i64.wrap _) = _; rw [wi64 (by omega)]; rfl
    · have hd : decide ((i : Int) < (T.reads.length : Int)) = false := by simp; omega
      obtain rfl : i = T.reads.length := by omega
      (repeat' (first | (simp +contextual -dsimp only [*, Msg.cells, TxS.cells, TxS.req, TxS.rests, TxS.asks, TxS.more, ↓reduceIte, ↓evP, evQ, splice, Nat.reduceAdd, Nat.reduceEqDiff, Nat.reduceLeDiff, Nat.reduceMul, reduceCtorEq, Int.reduceLT, Int.reduceLE, Int.reduceGT, Int.reduceGE, Int.reduceEq, Int.reduceNeg]) | (refine condF_split (fun hc => ?_) (fun hc => ?_) <;> (try simp only [Bool.not_eq_true', Bool.not_eq_false', Bool.and_eq_true, Bool.or_eq_false_iff] at hc)) | refine callF_v (ask81 (T := T) (v := .slice (some ⟨b, 0, none⟩) T.reads.length c) (by first | rfl | (simp only [upd_same, upd_at, set_at, *, ↓reduceIte]; done) | (simp only [upd_same, upd_at, set_at, *, ↓reduceIte]; rfl)) _ _ (by assumption)) ?_ | refine ccallF_of (ask81 (T := T) (v := .slice (some ⟨b, 0, none⟩) T.reads.length c) (by first | rfl | (simp only [upd_same, upd_at, set_at, *, ↓reduceIte]; done) | (simp only [upd_same, upd_at, set_at, *, ↓reduceIte]; rfl)) _ _ (by assumption)) ?_ | refine gcallF_of (ask81 (T := T) (v := .slice (some ⟨b, 0, none⟩) T.reads.length c) (by first | rfl | (simp only [upd_same, upd_at, set_at, *, ↓reduceIte]; done) | (simp only [upd_same, upd_at, set_at, *, ↓reduceIte]; rfl)) _ _ (by assumption)) ?_ | (intro _; intros) | (refine And.intro ?_ ?_; focus (first | omega | ((repeat (first | exact Sub.refl _ | (refine Sub.drop ?_ ?_; focus (simp only [evN, *]; done)) | refine Sub.both ?_)); done) | (simp_all; done) | (simp_all; omega)))))
      have hf : T.find key = none := by unfold TxS.find; rw [List.take_length] at hfi; exact hfi
      all_goals (refine endF_det ?_ ?_; (focus ((try simp only [TxS.read, goodK_alt, Bool.not_true, Bool.and_true, Bool.false_and, Bool.not_false, hf, TxS.asks, TxS.req, TxS.cells, Msg.cells, cond_true, cond_false, *]) <;> ((try simp only [decide_eq_true_eq, decide_eq_false_iff_not] at *) <;> first | rfl | (simp [TxS.read, goodK_alt, Bool.not_true, Bool.and_true, Bool.false_and, Bool.not_false, hf, TxS.asks, TxS.req, TxS.cells, Msg.cells]; done) | (simp_all [TxS.read, goodK_alt, Bool.not_true, Bool.and_true, Bool.false_and, Bool.not_false, hf, TxS.asks, TxS.req, TxS.cells, Msg.cells]; done) | (simp [TxS.read, goodK_alt, Bool.not_true, Bool.and_true, Bool.false_and, Bool.not_false, hf, TxS.asks, TxS.req, TxS.cells, Msg.cells]; omega) | (simp [TxS.read, goodK_alt, Bool.not_true, Bool.and_true, Bool.false_and, Bool.not_false, hf, TxS.asks, TxS.req, TxS.cells, Msg.cells]; (rw [Bool.eq_iff_iff]); simp; omega) | (simp_all [TxS.read, goodK_alt, Bool.not_true, Bool.and_true, Bool.false_and, Bool.not_false, hf, TxS.asks, TxS.req, TxS.cells, Msg.cells] <;> omega) | ((try unfold TxS.read  goodK_alt  Bool.not_true  Bool.and_true  Bool.false_and  Bool.not_false  hf  TxS.asks  TxS.req  TxS.cells  Msg.cells); (rw [Value.bool.injEq, Bool.eq_iff_iff]); simp <;> omega) | ((try unfold TxS.read  goodK_alt  Bool.not_true  Bool.and_true  Bool.false_and  Bool.not_false  hf  TxS.asks  TxS.req  TxS.cells  Msg.cells); (repeat' split) <;> simp_all <;> omega) | (simp_all [TxS.read, goodK_alt, Bool.not_true, Bool.and_true, Bool.false_and, Bool.not_false, hf, TxS.asks, TxS.req, TxS.cells, Msg.cells] <;> (repeat' split) <;> simp_all <;> omega)))); (focus ((try simp only [TxS.read, goodK_alt, Bool.not_true, Bool.and_true, Bool.false_and, Bool.not_false, hf, TxS.asks, TxS.req, TxS.cells, Msg.cells, cond_true, cond_false, set_same, *]); exact (by (repeat (first | exact Sub.refl _ | (refine Sub.drop ?_ ?_; focus (simp only [evN, *]; done)) | refine Sub.both ?_)); done))))
/-- A transaction's cells at g, its reads behind v. -/
def TxAt (ty : TypeId) (σ : Hp) (g : Nat) (T : TxS) (v : Value) : Prop := σ g = some (.cells (T.cells v) ty) ∧ RowsAt 128 3 Got.cells σ v T.reads
/-- Nothing that was known has turned but g and the reads' block; the reads' block is the old one or a new one. -/
def Step (σ : Hp) (g : Nat) (v : Value) (σ' : Hp) (v' : Value) : Prop := Same (fun k => k = g ∨ blk v = some k) σ σ' ∧ (∀ k, blk v' = some k → blk v = some k ∨ σ k = none)
def TxS.pinT (T : TxS) (lo hi : Int) : Int × Int := nar T.lo T.hi (ofS lo hi).1 (ofS lo hi).2
def TxS.fits (T : TxS) (lo hi : Int) : Bool := !decide ((T.pinT lo hi).1 ≥ (T.pinT lo hi).2)
def TxS.took (T : TxS) (has : Bool) (data : ByteArray) (lo hi : Int) : TxS := { T with lo := (T.pinT lo hi).1, hi := (T.pinT lo hi).2, reads := T.reads ++ [⟨T.key, has, data⟩] }
def TxS.takes (T : TxS) (has : Bool) (data : ByteArray) (lo hi : Int) : TxS := cond (T.fits lo hi) ((T.took has data lo hi).rests 0 0) T
theorem leafTx {ty : TypeId} {σ₀ σ : Hp} {g : Nat} {v v' : Value} {T : TxS} (h1 : σ g = some (.cells (T.cells v') ty)) (h2 : RowsAt 128 3 Got.cells σ v' T.reads) (h3 : Same (fun k => k = g ∨ blk v = some k) σ₀ σ) (h4 : ∀ k, blk v' = some k → blk v = some k ∨ σ₀ k = none) :
    ∃ v', TxAt ty σ g T v' ∧ Step σ₀ g v σ v' := ⟨v', ⟨h1, h2⟩, h3, h4⟩
theorem fits_eq {T : TxS} {lo hi : Int} {b : Bool} (h : decide ((nar T.lo T.hi (ofS lo hi).1 (ofS lo hi).2).1 ≥ (nar T.lo T.hi (ofS lo hi).1 (ofS lo hi).2).2) = b) : T.fits lo hi = !b := by
  rw [← h]; rfl
theorem takes_eq {T : TxS} {lo hi : Int} {has : Bool} {data : ByteArray} (h : T.fits lo hi = true) : T.takes has data lo hi = (T.took has data lo hi).rests 0 0 := by unfold TxS.takes; rw [h]; rfl
theorem takes_no {T : TxS} {lo hi : Int} {has : Bool} {data : ByteArray} (h : T.fits lo hi = false) : T.takes has data lo hi = T := by unfold TxS.takes; rw [h]; rfl
theorem take82 {σ : Hp} {g : Nat} {T : TxS} {v : Value} (hT : TxAt 133 σ g T v) (has : Bool) (data : ByteArray) (lo hi : Int) (hn : (T.reads.length + 1) * 40 ≤ 140737488355328) :
    ACalls Tryz.prog 78 #[.pointer (some ⟨g, 0, none⟩), .agg #[.bool has, .string data], .agg #[.int .i64 lo, .int .i64 hi]] σ fun u σ' => u = .bool (T.fits lo hi) ∧ ∃ v', TxAt 133 σ' g (T.takes has data lo hi) v' ∧ Step σ g v σ' v' := by
  obtain ⟨hg, hr⟩ := hT
  unfold TxS.cells at hg
  rcases hr with ⟨rfl, hnil⟩ | ⟨b, c, rfl, hcap, hb⟩
  · obtain ⟨τ, rfl⟩ := open_upd hg
    clear hg
    (refine acalls_F ok78 (by simp) ?_; unfold c78 r78)
    (repeat' (first | (simp +contextual -dsimp only [*, Msg.cells, TxS.cells, TxS.req, TxS.rests, TxS.asks, TxS.more, ↓reduceIte, ↓evP, evQ, splice, Nat.reduceAdd, Nat.reduceEqDiff, Nat.reduceLeDiff, Nat.reduceMul, reduceCtorEq, Int.reduceLT, Int.reduceLE, Int.reduceGT, Int.reduceGE, Int.reduceEq, Int.reduceNeg]) | (refine condF_split (fun hc => ?_) (fun hc => ?_) <;> (try simp only [Bool.not_eq_true', Bool.not_eq_false', Bool.and_eq_true, Bool.or_eq_false_iff] at hc)) | refine callF_v (of98 _ _ _) ?_ | refine callF_v (narrow97 _ _ _ _ _) ?_ | refine callF_v (rest83 (T := T.took has data lo hi) (v := .slice none 0 0) (by first | rfl | (simp only [upd_same, upd_at, set_at, *, ↓reduceIte]; done) | (simp only [upd_same, upd_at, set_at, *, ↓reduceIte]; rfl)) _ _) ?_ | refine ccallF_of (of98 _ _ _) ?_ | refine ccallF_of (narrow97 _ _ _ _ _) ?_ | refine ccallF_of (rest83 (T := T.took has data lo hi) (v := .slice none 0 0) (by first | rfl | (simp only [upd_same, upd_at, set_at, *, ↓reduceIte]; done) | (simp only [upd_same, upd_at, set_at, *, ↓reduceIte]; rfl)) _ _) ?_ | refine gcallF_of (of98 _ _ _) ?_ | refine gcallF_of (narrow97 _ _ _ _ _) ?_ | refine gcallF_of (rest83 (T := T.took has data lo hi) (v := .slice none 0 0) (by first | rfl | (simp only [upd_same, upd_at, set_at, *, ↓reduceIte]; done) | (simp only [upd_same, upd_at, set_at, *, ↓reduceIte]; rfl)) _ _) ?_ | (intro _; intros) | (refine And.intro ?_ ?_; focus (first | omega | ((repeat (first | exact Sub.refl _ | (refine Sub.drop ?_ ?_; focus (simp only [evN, *]; done)) | refine Sub.both ?_)); done) | (simp_all; done) | (simp_all; omega)))))
    · refine app_n (by first | (simp only [Nat.reduceMul, Nat.one_mul, Nat.zero_mul, rdn_row, rdn_same, rdn_ne, seg_zero, seg_cons, seg_skip, Option.map_some, not_false_eq_true, *]; done) | (simp only [Nat.reduceMul, Nat.one_mul, Nat.zero_mul, rdn_row, rdn_same, rdn_ne, seg_zero, seg_cons, seg_skip, Option.map_some, not_false_eq_true, *]; exact rfl)) rfl (by omega) (by omega) (by unfold maxLen; omega) ?_
      (repeat' (first | (simp +contextual -dsimp only [*, Msg.cells, TxS.cells, TxS.req, TxS.rests, TxS.asks, TxS.more, ↓reduceIte, ↓evP, evQ, splice, Nat.reduceAdd, Nat.reduceEqDiff, Nat.reduceLeDiff, Nat.reduceMul, reduceCtorEq, Int.reduceLT, Int.reduceLE, Int.reduceGT, Int.reduceGE, Int.reduceEq, Int.reduceNeg]) | (refine condF_split (fun hc => ?_) (fun hc => ?_) <;> (try simp only [Bool.not_eq_true', Bool.not_eq_false', Bool.and_eq_true, Bool.or_eq_false_iff] at hc)) | refine callF_v (rest83 (T := T.took has data lo hi) (v := .slice (some ⟨_, 0, none⟩) 1 _) (by first | rfl | (simp only [upd_same, upd_at, set_at, *, ↓reduceIte]; done) | (simp only [upd_same, upd_at, set_at, *, ↓reduceIte]; rfl)) _ _) ?_ | refine ccallF_of (rest83 (T := T.took has data lo hi) (v := .slice (some ⟨_, 0, none⟩) 1 _) (by first | rfl | (simp only [upd_same, upd_at, set_at, *, ↓reduceIte]; done) | (simp only [upd_same, upd_at, set_at, *, ↓reduceIte]; rfl)) _ _) ?_ | refine gcallF_of (rest83 (T := T.took has data lo hi) (v := .slice (some ⟨_, 0, none⟩) 1 _) (by first | rfl | (simp only [upd_same, upd_at, set_at, *, ↓reduceIte]; done) | (simp only [upd_same, upd_at, set_at, *, ↓reduceIte]; rfl)) _ _) ?_ | (intro _; intros) | (refine And.intro ?_ ?_; focus (first | omega | ((repeat (first | exact Sub.refl _ | (refine Sub.drop ?_ ?_; focus (simp only [evN, *]; done)) | refine Sub.both ?_)); done) | (simp_all; done) | (simp_all; omega)))))
      have hf := fits_eq hc
      rw [hf, takes_eq hf]
      refine endF_at ⟨rfl, leafTx (by simp only [upd_at, *, ↓reduceIte]; rfl) ?_ (by repeat (first | exact Same.refl _ _ | (refine Same.updNew ?_ ?_; focus (simp only [evN, *]; done)) | (refine Same.both ?_ ?_; focus (first | exact rfl | exact .inl rfl | exact .inr rfl)) | (refine Same.updIn ?_ ?_; focus (first | exact rfl | exact .inl rfl | exact .inr rfl)) | refine Same.eq ?_)) ?_⟩
      · exact rows_mk (by simp [TxS.took, TxS.rests, hnil]) (by omega) (by simp only [upd_at, *, ↓reduceIte, TxS.took, TxS.rests]; rfl)
      · intro k hk; first | exact .inl hk | (cases hk; exact .inr (by simp only [evN, *]; done))
    · have hf := fits_eq hc
      rw [hf, takes_no hf]
      refine endF_at ⟨rfl, leafTx (by simp only [upd_at, *, ↓reduceIte]; rfl) ?_ (by repeat (first | exact Same.refl _ _ | (refine Same.updNew ?_ ?_; focus (simp only [evN, *]; done)) | (refine Same.both ?_ ?_; focus (first | exact rfl | exact .inl rfl | exact .inr rfl)) | (refine Same.updIn ?_ ?_; focus (first | exact rfl | exact .inl rfl | exact .inr rfl)) | refine Same.eq ?_)) ?_⟩
      · first | exact .inl ⟨rfl, hnil⟩ | exact rows_mk rfl hcap (by simp only [upd_at, *, ↓reduceIte]; done)
      · intro k hk; first | exact .inl hk | (cases hk; exact .inr (by simp only [evN, *]; done))
  · obtain ⟨τ, rfl, hne1, hne2⟩ := open_two hg hb (by simp)
    clear hg hb
    (refine acalls_F ok78 (by simp) ?_; unfold c78 r78)
    (repeat' (first | (simp +contextual -dsimp only [*, Msg.cells, TxS.cells, TxS.req, TxS.rests, TxS.asks, TxS.more, ↓reduceIte, ↓evP, evQ, splice, Nat.reduceAdd, Nat.reduceEqDiff, Nat.reduceLeDiff, Nat.reduceMul, reduceCtorEq, Int.reduceLT, Int.reduceLE, Int.reduceGT, Int.reduceGE, Int.reduceEq, Int.reduceNeg]) | (refine condF_split (fun hc => ?_) (fun hc => ?_) <;> (try simp only [Bool.not_eq_true', Bool.not_eq_false', Bool.and_eq_true, Bool.or_eq_false_iff] at hc)) | refine callF_v (of98 _ _ _) ?_ | refine callF_v (narrow97 _ _ _ _ _) ?_ | refine ccallF_of (of98 _ _ _) ?_ | refine ccallF_of (narrow97 _ _ _ _ _) ?_ | refine gcallF_of (of98 _ _ _) ?_ | refine gcallF_of (narrow97 _ _ _ _ _) ?_ | (intro _; intros) | (refine And.intro ?_ ?_; focus (first | omega | ((repeat (first | exact Sub.refl _ | (refine Sub.drop ?_ ?_; focus (simp only [evN, *]; done)) | refine Sub.both ?_)); done) | (simp_all; done) | (simp_all; omega)))))
    · have hf := fits_eq hc
      rw [hf, takes_eq hf]
      have hl : (T.reads.flatMap Got.cells ++ [.string T.key, .bool has, .string data]) = (T.reads ++ [(⟨T.key, has, data⟩ : Got)]).flatMap Got.cells := by simp only [List.flatMap_append, List.flatMap_cons, List.flatMap_nil, Got.cells, List.append_nil]
      refine app_b (by first | (simp only [Nat.reduceMul, Nat.one_mul, Nat.zero_mul, rdn_row, rdn_same, rdn_ne, seg_zero, seg_cons, seg_skip, Option.map_some, not_false_eq_true, *]; done) | (simp only [Nat.reduceMul, Nat.one_mul, Nat.zero_mul, rdn_row, rdn_same, rdn_ne, seg_zero, seg_cons, seg_skip, Option.map_some, not_false_eq_true, *]; exact rfl)) rfl (by simp only [upd_at, *, ↓reduceIte]) (flat_len Got.cells_len _) (by omega) (by omega) (by unfold maxLen; omega) ?_ ?_
      · rw [hl]
        (repeat' (first | (simp +contextual -dsimp only [*, Msg.cells, TxS.cells, TxS.req, TxS.rests, TxS.asks, TxS.more, ↓reduceIte, ↓evP, evQ, splice, Nat.reduceAdd, Nat.reduceEqDiff, Nat.reduceLeDiff, Nat.reduceMul, reduceCtorEq, Int.reduceLT, Int.reduceLE, Int.reduceGT, Int.reduceGE, Int.reduceEq, Int.reduceNeg]) | (refine condF_split (fun hc => ?_) (fun hc => ?_) <;> (try simp only [Bool.not_eq_true', Bool.not_eq_false', Bool.and_eq_true, Bool.or_eq_false_iff] at hc)) | refine callF_v (rest83 (T := T.took has data lo hi) (v := .slice (some ⟨b, 0, none⟩) (T.reads.length + 1) _) (by first | rfl | (simp only [upd_same, upd_at, set_at, *, ↓reduceIte]; done) | (simp only [upd_same, upd_at, set_at, *, ↓reduceIte]; rfl)) _ _) ?_ | refine ccallF_of (rest83 (T := T.took has data lo hi) (v := .slice (some ⟨b, 0, none⟩) (T.reads.length + 1) _) (by first | rfl | (simp only [upd_same, upd_at, set_at, *, ↓reduceIte]; done) | (simp only [upd_same, upd_at, set_at, *, ↓reduceIte]; rfl)) _ _) ?_ | refine gcallF_of (rest83 (T := T.took has data lo hi) (v := .slice (some ⟨b, 0, none⟩) (T.reads.length + 1) _) (by first | rfl | (simp only [upd_same, upd_at, set_at, *, ↓reduceIte]; done) | (simp only [upd_same, upd_at, set_at, *, ↓reduceIte]; rfl)) _ _) ?_ | (intro _; intros) | (refine And.intro ?_ ?_; focus (first | omega | ((repeat (first | exact Sub.refl _ | (refine Sub.drop ?_ ?_; focus (simp only [evN, *]; done)) | refine Sub.both ?_)); done) | (simp_all; done) | (simp_all; omega)))))
        refine endF_at ⟨rfl, leafTx (by simp only [upd_at, *, ↓reduceIte]; rfl) ?_ (by repeat (first | exact Same.refl _ _ | (refine Same.updNew ?_ ?_; focus (simp only [evN, *]; done)) | (refine Same.both ?_ ?_; focus (first | exact rfl | exact .inl rfl | exact .inr rfl)) | (refine Same.updIn ?_ ?_; focus (first | exact rfl | exact .inl rfl | exact .inr rfl)) | refine Same.eq ?_)) ?_⟩
        · exact rows_mk (by simp [TxS.took, TxS.rests]) (by omega) (by simp only [upd_at, *, ↓reduceIte]; rfl)
        · intro k hk; first | exact .inl hk | (cases hk; exact .inr (by simp only [evN, *]; done))
      · rw [hl]
        (repeat' (first | (simp +contextual -dsimp only [*, Msg.cells, TxS.cells, TxS.req, TxS.rests, TxS.asks, TxS.more, ↓reduceIte, ↓evP, evQ, splice, Nat.reduceAdd, Nat.reduceEqDiff, Nat.reduceLeDiff, Nat.reduceMul, reduceCtorEq, Int.reduceLT, Int.reduceLE, Int.reduceGT, Int.reduceGE, Int.reduceEq, Int.reduceNeg]) | (refine condF_split (fun hc => ?_) (fun hc => ?_) <;> (try simp only [Bool.not_eq_true', Bool.not_eq_false', Bool.and_eq_true, Bool.or_eq_false_iff] at hc)) | refine callF_v (rest83 (T := T.took has data lo hi) (v := .slice (some ⟨_, 0, none⟩) (T.reads.length + 1) _) (by first | rfl | (simp only [upd_same, upd_at, set_at, *, ↓reduceIte]; done) | (simp only [upd_same, upd_at, set_at, *, ↓reduceIte]; rfl)) _ _) ?_ | refine ccallF_of (rest83 (T := T.took has data lo hi) (v := .slice (some ⟨_, 0, none⟩) (T.reads.length + 1) _) (by first | rfl | (simp only [upd_same, upd_at, set_at, *, ↓reduceIte]; done) | (simp only [upd_same, upd_at, set_at, *, ↓reduceIte]; rfl)) _ _) ?_ | refine gcallF_of (rest83 (T := T.took has data lo hi) (v := .slice (some ⟨_, 0, none⟩) (T.reads.length + 1) _) (by first | rfl | (simp only [upd_same, upd_at, set_at, *, ↓reduceIte]; done) | (simp only [upd_same, upd_at, set_at, *, ↓reduceIte]; rfl)) _ _) ?_ | (intro _; intros) | (refine And.intro ?_ ?_; focus (first | omega | ((repeat (first | exact Sub.refl _ | (refine Sub.drop ?_ ?_; focus (simp only [evN, *]; done)) | refine Sub.both ?_)); done) | (simp_all; done) | (simp_all; omega)))))
        refine endF_at ⟨rfl, leafTx (by simp only [upd_at, *, ↓reduceIte]; rfl) ?_ (by repeat (first | exact Same.refl _ _ | (refine Same.updNew ?_ ?_; focus (simp only [evN, *]; done)) | (refine Same.both ?_ ?_; focus (first | exact rfl | exact .inl rfl | exact .inr rfl)) | (refine Same.updIn ?_ ?_; focus (first | exact rfl | exact .inl rfl | exact .inr rfl)) | refine Same.eq ?_)) ?_⟩
        · exact rows_mk (by simp [TxS.took, TxS.rests]) (by omega) (by simp only [upd_at, *, ↓reduceIte]; rfl)
        · intro k hk; first | exact .inl hk | (cases hk; exact .inr (by simp only [evN, *]; done))
    · have hf := fits_eq hc
      rw [hf, takes_no hf]
      refine endF_at ⟨rfl, leafTx (by simp only [upd_at, *, ↓reduceIte]; rfl) ?_ (by repeat (first | exact Same.refl _ _ | (refine Same.updNew ?_ ?_; focus (simp only [evN, *]; done)) | (refine Same.both ?_ ?_; focus (first | exact rfl | exact .inl rfl | exact .inr rfl)) | (refine Same.updIn ?_ ?_; focus (first | exact rfl | exact .inl rfl | exact .inr rfl)) | refine Same.eq ?_)) ?_⟩
      · first | exact .inl ⟨rfl, hnil⟩ | exact rows_mk rfl hcap (by simp only [upd_at, *, ↓reduceIte]; done)
      · intro k hk; first | exact .inl hk | (cases hk; exact .inr (by simp only [evN, *]; done))
theorem got_one (l : List Got) : (l.flatMap Got.cells).all one = true := by
  induction l with
  | nil => rfl
  | cons x l ih => rw [List.flatMap_cons, List.all_append, ih]; rfl
def TxS.hear (T : TxS) (m : Msg) : TxS × Msg × Bool :=
  cond (T.busy && decide (m.tx = T.id) && decide (m.seq = T.seq))
    (cond (decide (m.kind = 4) && decide (T.st = 1))
      (cond (m.hit && T.fits m.lo m.hi) (T.takes m.has m.data m.lo m.hi, {}, true) (T.asks 2 T.key, (T.asks 2 T.key).req, true))
      (cond (decide (m.kind = 6) && decide (T.st = 2)) (cond (decide (m.err = 0)) (T.takes m.has m.data m.lo m.hi, {}, T.fits m.lo m.hi) (T.rests 4 m.err, {}, true)) (T, {}, false)))
    (T, {}, false)
theorem TxAt.same {ty : TypeId} {σ σ' : Hp} {g : Nat} {T T' : TxS} {v : Value} (h : TxAt ty σ g T v) (hs : Same (fun k => k = g) σ σ') (hg : σ' g = some (.cells (T'.cells v) ty)) (hr : T'.reads = T.reads) : TxAt ty σ' g T' v :=
  ⟨hg, by
    rw [hr]
    refine h.2.keep fun k hk => ?_
    rcases h.2 with ⟨rfl, _⟩ | ⟨b, c, rfl, _, hb⟩
    · cases hk
    · cases hk
      refine hs _ (by rw [hb]; simp) fun e => ?_
      have e : b = g := e
      subst e
      rw [h.1] at hb; cases hb⟩
theorem leafKeep {ty : TypeId} {σ₀ σ : Hp} {g : Nat} {v : Value} {T T' : TxS} (h : TxAt ty σ₀ g T v) (h3 : Same (fun k => k = g) σ₀ σ) (h1 : σ g = some (.cells (T'.cells v) ty)) (hr : T'.reads = T.reads) :
    ∃ v', TxAt ty σ g T' v' ∧ Step σ₀ g v σ v' := ⟨v, h.same h3 h1 hr, fun k hk hf => h3 k hk fun e => hf (.inl e), fun k hk => .inl hk⟩
theorem Step.trans {σ0 σ1 σ2 : Hp} {g : Nat} {v v1 v2 : Value} (h : Step σ0 g v σ1 v1) (k : Step σ1 g v1 σ2 v2) (hg : σ1 g ≠ none) : Step σ0 g v σ2 v2 :=
  ⟨h.1.trans k.1 fun i hi hG => by
    rcases hG with e | e
    · exact .inl e
    · rcases h.2 i e with e2 | e2
      · exact .inr e2
      · exact absurd e2 hi, fun i hi => by
    rcases k.2 i hi with e | e
    · exact h.2 i e
    · by_cases e0 : σ0 i = none
      · exact .inr e0
      · by_cases e1 : blk v = some i
        · exact .inl e1
        · by_cases e2 : i = g
          · subst e2; exact absurd e hg
          · exact absurd ((h.1 i e0 (fun x => x.elim e2 e1)).symm.trans e) e0⟩
theorem stepOn {ty : TypeId} {σ0 σ1 σ2 : Hp} {g : Nat} {v v1 : Value} {T : TxS} (h : Step σ0 g v σ1 v1) (k : ∃ v', TxAt ty σ2 g T v' ∧ Step σ1 g v1 σ2 v') (hg : σ1 g ≠ none) : ∃ v', TxAt ty σ2 g T v' ∧ Step σ0 g v σ2 v' := by
  obtain ⟨v', a, b⟩ := k; exact ⟨v', a, h.trans b hg⟩
theorem hear65 {σ : Hp} {g : Nat} {T : TxS} {v : Value} (hT : TxAt 133 σ g T v) (m : Msg) (hk : T.key.size ≤ 140737488351232) (hn : (T.reads.length + 1) * 40 ≤ 140737488355328) :
    ACalls Tryz.prog 42 #[.pointer (some ⟨g, 0, none⟩), .agg m.cells.toArray] σ fun u σ' => u = .tuple #[.agg (T.hear m).2.1.cells.toArray, .bool (T.hear m).2.2] ∧ ∃ v', TxAt 133 σ' g (T.hear m).1 v' ∧ Step σ g v σ' v' := by
  have hg := hT.1
  unfold TxS.cells at hg
  obtain ⟨τ, rfl⟩ := open_upd hg
  clear hg
  have H : Hid (TxAt 133 _ g T v) := ⟨hT⟩
  clear hT
  (refine acalls_F ok42 (by simp) ?_; unfold c42 r42)
  (repeat' (first | (simp +contextual -dsimp only [*, Msg.cells, TxS.cells, TxS.req, TxS.rests, TxS.asks, TxS.more, ↓reduceIte, ↓evP, evQ, splice, Nat.reduceAdd, Nat.reduceEqDiff, Nat.reduceLeDiff, Nat.reduceMul, reduceCtorEq, Int.reduceLT, Int.reduceLE, Int.reduceGT, Int.reduceGE, Int.reduceEq, Int.reduceNeg]) | (refine condF_split (fun hc => ?_) (fun hc => ?_) <;> (try simp only [Bool.not_eq_true', Bool.not_eq_false', Bool.and_eq_true, Bool.or_eq_false_iff] at hc)) | refine callF_v (busy80 (T := T) (v := v) (by first | rfl | (simp only [upd_same, upd_at, set_at, *, ↓reduceIte]; done) | (simp only [upd_same, upd_at, set_at, *, ↓reduceIte]; rfl))) ?_ | refine ccallF_of (busy80 (T := T) (v := v) (by first | rfl | (simp only [upd_same, upd_at, set_at, *, ↓reduceIte]; done) | (simp only [upd_same, upd_at, set_at, *, ↓reduceIte]; rfl))) ?_ | refine gcallF_of (busy80 (T := T) (v := v) (by first | rfl | (simp only [upd_same, upd_at, set_at, *, ↓reduceIte]; done) | (simp only [upd_same, upd_at, set_at, *, ↓reduceIte]; rfl))) ?_ | (intro _; intros) | (refine And.intro ?_ ?_; focus (first | omega | ((repeat (first | exact Sub.refl _ | (refine Sub.drop ?_ ?_; focus (simp only [evN, *]; done)) | refine Sub.both ?_)); done) | (simp_all; done) | (simp_all; omega)))))
  · (refine endF_at ⟨?_, ?_⟩; (focus (first | (simp only [TxS.hear, cond_true, cond_false, Bool.and_true, Bool.true_and, Bool.and_false, Bool.false_and, *]; done) | (simp only [TxS.hear, cond_true, cond_false, Bool.and_true, Bool.true_and, Bool.and_false, Bool.false_and, *]; rfl))); (focus (simp only [TxS.hear, cond_true, cond_false, Bool.and_true, Bool.true_and, Bool.and_false, Bool.false_and, *]; exact leafKeep H.out (by repeat (first | exact Same.refl _ _ | (refine Same.updNew ?_ ?_; focus (simp only [evN, *]; done)) | (refine Same.both ?_ ?_; focus (first | exact rfl | exact .inl rfl | exact .inr rfl)) | (refine Same.updIn ?_ ?_; focus (first | exact rfl | exact .inl rfl | exact .inr rfl)) | refine Same.eq ?_)) (by first | (simp only [upd_at, *, ↓reduceIte]; done) | (simp only [upd_at, *, ↓reduceIte]; rfl)) rfl)))
  · (refine endF_at ⟨?_, ?_⟩; (focus (first | (simp only [TxS.hear, cond_true, cond_false, Bool.and_true, Bool.true_and, Bool.and_false, Bool.false_and, *]; done) | (simp only [TxS.hear, cond_true, cond_false, Bool.and_true, Bool.true_and, Bool.and_false, Bool.false_and, *]; rfl))); (focus (simp only [TxS.hear, cond_true, cond_false, Bool.and_true, Bool.true_and, Bool.and_false, Bool.false_and, *]; exact leafKeep H.out (by repeat (first | exact Same.refl _ _ | (refine Same.updNew ?_ ?_; focus (simp only [evN, *]; done)) | (refine Same.both ?_ ?_; focus (first | exact rfl | exact .inl rfl | exact .inr rfl)) | (refine Same.updIn ?_ ?_; focus (first | exact rfl | exact .inl rfl | exact .inr rfl)) | refine Same.eq ?_)) (by first | (simp only [upd_at, *, ↓reduceIte]; done) | (simp only [upd_at, *, ↓reduceIte]; rfl)) rfl)))
  · (refine endF_at ⟨?_, ?_⟩; (focus (first | (simp only [TxS.hear, cond_true, cond_false, Bool.and_true, Bool.true_and, Bool.and_false, Bool.false_and, *]; done) | (simp only [TxS.hear, cond_true, cond_false, Bool.and_true, Bool.true_and, Bool.and_false, Bool.false_and, *]; rfl))); (focus (simp only [TxS.hear, cond_true, cond_false, Bool.and_true, Bool.true_and, Bool.and_false, Bool.false_and, *]; exact leafKeep H.out (by repeat (first | exact Same.refl _ _ | (refine Same.updNew ?_ ?_; focus (simp only [evN, *]; done)) | (refine Same.both ?_ ?_; focus (first | exact rfl | exact .inl rfl | exact .inr rfl)) | (refine Same.updIn ?_ ?_; focus (first | exact rfl | exact .inl rfl | exact .inr rfl)) | refine Same.eq ?_)) (by first | (simp only [upd_at, *, ↓reduceIte]; done) | (simp only [upd_at, *, ↓reduceIte]; rfl)) rfl)))
  · refine callF_of (ACalls.beside (by simp only [evN, *]; done) (ACalls.beside (by simp only [evN, *]; done) (take82 H.out m.has m.data m.lo m.hi hn))) ?_
    rintro u σ'' ⟨σ1, ⟨σ2, ⟨rfl, v', hT', hS⟩, hn2, rfl⟩, hn1, rfl⟩
    simp only [none_upd] at hn1
    cases hf : T.fits m.lo m.hi with
    | true =>
      simp +contextual -dsimp only [*, Msg.cells, TxS.cells, TxS.req, TxS.rests, TxS.asks, TxS.more, ↓reduceIte, ↓evP, evQ, splice, Nat.reduceAdd, Nat.reduceEqDiff, Nat.reduceLeDiff, Nat.reduceMul, reduceCtorEq, Int.reduceLT, Int.reduceLE, Int.reduceGT, Int.reduceGE, Int.reduceEq, Int.reduceNeg]
      refine endF_sub (τ := σ2) (by (repeat (first | exact Sub.refl _ | (refine Sub.drop ?_ ?_; focus (simp only [evN, *]; done)) | refine Sub.both ?_)); done) ⟨?_, ?_⟩
      · first | (simp only [TxS.hear, cond_true, cond_false, Bool.and_true, Bool.true_and, Bool.and_false, Bool.false_and, *]; done) | (simp only [TxS.hear, cond_true, cond_false, Bool.and_true, Bool.true_and, Bool.and_false, Bool.false_and, *]; rfl)
      · simp only [TxS.hear, cond_true, cond_false, Bool.and_true, Bool.true_and, Bool.and_false, Bool.false_and, *]; exact ⟨v', hT', hS⟩
    | false =>
      rw [takes_no hf] at hT'
      have hg := hT'.1
      unfold TxS.cells at hg
      obtain ⟨τ2, rfl⟩ := open_upd hg
      clear hg
      simp only [none_upd] at hn1 hn2
      have H2 : Hid (TxAt 133 _ g T v') := ⟨hT'⟩
      have HS : Hid (Step _ g v _ v') := ⟨hS⟩
      clear hT' hS
      (repeat' (first | (simp +contextual -dsimp only [*, Msg.cells, TxS.cells, TxS.req, TxS.rests, TxS.asks, TxS.more, ↓reduceIte, ↓evP, evQ, splice, Nat.reduceAdd, Nat.reduceEqDiff, Nat.reduceLeDiff, Nat.reduceMul, reduceCtorEq, Int.reduceLT, Int.reduceLE, Int.reduceGT, Int.reduceGE, Int.reduceEq, Int.reduceNeg]) | (refine condF_split (fun hc => ?_) (fun hc => ?_) <;> (try simp only [Bool.not_eq_true', Bool.not_eq_false', Bool.and_eq_true, Bool.or_eq_false_iff] at hc)) | refine callF_v (ask81 (T := T) (v := v') (by first | rfl | (simp only [upd_same, upd_at, set_at, *, ↓reduceIte]; done) | (simp only [upd_same, upd_at, set_at, *, ↓reduceIte]; rfl)) _ _ (by assumption)) ?_ | refine ccallF_of (ask81 (T := T) (v := v') (by first | rfl | (simp only [upd_same, upd_at, set_at, *, ↓reduceIte]; done) | (simp only [upd_same, upd_at, set_at, *, ↓reduceIte]; rfl)) _ _ (by assumption)) ?_ | refine gcallF_of (ask81 (T := T) (v := v') (by first | rfl | (simp only [upd_same, upd_at, set_at, *, ↓reduceIte]; done) | (simp only [upd_same, upd_at, set_at, *, ↓reduceIte]; rfl)) _ _ (by assumption)) ?_ | (intro _; intros) | (refine And.intro ?_ ?_; focus (first | omega | ((repeat (first | exact Sub.refl _ | (refine Sub.drop ?_ ?_; focus (simp only [evN, *]; done)) | refine Sub.both ?_)); done) | (simp_all; done) | (simp_all; omega)))))
      refine endF_at ⟨?_, ?_⟩
      · (first | (simp only [TxS.hear, cond_true, cond_false, Bool.and_true, Bool.true_and, Bool.and_false, Bool.false_and, *]; done) | (simp only [TxS.hear, cond_true, cond_false, Bool.and_true, Bool.true_and, Bool.and_false, Bool.false_and, *]; rfl))
      · simp only [TxS.hear, cond_true, cond_false, Bool.and_true, Bool.true_and, Bool.and_false, Bool.false_and, *]
        exact stepOn HS.out (leafKeep H2.out (by repeat (first | exact Same.refl _ _ | (refine Same.updNew ?_ ?_; focus (simp only [evN, *]; done)) | (refine Same.both ?_ ?_; focus (first | exact rfl | exact .inl rfl | exact .inr rfl)) | (refine Same.updIn ?_ ?_; focus (first | exact rfl | exact .inl rfl | exact .inr rfl)) | refine Same.eq ?_)) (by first | (simp only [upd_at, *, ↓reduceIte]; done) | (simp only [upd_at, *, ↓reduceIte]; rfl)) rfl) (by rw [upd_same]; simp)
  · (repeat' (first | (simp +contextual -dsimp only [*, Msg.cells, TxS.cells, TxS.req, TxS.rests, TxS.asks, TxS.more, ↓reduceIte, ↓evP, evQ, splice, Nat.reduceAdd, Nat.reduceEqDiff, Nat.reduceLeDiff, Nat.reduceMul, reduceCtorEq, Int.reduceLT, Int.reduceLE, Int.reduceGT, Int.reduceGE, Int.reduceEq, Int.reduceNeg]) | (refine condF_split (fun hc => ?_) (fun hc => ?_) <;> (try simp only [Bool.not_eq_true', Bool.not_eq_false', Bool.and_eq_true, Bool.or_eq_false_iff] at hc)) | refine callF_v (ask81 (T := T) (v := v) (by first | rfl | (simp only [upd_same, upd_at, set_at, *, ↓reduceIte]; done) | (simp only [upd_same, upd_at, set_at, *, ↓reduceIte]; rfl)) _ _ (by assumption)) ?_ | refine ccallF_of (ask81 (T := T) (v := v) (by first | rfl | (simp only [upd_same, upd_at, set_at, *, ↓reduceIte]; done) | (simp only [upd_same, upd_at, set_at, *, ↓reduceIte]; rfl)) _ _ (by assumption)) ?_ | refine gcallF_of (ask81 (T := T) (v := v) (by first | rfl | (simp only [upd_same, upd_at, set_at, *, ↓reduceIte]; done) | (simp only [upd_same, upd_at, set_at, *, ↓reduceIte]; rfl)) _ _ (by assumption)) ?_ | (intro _; intros) | (refine And.intro ?_ ?_; focus (first | omega | ((repeat (first | exact Sub.refl _ | (refine Sub.drop ?_ ?_; focus (simp only [evN, *]; done)) | refine Sub.both ?_)); done) | (simp_all; done) | (simp_all; omega)))))
    (refine endF_at ⟨?_, ?_⟩; (focus (first | (simp only [TxS.hear, cond_true, cond_false, Bool.and_true, Bool.true_and, Bool.and_false, Bool.false_and, *]; done) | (simp only [TxS.hear, cond_true, cond_false, Bool.and_true, Bool.true_and, Bool.and_false, Bool.false_and, *]; rfl))); (focus (simp only [TxS.hear, cond_true, cond_false, Bool.and_true, Bool.true_and, Bool.and_false, Bool.false_and, *]; exact leafKeep H.out (by repeat (first | exact Same.refl _ _ | (refine Same.updNew ?_ ?_; focus (simp only [evN, *]; done)) | (refine Same.both ?_ ?_; focus (first | exact rfl | exact .inl rfl | exact .inr rfl)) | (refine Same.updIn ?_ ?_; focus (first | exact rfl | exact .inl rfl | exact .inr rfl)) | refine Same.eq ?_)) (by first | (simp only [upd_at, *, ↓reduceIte]; done) | (simp only [upd_at, *, ↓reduceIte]; rfl)) rfl)))
  all_goals (first | (refine endF_at ⟨?_, ?_⟩; (focus (first | (simp only [TxS.hear, cond_true, cond_false, Bool.and_true, Bool.true_and, Bool.and_false, Bool.false_and, *]; done) | (simp only [TxS.hear, cond_true, cond_false, Bool.and_true, Bool.true_and, Bool.and_false, Bool.false_and, *]; rfl))); (focus (simp only [TxS.hear, cond_true, cond_false, Bool.and_true, Bool.true_and, Bool.and_false, Bool.false_and, *]; exact leafKeep H.out (by repeat (first | exact Same.refl _ _ | (refine Same.updNew ?_ ?_; focus (simp only [evN, *]; done)) | (refine Same.both ?_ ?_; focus (first | exact rfl | exact .inl rfl | exact .inr rfl)) | (refine Same.updIn ?_ ?_; focus (first | exact rfl | exact .inl rfl | exact .inr rfl)) | refine Same.eq ?_)) (by first | (simp only [upd_at, *, ↓reduceIte]; done) | (simp only [upd_at, *, ↓reduceIte]; rfl)) rfl))) | ((repeat' (first | (simp +contextual -dsimp only [*, Msg.cells, TxS.cells, TxS.req, TxS.rests, TxS.asks, TxS.more, ↓reduceIte, ↓evP, evQ, splice, Nat.reduceAdd, Nat.reduceEqDiff, Nat.reduceLeDiff, Nat.reduceMul, reduceCtorEq, Int.reduceLT, Int.reduceLE, Int.reduceGT, Int.reduceGE, Int.reduceEq, Int.reduceNeg]) | (refine condF_split (fun hc => ?_) (fun hc => ?_) <;> (try simp only [Bool.not_eq_true', Bool.not_eq_false', Bool.and_eq_true, Bool.or_eq_false_iff] at hc)) | refine callF_v (rest83 (T := T) (v := v) (by first | rfl | (simp only [upd_same, upd_at, set_at, *, ↓reduceIte]; done) | (simp only [upd_same, upd_at, set_at, *, ↓reduceIte]; rfl)) _ _) ?_ | refine ccallF_of (rest83 (T := T) (v := v) (by first | rfl | (simp only [upd_same, upd_at, set_at, *, ↓reduceIte]; done) | (simp only [upd_same, upd_at, set_at, *, ↓reduceIte]; rfl)) _ _) ?_ | refine gcallF_of (rest83 (T := T) (v := v) (by first | rfl | (simp only [upd_same, upd_at, set_at, *, ↓reduceIte]; done) | (simp only [upd_same, upd_at, set_at, *, ↓reduceIte]; rfl)) _ _) ?_ | (intro _; intros) | (refine And.intro ?_ ?_; focus (first | omega | ((repeat (first | exact Sub.refl _ | (refine Sub.drop ?_ ?_; focus (simp only [evN, *]; done)) | refine Sub.both ?_)); done) | (simp_all; done) | (simp_all; omega))))); (refine endF_at ⟨?_, ?_⟩; (focus (first | (simp only [TxS.hear, cond_true, cond_false, Bool.and_true, Bool.true_and, Bool.and_false, Bool.false_and, *]; done) | (simp only [TxS.hear, cond_true, cond_false, Bool.and_true, Bool.true_and, Bool.and_false, Bool.false_and, *]; rfl))); (focus (simp only [TxS.hear, cond_true, cond_false, Bool.and_true, Bool.true_and, Bool.and_false, Bool.false_and, *]; exact leafKeep H.out (by repeat (first | exact Same.refl _ _ | (refine Same.updNew ?_ ?_; focus (simp only [evN, *]; done)) | (refine Same.both ?_ ?_; focus (first | exact rfl | exact .inl rfl | exact .inr rfl)) | (refine Same.updIn ?_ ?_; focus (first | exact rfl | exact .inl rfl | exact .inr rfl)) | refine Same.eq ?_)) (by first | (simp only [upd_at, *, ↓reduceIte]; done) | (simp only [upd_at, *, ↓reduceIte]; rfl)) rfl)))) | (refine callF_of (ACalls.beside (by simp only [evN, *]; done) (ACalls.beside (by simp only [evN, *]; done) (take82 H.out m.has m.data m.lo m.hi hn))) ?_; (rintro u σ'' ⟨σ1, ⟨σ2, ⟨rfl, v', hT', hS⟩, hn2, rfl⟩, hn1, rfl⟩); (simp only [none_upd] at hn1); simp +contextual -dsimp only [*, Msg.cells, TxS.cells, TxS.req, TxS.rests, TxS.asks, TxS.more, ↓reduceIte, ↓evP, evQ, splice, Nat.reduceAdd, Nat.reduceEqDiff, Nat.reduceLeDiff, Nat.reduceMul, reduceCtorEq, Int.reduceLT, Int.reduceLE, Int.reduceGT, Int.reduceGE, Int.reduceEq, Int.reduceNeg]; refine endF_sub (τ := σ2) (by (repeat (first | exact Sub.refl _ | (refine Sub.drop ?_ ?_; focus (simp only [evN, *]; done)) | refine Sub.both ?_)); done) ⟨?_, ?_⟩; (focus (first | (simp only [TxS.hear, cond_true, cond_false, Bool.and_true, Bool.true_and, Bool.and_false, Bool.false_and, *]; done) | (simp only [TxS.hear, cond_true, cond_false, Bool.and_true, Bool.true_and, Bool.and_false, Bool.false_and, *]; rfl))); (focus (simp only [TxS.hear, cond_true, cond_false, Bool.and_true, Bool.true_and, Bool.and_false, Bool.false_and, *]; exact ⟨v', hT', hS⟩))))
/-- What is seen: eight cells. -/
def TxS.view (T : TxS) (v : Value) : List Value := [.int .i64 T.st, .int .i64 T.er, .int .i64 T.lo, .int .i64 T.hi, .string T.key, .int .i64 T.seq, .int .i64 T.tr, v]
theorem clone79 {σ : Hp} {v : Value} {l : List Got} (hr : RowsAt 128 3 Got.cells σ v l) (hn : l.length * 40 ≤ 140737488355328) :
    ACalls Tryz.prog 95 #[v] σ fun u σ' => RowsAt 128 3 Got.cells σ' u l ∧ Made σ σ' u := by
  rcases hr with ⟨rfl, hnil⟩ | ⟨b, c, rfl, hcap, hb⟩
  · (refine acalls_F ok95 (by simp) ?_; unfold c95 r95; simp +contextual -dsimp only [TxS.cells, TxS.view, ↓reduceIte, ↓evP, evQ, splice, Nat.reduceAdd, Nat.reduceEqDiff, Nat.reduceLeDiff, Nat.reduceMul, reduceCtorEq, Int.reduceLT, Int.reduceLE, Int.reduceGT, Int.reduceGE, Int.reduceEq, Int.reduceNeg])
    exact endF_at ⟨.inl ⟨rfl, hnil⟩, Same.refl _ _, fun k hk => by cases hk⟩
  · have hsg : seg (l.flatMap Got.cells) 0 (l.length * 3) = some (l.flatMap Got.cells) := by rw [← flat_len Got.cells_len]; exact seg_all _
    have hone : (l.flatMap Got.cells).all one = true := got_one _
    obtain ⟨τ, rfl⟩ := open_upd hb
    clear hb
    (refine acalls_F ok95 (by simp) ?_; unfold c95 r95)
    (repeat' (first | (simp +contextual -dsimp only [*, TxS.cells, TxS.view, ↓reduceIte, ↓evP, evQ, splice, Nat.reduceAdd, Nat.reduceEqDiff, Nat.reduceLeDiff, Nat.reduceMul, reduceCtorEq, Int.reduceLT, Int.reduceLE, Int.reduceGT, Int.reduceGE, Int.reduceEq, Int.reduceNeg]) | (refine condF_split (fun hc => ?_) (fun hc => ?_) <;> (try simp only [Bool.not_eq_true', Bool.not_eq_false', Bool.and_eq_true, Bool.or_eq_false_iff] at hc)) | (intro _; intros) | (refine And.intro ?_ ?_; focus (first | omega | ((repeat (first | exact Sub.refl _ | (refine Sub.drop ?_ ?_; focus (simp only [evN, *]; done)) | refine Sub.both ?_)); done) | (simp_all; done) | (simp_all; omega)))))
    refine app_b (by first | (simp only [Nat.reduceMul, Nat.one_mul, Nat.zero_mul, rdn_row, rdn_same, rdn_ne, seg_zero, seg_cons, seg_skip, Option.map_some, not_false_eq_true, *]; done) | (simp only [Nat.reduceMul, Nat.one_mul, Nat.zero_mul, rdn_row, rdn_same, rdn_ne, seg_zero, seg_cons, seg_skip, Option.map_some, not_false_eq_true, *]; exact rfl)) hone (by first | (simp only [upd_at, *, ↓reduceIte]; done) | (simp only [upd_at, *, ↓reduceIte]; rfl)) rfl (by omega) (by omega) (by unfold maxLen; omega) ?_ ?_
    all_goals (repeat' (first | (simp +contextual -dsimp only [*, TxS.cells, TxS.view, ↓reduceIte, ↓evP, evQ, splice, Nat.reduceAdd, Nat.reduceEqDiff, Nat.reduceLeDiff, Nat.reduceMul, reduceCtorEq, Int.reduceLT, Int.reduceLE, Int.reduceGT, Int.reduceGE, Int.reduceEq, Int.reduceNeg]) | (refine condF_split (fun hc => ?_) (fun hc => ?_) <;> (try simp only [Bool.not_eq_true', Bool.not_eq_false', Bool.and_eq_true, Bool.or_eq_false_iff] at hc)) | (intro _; intros) | (refine And.intro ?_ ?_; focus (first | omega | ((repeat (first | exact Sub.refl _ | (refine Sub.drop ?_ ?_; focus (simp only [evN, *]; done)) | refine Sub.both ?_)); done) | (simp_all; done) | (simp_all; omega)))))
    all_goals (refine endF_at ⟨?_, ?_, ?_⟩; (focus exact rows_mk (by simp) (by omega) (by first | (simp only [upd_at, *, ↓reduceIte, List.nil_append]; done) | (simp only [upd_at, *, ↓reduceIte, List.nil_append]; rfl))); (focus exact (by repeat (first | exact Same.refl _ _ | (refine Same.updNew ?_ ?_; focus (simp only [evN, *]; done)) | (refine Same.both ?_ ?_; focus (first | exact rfl | exact .inl rfl | exact .inr rfl)) | (refine Same.updIn ?_ ?_; focus (first | exact rfl | exact .inl rfl | exact .inr rfl)) | refine Same.eq ?_))); (focus (intro k hk; cases hk; exact (by simp only [evN, *]; done))))
theorem view63 {σ : Hp} {g : Nat} {T : TxS} {v : Value} (hT : TxAt 133 σ g T v) (hn : T.reads.length * 40 ≤ 140737488355328) :
    ACalls Tryz.prog 71 #[.pointer (some ⟨g, 0, none⟩)] σ fun u σ' => ∃ v', u = .agg (T.view v').toArray ∧ RowsAt 128 3 Got.cells σ' v' T.reads ∧ Made σ σ' v' := by
  obtain ⟨hg, hr⟩ := hT
  obtain ⟨a, c, rfl⟩ := hr.slice
  unfold TxS.cells at hg
  obtain ⟨τ, rfl⟩ := open_upd hg
  clear hg
  have H : Hid (RowsAt 128 3 Got.cells _ _ _) := ⟨hr⟩
  clear hr
  (refine acalls_F ok71 (by simp) ?_; unfold c71 r71)
  (repeat' (first | (simp +contextual -dsimp only [*, TxS.cells, TxS.view, ↓reduceIte, ↓evP, evQ, splice, Nat.reduceAdd, Nat.reduceEqDiff, Nat.reduceLeDiff, Nat.reduceMul, reduceCtorEq, Int.reduceLT, Int.reduceLE, Int.reduceGT, Int.reduceGE, Int.reduceEq, Int.reduceNeg]) | (refine condF_split (fun hc => ?_) (fun hc => ?_) <;> (try simp only [Bool.not_eq_true', Bool.not_eq_false', Bool.and_eq_true, Bool.or_eq_false_iff] at hc)) | (intro _; intros) | (refine And.intro ?_ ?_; focus (first | omega | ((repeat (first | exact Sub.refl _ | (refine Sub.drop ?_ ?_; focus (simp only [evN, *]; done)) | refine Sub.both ?_)); done) | (simp_all; done) | (simp_all; omega)))))
  refine callF_of (ACalls.beside ?_ (ACalls.beside ?_ (clone79 H.out hn))) ?_
  · (simp only [evN, *]; done)
  · (simp only [evN, *]; done)
  rintro u σ'' ⟨σ1, ⟨σ2, ⟨hR, hM⟩, hn2, rfl⟩, hn1, rfl⟩
  simp only [none_upd] at hn1
  obtain ⟨a', c', rfl⟩ := hR.slice
  have H2 : Hid (RowsAt 128 3 Got.cells _ _ _ ∧ Made _ _ _) := ⟨hR, hM⟩
  clear hR hM
  simp +contextual -dsimp only [*, TxS.cells, TxS.view, ↓reduceIte, ↓evP, evQ, splice, Nat.reduceAdd, Nat.reduceEqDiff, Nat.reduceLeDiff, Nat.reduceMul, reduceCtorEq, Int.reduceLT, Int.reduceLE, Int.reduceGT, Int.reduceGE, Int.reduceEq, Int.reduceNeg]
  (with_reducible refine endF_sub (τ := σ2) ?_ ⟨.slice a' T.reads.length c', ?_⟩)
  · (repeat (first | exact Sub.refl _ | (refine Sub.drop ?_ ?_; focus (simp only [evN, *]; done)) | refine Sub.both ?_)); done
  · exact ⟨rfl, H2.out.1, H2.out.2⟩
theorem clone67 {σ : Hp} {g : Nat} {T : TxS} {v : Value} (hT : TxAt 133 σ g T v) (hn : T.reads.length * 40 ≤ 140737488355328) :
    ACalls Tryz.prog 36 #[.pointer (some ⟨g, 0, none⟩)] σ fun u σ' => ∃ g' v', u = .pointer (some ⟨g', 0, none⟩) ∧ TxAt 133 σ' g' T v' ∧ Made σ σ' v' ∧ σ g' = none := by
  have hg := hT.1
  unfold TxS.cells at hg
  obtain ⟨τ, rfl⟩ := open_upd hg
  clear hg
  have H : Hid (TxAt 133 _ _ _ _) := ⟨hT⟩
  clear hT
  (refine acalls_F ok36 (by simp) ?_; unfold c36 r36)
  (repeat' (first | (simp +contextual -dsimp only [*, TxS.cells, TxS.view, ↓reduceIte, ↓evP, evQ, splice, Nat.reduceAdd, Nat.reduceEqDiff, Nat.reduceLeDiff, Nat.reduceMul, reduceCtorEq, Int.reduceLT, Int.reduceLE, Int.reduceGT, Int.reduceGE, Int.reduceEq, Int.reduceNeg]) | (refine condF_split (fun hc => ?_) (fun hc => ?_) <;> (try simp only [Bool.not_eq_true', Bool.not_eq_false', Bool.and_eq_true, Bool.or_eq_false_iff] at hc)) | (intro _; intros) | (refine And.intro ?_ ?_; focus (first | omega | ((repeat (first | exact Sub.refl _ | (refine Sub.drop ?_ ?_; focus (simp only [evN, *]; done)) | refine Sub.both ?_)); done) | (simp_all; done) | (simp_all; omega)))))
  refine gcallF_first (view63 H.out hn) (fun u σ₁ h => ?_) ?_
  · obtain ⟨v', _, _, hM⟩ := h; exact hM.sub
  rintro u σ₁ ⟨v', rfl, hR, hM⟩
  obtain ⟨a', c', rfl⟩ := hR.slice
  have H2 : Hid (RowsAt 128 3 Got.cells _ _ _ ∧ Made _ _ _) := ⟨hR, hM⟩
  clear hR hM
  simp +contextual -dsimp only [*, TxS.cells, TxS.view, ↓reduceIte, ↓evP, evQ, splice, Nat.reduceAdd, Nat.reduceEqDiff, Nat.reduceLeDiff, Nat.reduceMul, reduceCtorEq, Int.reduceLT, Int.reduceLE, Int.reduceGT, Int.reduceGE, Int.reduceEq, Int.reduceNeg]
  intro b hb
  (with_reducible refine endF_at ⟨b, .slice a' T.reads.length c', ?_⟩)
  exact ⟨rfl, ⟨by rw [upd_same]; rfl, H2.out.1.fresh hb _⟩, H2.out.2.grow hb _, H2.out.2.old hb⟩
theorem read64n (key : ByteArray) (σ : Hp) : ACalls Tryz.prog 51 #[.pointer none, .string key] σ fun u σ' => u = .tuple #[.agg #[.bool false, .string ⟨#[]⟩], .agg ({} : Msg).cells.toArray, .int .i64 3] ∧ σ' = σ := by
  (refine acalls_F ok51 (by simp) ?_; unfold c51 r51)
  (repeat' (first | (simp +contextual -dsimp only [*, TxS.cells, TxS.view, Msg.cells, ↓reduceIte, ↓evP, evQ, splice, Nat.reduceAdd, Nat.reduceEqDiff, Nat.reduceLeDiff, Nat.reduceMul, reduceCtorEq, Int.reduceLT, Int.reduceLE, Int.reduceGT, Int.reduceGE, Int.reduceEq, Int.reduceNeg]) | (refine condF_split (fun hc => ?_) (fun hc => ?_) <;> (try simp only [Bool.not_eq_true', Bool.not_eq_false', Bool.and_eq_true, Bool.or_eq_false_iff] at hc)) | (intro _; intros) | (refine And.intro ?_ ?_; focus (first | omega | ((repeat (first | exact Sub.refl _ | (refine Sub.drop ?_ ?_; focus (simp only [evN, *]; done)) | refine Sub.both ?_)); done) | (simp_all; done) | (simp_all; omega)))))
  all_goals (refine endF_det ?_ ?_; (focus ((try simp only [cond_true, cond_false, *]) <;> ((try simp only [decide_eq_true_eq, decide_eq_false_iff_not] at *) <;> first | rfl | (simp []; done) | (simp_all []; done) | (simp []; omega) | (simp []; (rw [Bool.eq_iff_iff]); simp; omega) | (simp_all [] <;> omega) | ((try unfold id); (rw [Value.bool.injEq, Bool.eq_iff_iff]); simp <;> omega) | ((try unfold id); (repeat' split) <;> simp_all <;> omega) | (simp_all [] <;> (repeat' split) <;> simp_all <;> omega)))); (focus ((try simp only [cond_true, cond_false, set_same, *]); exact (by (repeat (first | exact Sub.refl _ | (refine Sub.drop ?_ ?_; focus (simp only [evN, *]; done)) | refine Sub.both ?_)); done))))
theorem hear65n (m : Msg) (σ : Hp) : ACalls Tryz.prog 42 #[.pointer none, .agg m.cells.toArray] σ fun u σ' => u = .tuple #[.agg ({} : Msg).cells.toArray, .bool false] ∧ σ' = σ := by
  (refine acalls_F ok42 (by simp) ?_; unfold c42 r42)
  (repeat' (first | (simp +contextual -dsimp only [*, TxS.cells, TxS.view, Msg.cells, ↓reduceIte, ↓evP, evQ, splice, Nat.reduceAdd, Nat.reduceEqDiff, Nat.reduceLeDiff, Nat.reduceMul, reduceCtorEq, Int.reduceLT, Int.reduceLE, Int.reduceGT, Int.reduceGE, Int.reduceEq, Int.reduceNeg]) | (refine condF_split (fun hc => ?_) (fun hc => ?_) <;> (try simp only [Bool.not_eq_true', Bool.not_eq_false', Bool.and_eq_true, Bool.or_eq_false_iff] at hc)) | (intro _; intros) | (refine And.intro ?_ ?_; focus (first | omega | ((repeat (first | exact Sub.refl _ | (refine Sub.drop ?_ ?_; focus (simp only [evN, *]; done)) | refine Sub.both ?_)); done) | (simp_all; done) | (simp_all; omega)))))
  all_goals (refine endF_det ?_ ?_; (focus ((try simp only [cond_true, cond_false, *]) <;> ((try simp only [decide_eq_true_eq, decide_eq_false_iff_not] at *) <;> first | rfl | (simp []; done) | (simp_all []; done) | (simp []; omega) | (simp []; (rw [Bool.eq_iff_iff]); simp; omega) | (simp_all [] <;> omega) | ((try unfold id); (rw [Value.bool.injEq, Bool.eq_iff_iff]); simp <;> omega) | ((try unfold id); (repeat' split) <;> simp_all <;> omega) | (simp_all [] <;> (repeat' split) <;> simp_all <;> omega)))); (focus ((try simp only [cond_true, cond_false, set_same, *]); exact (by (repeat (first | exact Sub.refl _ | (refine Sub.drop ?_ ?_; focus (simp only [evN, *]; done)) | refine Sub.both ?_)); done))))
theorem again69n (n : Int) (σ : Hp) : ACalls Tryz.prog 55 #[.pointer none, .int .i64 n] σ fun u σ' => u = .tuple #[.agg ({} : Msg).cells.toArray, .int .i64 3] ∧ σ' = σ := by
  (refine acalls_F ok55 (by simp) ?_; unfold c55 r55)
  (repeat' (first | (simp +contextual -dsimp only [*, TxS.cells, TxS.view, Msg.cells, ↓reduceIte, ↓evP, evQ, splice, Nat.reduceAdd, Nat.reduceEqDiff, Nat.reduceLeDiff, Nat.reduceMul, reduceCtorEq, Int.reduceLT, Int.reduceLE, Int.reduceGT, Int.reduceGE, Int.reduceEq, Int.reduceNeg]) | (refine condF_split (fun hc => ?_) (fun hc => ?_) <;> (try simp only [Bool.not_eq_true', Bool.not_eq_false', Bool.and_eq_true, Bool.or_eq_false_iff] at hc)) | (intro _; intros) | (refine And.intro ?_ ?_; focus (first | omega | ((repeat (first | exact Sub.refl _ | (refine Sub.drop ?_ ?_; focus (simp only [evN, *]; done)) | refine Sub.both ?_)); done) | (simp_all; done) | (simp_all; omega)))))
  all_goals (refine endF_det ?_ ?_; (focus ((try simp only [cond_true, cond_false, *]) <;> ((try simp only [decide_eq_true_eq, decide_eq_false_iff_not] at *) <;> first | rfl | (simp []; done) | (simp_all []; done) | (simp []; omega) | (simp []; (rw [Bool.eq_iff_iff]); simp; omega) | (simp_all [] <;> omega) | ((try unfold id); (rw [Value.bool.injEq, Bool.eq_iff_iff]); simp <;> omega) | ((try unfold id); (repeat' split) <;> simp_all <;> omega) | (simp_all [] <;> (repeat' split) <;> simp_all <;> omega)))); (focus ((try simp only [cond_true, cond_false, set_same, *]); exact (by (repeat (first | exact Sub.refl _ | (refine Sub.drop ?_ ?_; focus (simp only [evN, *]; done)) | refine Sub.both ?_)); done))))
theorem finish66n (σ : Hp) : ACalls Tryz.prog 47 #[.pointer none] σ fun u σ' => u = .tuple #[.int .i64 0, .int .i64 3] ∧ σ' = σ := by
  (refine acalls_F ok47 (by simp) ?_; unfold c47 r47)
  (repeat' (first | (simp +contextual -dsimp only [*, TxS.cells, TxS.view, Msg.cells, ↓reduceIte, ↓evP, evQ, splice, Nat.reduceAdd, Nat.reduceEqDiff, Nat.reduceLeDiff, Nat.reduceMul, reduceCtorEq, Int.reduceLT, Int.reduceLE, Int.reduceGT, Int.reduceGE, Int.reduceEq, Int.reduceNeg]) | (refine condF_split (fun hc => ?_) (fun hc => ?_) <;> (try simp only [Bool.not_eq_true', Bool.not_eq_false', Bool.and_eq_true, Bool.or_eq_false_iff] at hc)) | (intro _; intros) | (refine And.intro ?_ ?_; focus (first | omega | ((repeat (first | exact Sub.refl _ | (refine Sub.drop ?_ ?_; focus (simp only [evN, *]; done)) | refine Sub.both ?_)); done) | (simp_all; done) | (simp_all; omega)))))
  all_goals (refine endF_det ?_ ?_; (focus ((try simp only [cond_true, cond_false, *]) <;> ((try simp only [decide_eq_true_eq, decide_eq_false_iff_not] at *) <;> first | rfl | (simp []; done) | (simp_all []; done) | (simp []; omega) | (simp []; (rw [Bool.eq_iff_iff]); simp; omega) | (simp_all [] <;> omega) | ((try unfold id); (rw [Value.bool.injEq, Bool.eq_iff_iff]); simp <;> omega) | ((try unfold id); (repeat' split) <;> simp_all <;> omega) | (simp_all [] <;> (repeat' split) <;> simp_all <;> omega)))); (focus ((try simp only [cond_true, cond_false, set_same, *]); exact (by (repeat (first | exact Sub.refl _ | (refine Sub.drop ?_ ?_; focus (simp only [evN, *]; done)) | refine Sub.both ?_)); done))))
theorem view63n (σ : Hp) : ACalls Tryz.prog 71 #[.pointer none] σ fun u σ' => u = .agg #[.int .i64 0, .int .i64 0, .int .i64 0, .int .i64 0, .string ⟨#[]⟩, .int .i64 0, .int .i64 0, .slice none 0 0] ∧ σ' = σ := by
  (refine acalls_F ok71 (by simp) ?_; unfold c71 r71)
  (repeat' (first | (simp +contextual -dsimp only [*, TxS.cells, TxS.view, Msg.cells, ↓reduceIte, ↓evP, evQ, splice, Nat.reduceAdd, Nat.reduceEqDiff, Nat.reduceLeDiff, Nat.reduceMul, reduceCtorEq, Int.reduceLT, Int.reduceLE, Int.reduceGT, Int.reduceGE, Int.reduceEq, Int.reduceNeg]) | (refine condF_split (fun hc => ?_) (fun hc => ?_) <;> (try simp only [Bool.not_eq_true', Bool.not_eq_false', Bool.and_eq_true, Bool.or_eq_false_iff] at hc)) | (intro _; intros) | (refine And.intro ?_ ?_; focus (first | omega | ((repeat (first | exact Sub.refl _ | (refine Sub.drop ?_ ?_; focus (simp only [evN, *]; done)) | refine Sub.both ?_)); done) | (simp_all; done) | (simp_all; omega)))))
  all_goals (refine endF_det ?_ ?_; (focus ((try simp only [cond_true, cond_false, *]) <;> ((try simp only [decide_eq_true_eq, decide_eq_false_iff_not] at *) <;> first | rfl | (simp []; done) | (simp_all []; done) | (simp []; omega) | (simp []; (rw [Bool.eq_iff_iff]); simp; omega) | (simp_all [] <;> omega) | ((try unfold id); (rw [Value.bool.injEq, Bool.eq_iff_iff]); simp <;> omega) | ((try unfold id); (repeat' split) <;> simp_all <;> omega) | (simp_all [] <;> (repeat' split) <;> simp_all <;> omega)))); (focus ((try simp only [cond_true, cond_false, set_same, *]); exact (by (repeat (first | exact Sub.refl _ | (refine Sub.drop ?_ ?_; focus (simp only [evN, *]; done)) | refine Sub.both ?_)); done))))
theorem nil_read (T : TxS) (key : ByteArray) : (T.read key).2.2.1.writes = .slice none 0 0 ∧ (T.read key).2.2.1.keys = .slice none 0 0 := by
  unfold TxS.read
  cases decide (T.st ≥ 3) <;> cases T.busy <;> cases goodK key <;> first | exact ⟨rfl, rfl⟩ | (cases T.find key <;> exact ⟨rfl, rfl⟩)
theorem nil_hear (T : TxS) (m : Msg) : (T.hear m).2.1.writes = .slice none 0 0 ∧ (T.hear m).2.1.keys = .slice none 0 0 := by
  unfold TxS.hear
  cases (T.busy && decide (m.tx = T.id) && decide (m.seq = T.seq)) <;> cases (decide (m.kind = 4) && decide (T.st = 1)) <;> cases (decide (m.kind = 6) && decide (T.st = 2)) <;> cases (m.hit && T.fits m.lo m.hi) <;> cases decide (m.err = 0) <;> exact ⟨rfl, rfl⟩
theorem nil_again (T : TxS) (n : Int) : (T.again n).2.1.writes = .slice none 0 0 ∧ (T.again n).2.1.keys = .slice none 0 0 := by
  unfold TxS.again
  cases T.busy <;> cases decide (T.tr < n) <;> cases decide (T.st = 1) <;> exact ⟨rfl, rfl⟩
theorem reads_read (T : TxS) (key : ByteArray) : (T.read key).1.reads = T.reads := by
  unfold TxS.read
  cases decide (T.st ≥ 3) <;> cases T.busy <;> cases goodK key <;> first | rfl | (cases T.find key <;> rfl)
theorem reads_again (T : TxS) (n : Int) : (T.again n).1.reads = T.reads := by
  unfold TxS.again
  cases T.busy <;> cases decide (T.tr < n) <;> cases decide (T.st = 1) <;> rfl
theorem reads_finish (T : TxS) : T.finish.1.reads = T.reads := by
  unfold TxS.finish
  cases decide (T.st = 3) <;> cases decide (T.st = 4) <;> cases T.busy <;> rfl
theorem TxAt.keepF {ty : TypeId} {σ σ' : Hp} {g : Nat} {T : TxS} {v : Value} {F : Nat → Prop} (h : TxAt ty σ g T v) (hs : Same F σ σ') (hg : ¬ F g) (hF : ∀ k, blk v = some k → ¬ F k) : TxAt ty σ' g T v :=
  ⟨by rw [hs g (by rw [h.1]; simp) hg]; exact h.1, h.2.sameF hs hF⟩
theorem TxAt.known {ty : TypeId} {σ : Hp} {g : Nat} {T : TxS} {v : Value} (h : TxAt ty σ g T v) {k : Nat} (hk : blk v = some k) : σ k ≠ none := by
  rcases h.2 with ⟨rfl, _⟩ | ⟨b, c, rfl, _, hb⟩
  · cases hk
  · cases hk; rw [hb]; simp
end Go.Proofs.YtaoafjlocjjbbaaGreatDoor
